/- Parts of the proof: Rd0. -/
import Derived.Test.YtncmhenfgbcihabG11
namespace Go.Proofs.Ytncmhenfgbcihab
open Go.RowKit
set_option linter.unusedSimpArgs false
set_option linter.unusedVariables false
namespace Rhw
open Num Rd D Run Mem HierW Hpw
section
variable {E : Ev} {w w' : World} {L L' : RL} {h h' : Hp} {d : Nat} {s : Sv} {P : Pl} {m : Me} {fr : Sf} {vs : Value}
set_option maxRecDepth 100000 in
set_option maxHeartbeats 8000000 in
theorem put0 (H : RH E w L h d s) (hs : s = Sv.run ∨ ∃ c, s = Sv.ends c) (F : Fr E w L P m fr vs) (v : Vl) (h0 : fr.stk = []) :
    Calls Try.prog 109 #[.pointer (some ⟨E.hb,0,none⟩),.pointer (some ⟨P.cb,0,none⟩),.agg #[.int .i64 v.kind,.int .i64 v.n]] w (PutR E L P m h d (putS s (fr.stk ++ [v]) m) ⟨fr.loc,fr.stk ++ [v],fr.at_⟩ w):=by
  obtain ⟨io,hi',hy0,hy1,hy2⟩:=info_parts info_val
  have HH:=Lib.hid H
  have HF:=Lib.hid F
  have f9:=F.fz 9 (by decide)
  have hcb:=F.cbw
  have hcb1 : P.cb < w.heap.size + 1:=by omega
  have hcb2 : P.cb < w.heap.size + 1 + 1:=by omega
  have hcb3 : P.cb < w.heap.size + 1 + 1 + 1:=by omega
  have hfx : Hid (∀ k,FX E L P k → k < w.heap.size):=fun k hk=>by
    rcases hk with (hk | hk | hk) | hk
    · exact (own_lo H.rows hk).2
    · rw [hk];exact F.cbw
    · rw [hk];exact F.lbw
    · exact F.zlt k hk
  obtain ⟨sa,scap,rfl,k1,k2⟩:=F.stk.len
  have c9 : w.cell? ⟨P.cb,9,none⟩ = some (.slice sa 0 scap):=by have:=F.c9;rw [h0] at this;exact this
  have hl0 : fr.stk.length = 0:=by rw [h0];rfl
  replace h0:=Lib.hid h0
  clear H F k1 hl0
  cases sa
  all_goals
    go_enter Try.func109,Try.ntmps109
    go_wp2
    go_region_law ((first | (refine step_append_lies _ rfl (.tmp 13) (.tmp 15) 100 rfl w.heap.size 104 io (.agg #[.int .i64 0,.int .i64 0]) 2 16 Try.underlying100 hi' hy0 hy1 hy2 rfl (by decide) _ 0 [] (by rfl) (by refine row0 (by first | omega | (simp;omega)) ?_;repeat (first | exact heap_new' (by simp) | refine heap_old' ?_)) ⟨_,0,none⟩ 1 1 [.int .i64 v.kind,.int .i64 v.n] (by rfl) rfl (by exact news2 (by go_simp) (by go_simp)) (by simp [Value.oneCell']) (by decide) (by unfold maxLen;omega) (by omega) (by first | omega | (simp;omega)) _ rfl ?_;intro g4 cap4 w4 hown4 hgrow4 hat4 hlt4;have HB4:=Lib.hid (grown_below (B:=w.heap.size) (w:=w) (by first | omega | (simp;omega)) (by exact Rd.byB) (show World.ownsRow _ w.heap.size 104 2 _ 0 [] by refine row0 (by first | omega | (simp;omega)) ?_;repeat (first | exact heap_new' (by simp) | refine heap_old' ?_)) hgrow4);have c9'':=kept HB4.out hcb c9;have f9'':=(kpB (X:=fun _=>False) HB4.out).frz f9 hcb (fun e=>e);simp only [Nat.zero_add,List.nil_append] at hown4;replace hown4:=Lib.hid hown4;clear hgrow4 hat4) | fail))
    all_goals
      have hvc : vcells (fr.stk ++ [v]) = [.int .i64 v.kind,.int .i64 v.n]:=by rw [h0.out];rfl
      have hrow:=hown4.out
      rw [← hvc] at hrow
      have V4 : VS w4 (FX E L P) (.slice (some ⟨g4,0,none⟩) 1 cap4) (fr.stk ++ [v]):=VS.of_row (base:=w.heap.size) (by rw [h0.out] at hrow ⊢;exact hrow) (fun k hk=>hfx.out k hk)
      have F4:=HF.out.below HB4.out
      have F5:=Lib.hid (F4.push V4)
      have H5:=Lib.hid ((HH.out.below HB4.out).frame F4 (kpC P w4 9 (.slice (some ⟨g4,0,none⟩) 1 cap4)))
      have K5:=Lib.hid (kpFX (E:=E) (L:=L) (P:=P) (kpC P w4 9 (.slice (some ⟨g4,0,none⟩) 1 cap4)) (fun k e=>.inr e))
      have c3':=F5.out.c3
      have c9n:=F5.out.c9
      clear hvc hrow V4 F4 c9'' f9'' c9
      rcases hs with rfl | ⟨c,rfl⟩
      · by_cases hfit : (size (fr.stk ++ [v]) : Int) ≤ m.stack
        · have hf : decide ((size (fr.stk ++ [v]) : Int) ≤ m.stack) = true:=by simpa using hfit
          go_wp2_with (first | (go_at_call 102;refine (sizeR F5.out.stk (by rw [h0.out];simp)).mono ?_;rintro e w6 ⟨rfl,rfl⟩) | (go_at_call 156;refine (stopsF H5.out rfl).mono ?_;rintro e w6 ⟨rfl,rfl⟩) | (go_at_call 104;refine (mustT H5.out rfl).mono ?_;rintro e w6 ⟨rfl,rfl⟩))
          go_end0
          refine ⟨_,rfl,F5.out,?_,(kpB HB4.out).trans K5.out (fun _ h=>.inl h)⟩
          rw [putS_run,if_pos hfit];exact H5.out
        · have hf : decide ((size (fr.stk ++ [v]) : Int) ≤ m.stack) = false:=by simpa using hfit
          go_wp2_with (first | (go_at_call 102;refine (sizeR F5.out.stk (by rw [h0.out];simp)).mono ?_;rintro e w6 ⟨rfl,rfl⟩) | (go_at_call 156;refine (stopsF H5.out rfl).mono ?_;rintro e w6 ⟨rfl,rfl⟩) | (go_at_call 104;refine (mustF H5.out rfl).mono ?_;rintro e w6 ⟨rfl,rfl⟩))
          go_end0
          obtain ⟨q1,q2⟩:=ended H5.out rfl 6 (Below.refl _ _)
          refine ⟨_,rfl,F5.out.heap q2 same_own,?_,((kpB HB4.out).trans K5.out (fun _ h=>.inl h)).trans q2 (fun _ h=>.inl (.inl h))⟩
          rw [putS_run,if_neg (by omega)];exact q1
      · go_wp2_with (first | (go_at_call 102;refine (sizeR F5.out.stk (by rw [h0.out];simp)).mono ?_;rintro e w6 ⟨rfl,rfl⟩) | (go_at_call 156;refine (stopsO H5.out rfl).mono ?_;rintro e w6 ⟨rfl,rfl⟩))
        go_end0
        exact ⟨_,rfl,F5.out,H5.out,(kpB HB4.out).trans K5.out (fun _ h=>.inl h)⟩
end
end Rhw
end Go.Proofs.Ytncmhenfgbcihab
