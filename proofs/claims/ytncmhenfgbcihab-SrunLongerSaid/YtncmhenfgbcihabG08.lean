/- Parts of the proof: Pt1. -/
import Derived.Test.YtncmhenfgbcihabG07
namespace Go.Proofs.Ytncmhenfgbcihab
open Go.RowKit
set_option linter.unusedSimpArgs false
set_option linter.unusedVariables false
namespace Hpw
open Num Rd D Run Mem HierW
section
variable {E : Ev} {w w' w1 w2 : World} {L L' L1 : Lay} {h h' h1 h2 : Hp} {d : Nat} {P : PS} {m : Me} {fr fr' fr1 : Sf} {vs vs1 : Value}
theorem Gr.upon (S0 : ST E w L P m d h' fr' vs) (G : Gr E L P vs w L1 vs1 w1) (S1 : ST E w1 L1 P m d h fr vs1) {b : Nat} (h1 : w.heap.size ≤ b) (nf : ¬ Hpw.fo E L1 P vs1 b) (x y : Value) : LftF E L P m d vs w ((w1.setCell ⟨b,0,none⟩ x).setCell ⟨b,1,none⟩ y) h fr:=by
  have hB:=S0.base
  exact ⟨L1,vs1,(G.kp.setCell (p:=⟨b,0,none⟩) (.inr h1) x).setCell (p:=⟨b,1,none⟩) (.inr h1) y,G.ow,G.st,(S1.res (by omega) nf 0 x).res (by omega) nf 1 y⟩
theorem throw_no {l : List Cls} {v : Vl} {h h2 : Hp} {u : Unit} (hr : (Run.throw l v h : Res Unit) = .ok u h2) : False:=by
  unfold Run.throw raise new at hr
  split at hr
  · cases hr
  · split at hr
    · split at hr <;> cases hr
    · cases hr
set_option maxRecDepth 100000 in
set_option maxHeartbeats 2000000 in
theorem do11 (S : ST E w L P m d h fr vs) (hbig : fr.stk.length ≤ 1000) (hatb : fr.at_ ≤ 100000) (hs : h.steps < E.fuel) (hfu : E.fuel ≤ 60000) (a b c n : Int) (args : List Int) (hi : m.code[fr.at_]? = some ⟨11, a, b, c, n, args⟩) (ha : 0 ≤ a) :
    Calls Try.prog 124 #[.pointer (some ⟨P.cb,0,none⟩)] w (DoR E L P m d vs fr w (.go ⟨fr.loc,fr.stk,a.toNat⟩ (stepped h))):=by
  obtain ⟨a,rfl⟩:=Int.eq_ofNat_of_zero_le ha
  have HS:=Lib.hid S
  have hcb:=S.cbw
  have hat : fr.at_ < m.code.length:=(List.getElem?_eq_some_iff.1 hi).1
  obtain ⟨ica,icap,hvc,i1,i2,iel⟩:=id S.M.co
  obtain ⟨ib,io,rfl,hib,hie⟩:=iel fr.at_ hat
  have hx : m.code[fr.at_] = ⟨11,a,b,c,n,args⟩:=by rw [List.getElem?_eq_getElem hat] at hi;exact Option.some.inj hi
  rw [hx] at hie
  obtain ⟨x0,x1,x2,x3,x4,_,va,x5,hva⟩:=hie
  obtain ⟨aa,acap,rfl,_⟩:=hva
  simp only at x0 x1 x2 x3 x4
  have c7:=S.c7
  rw [hvc] at c7
  have c0:=S.c0
  have c11:=S.c11
  have nr:=S.fo_new (Nat.le_refl _)
  have nrO : ¬ own E L w.heap.size:=fun hk=>nr (.inl hk)
  have nib : ¬ fo E L P vs ib:=fun hk=>by have:=(S.fo_lo hk).1;omega
  have nibO : ¬ own E L ib:=fun hk=>nib (.inl hk)
  have hibw : ib < w.heap.size:=by have:=S.base;omega
  have hati : (fr.at_ : Int) < m.code.length:=by omega
  have hatd : decide ((fr.at_ : Int) < m.code.length) = true:=by simpa using hati
  have hwr : IntKind.i64.wrap ((fr.at_ : Int) + 1) = (fr.at_ : Int) + 1:=by rw [Num.wrap_i64,wrap64_id (by unfold Ok;omega)]
  have HCO:=Lib.hid hvc
  clear S iel hi hx hvc i1
  go_enter Try.func124,Try.ntmps124
  go_wp2_with (go_at_call 178;refine (stepOk (HS.out.below (by exact Rd.byB)).H hs hfu).mono ?_;rintro e w2 ⟨rfl,H2,K2⟩;have S2:=(HS.out.below (w':=w.alloc (.cells #[.int .i64 0,.int .i64 0] 118)) (by exact Rd.byB)).heap K2 same_own H2;have r0:=K2.cell (c:=w.heap.size) (o:=0) (v:=.int .i64 0) (by go_simp) nrO;have r1:=K2.cell (c:=w.heap.size) (o:=1) (v:=.int .i64 0) (by go_simp) nrO;have rf0:=K2.frz (c:=w.heap.size) (o:=0) (b:=false) (by go_simp) (by simp) nrO;have rf1:=K2.frz (c:=w.heap.size) (o:=1) (b:=false) (by go_simp) (by simp) nrO;have z0:=S2.c0;have z11:=S2.c11;have z7:=S2.c7;rw [HCO.out] at z7;have u0:=K2.cell (c:=ib) (o:=io + fr.at_ * 6) (v:=.int .i64 (11)) (by go_simp) nibO;have u1:=K2.cell (c:=ib) (o:=io + fr.at_ * 6 + 1) (v:=.int .i64 a) (by go_simp) nibO;have u2:=K2.cell (c:=ib) (o:=io + fr.at_ * 6 + 2) (v:=.int .i64 b) (by go_simp) nibO;have u3:=K2.cell (c:=ib) (o:=io + fr.at_ * 6 + 3) (v:=.int .i64 c) (by go_simp) nibO;have u4:=K2.cell (c:=ib) (o:=io + fr.at_ * 6 + 4) (v:=.int .i64 n) (by go_simp) nibO;have u5:=K2.cell (c:=ib) (o:=io + fr.at_ * 6 + 5) (v:=.slice aa args.length acap) (by go_simp) nibO;have GW:=Lib.hid (show Gr E L P vs w L vs w2 from ⟨(Kp.of_below (B:=w.heap.size) (X:=fo E L P vs) (w':=w.alloc (.cells #[.int .i64 0,.int .i64 0] 118)) (by exact Rd.byB) (Nat.le_refl _)).trans K2 (fun y hy=>.inl (.inl hy)),fun _ q=>.inl q,fun _ q=>.inl q⟩);have nf2:=S2.fo_new (Nat.le_refl _);have hcb2:=S2.cbw;have hrw:=cell_lt r0;have hib2:=cell_lt u0;replace S2:=Lib.hid S2;clear H2 K2 c7 c0 c11 x0 x1 x2 x3 x4 x5)
  refine wp_region_held_drew (S:=fun w'=>w'.cell? ⟨P.cb,11,none⟩ = some (.int .i64 fr.at_) ∧ w'.cell? ⟨P.cb,7,none⟩ = some (.slice (some ⟨ib,io,none⟩) m.code.length icap)) (by kernel_rfl) (by (try dsimp only);refine ⟨?_,?_⟩ <;> go_simp) (fun hHeld=>?_)
  refine Drawn.tk 0 (some 12) rfl rfl (by assumption) ?_
  try simp only [Act.put,Drawn.La,Drawn.Lb,Drawn.Lc]
  refine Drawn.tk 1 (some 13) rfl rfl (by assumption) ?_
  try simp only [Act.put,Drawn.La,Drawn.Lb,Drawn.Lc]
  refine Drawn.tk 2 (some 14) rfl rfl (by assumption) ?_
  try simp only [Act.put,Drawn.La,Drawn.Lb,Drawn.Lc]
  refine Drawn.tk 3 (some 15) rfl rfl (by assumption) ?_
  try simp only [Act.put,Drawn.La,Drawn.Lb,Drawn.Lc]
  refine Drawn.tk 4 (some 16) rfl rfl (by assumption) ?_
  try simp only [Act.put,Drawn.La,Drawn.Lb,Drawn.Lc]
  refine Drawn.tk 5 (some 17) rfl rfl (by assumption) ?_
  try simp only [Act.put,Drawn.La,Drawn.Lb,Drawn.Lc]
  refine Drawn.tk 6 (some 18) rfl rfl (by assumption) ?_
  try simp only [Act.put,Drawn.La,Drawn.Lb,Drawn.Lc]
  refine Drawn.tk 7 (some 19) rfl rfl (by assumption) ?_
  try simp only [Act.put,Drawn.La,Drawn.Lb,Drawn.Lc]
  refine Drawn.tk 8 (some 20) rfl rfl (by assumption) ?_
  try simp only [Act.put,Drawn.La,Drawn.Lb,Drawn.Lc]
  refine Drawn.tk 9 (some 21) rfl rfl (by assumption) ?_
  try simp only [Act.put,Drawn.La,Drawn.Lb,Drawn.Lc]
  refine Drawn.tk 10 (some 22) rfl rfl (by assumption) ?_
  try simp only [Act.put,Drawn.La,Drawn.Lb,Drawn.Lc]
  refine wpAnyH_ready (rs:=[11]) (by kernel_rfl) (by simp) ?_
  refine AllReadyH.cons rfl (fun K hK=>?_) AllReadyH.nil
  go_simp
  refine (mustT _).mono ?_
  rintro e w3 ⟨rfl,rfl⟩
  go_wp2_with fail
  refine hK.out _ _ (by (try dsimp only);refine ⟨?_,?_⟩ <;> go_simp) (fun hHeld=>?_)
  clear hK K
  try simp only [Act.put,Drawn.La,Drawn.Lb,Drawn.Lc]
  refine wpAnyH_done (by kernel_rfl) ?_ _
  go_wp2_with fail
  refine wp_region_held_drew (S:=fun w'=>w'.cell? ⟨P.cb,11,none⟩ = some (.int .i64 fr.at_) ∧ w'.cell? ⟨P.cb,7,none⟩ = some (.slice (some ⟨ib,io,none⟩) m.code.length icap) ∧ w'.cell? ⟨ib,io + fr.at_ * 6,none⟩ = some (.int .i64 11) ∧ w'.cell? ⟨ib,io + fr.at_ * 6 + 1,none⟩ = some (.int .i64 a) ∧ w'.cell? ⟨ib,io + fr.at_ * 6 + 2,none⟩ = some (.int .i64 b) ∧ w'.cell? ⟨ib,io + fr.at_ * 6 + 3,none⟩ = some (.int .i64 c) ∧ w'.cell? ⟨ib,io + fr.at_ * 6 + 4,none⟩ = some (.int .i64 n) ∧ w'.cell? ⟨ib,io + fr.at_ * 6 + 5,none⟩ = some (.slice aa args.length acap)) (by kernel_rfl) (by (try dsimp only);refine ⟨?_,?_,?_,?_,?_,?_,?_,?_⟩ <;> go_simp) (fun hHeld=>?_)
  refine Drawn.tk 0 (some 24) rfl rfl (by assumption) ?_
  try simp only [Act.put,Drawn.La,Drawn.Lb,Drawn.Lc]
  refine Drawn.tk 1 (some 25) rfl rfl (by assumption) ?_
  try simp only [Act.put,Drawn.La,Drawn.Lb,Drawn.Lc]
  refine Drawn.tk 2 (some 26) rfl rfl (by assumption) ?_
  try simp only [Act.put,Drawn.La,Drawn.Lb,Drawn.Lc]
  refine Drawn.tk 3 (some 27) rfl rfl (by assumption) ?_
  try simp only [Act.put,Drawn.La,Drawn.Lb,Drawn.Lc]
  refine Drawn.tk 4 (some 28) rfl rfl (by assumption) ?_
  try simp only [Act.put,Drawn.La,Drawn.Lb,Drawn.Lc]
  refine Drawn.tk 5 (some 29) rfl rfl (by assumption) ?_
  try simp only [Act.put,Drawn.La,Drawn.Lb,Drawn.Lc]
  refine Drawn.tk 6 (some 30) rfl rfl (by assumption) ?_
  try simp only [Act.put,Drawn.La,Drawn.Lb,Drawn.Lc]
  refine Drawn.tk 7 (some 31) rfl rfl (by assumption) ?_
  try simp only [Act.put,Drawn.La,Drawn.Lb,Drawn.Lc]
  refine Drawn.tk 8 (some 32) rfl rfl (by assumption) ?_
  try simp only [Act.put,Drawn.La,Drawn.Lb,Drawn.Lc]
  refine Drawn.tk 9 (some 33) rfl rfl (by assumption) ?_
  try simp only [Act.put,Drawn.La,Drawn.Lb,Drawn.Lc]
  refine Drawn.tk 10 (some 34) rfl rfl (by assumption) ?_
  try simp only [Act.put,Drawn.La,Drawn.Lb,Drawn.Lc]
  refine wpAnyH_ready (rs:=[11]) (by kernel_rfl) (by simp) ?_
  refine AllReadyH.cons rfl (fun K hK=>?_) AllReadyH.nil
  go_simp
  refine hK.out _ _ (by (try dsimp only);refine ⟨?_,?_,?_,?_,?_,?_,?_,?_⟩ <;> go_simp) (fun hHeld=>?_)
  clear hK K
  try simp only [Act.put,Drawn.La,Drawn.Lb,Drawn.Lc]
  refine wpAnyH_ready (rs:=[12]) (by kernel_rfl) (by simp) ?_
  refine AllReadyH.cons rfl (fun K hK=>?_) AllReadyH.nil
  go_simp
  refine hK.out _ _ (by (try dsimp only);refine ⟨?_,?_,?_,?_,?_,?_,?_,?_⟩ <;> go_simp) (fun hHeld=>?_)
  clear hK K
  try simp only [Act.put,Drawn.La,Drawn.Lb,Drawn.Lc]
  refine wpAnyH_done (by kernel_rfl) ?_ _
  generalize hWW : World.drew _ = W
  replace hWW:=Lib.hid hWW
  have k0 : W.cell? ⟨w2.heap.size,0,none⟩ = some (.int .i64 (11)):=by rw [← hWW.out];go_simp
  have k1 : W.cell? ⟨w2.heap.size,1,none⟩ = some (.int .i64 a):=by rw [← hWW.out];go_simp
  have k2 : W.cell? ⟨w2.heap.size,2,none⟩ = some (.int .i64 b):=by rw [← hWW.out];go_simp
  have k3 : W.cell? ⟨w2.heap.size,3,none⟩ = some (.int .i64 c):=by rw [← hWW.out];go_simp
  have k4 : W.cell? ⟨w2.heap.size,4,none⟩ = some (.int .i64 n):=by rw [← hWW.out];go_simp
  have k5 : W.cell? ⟨w2.heap.size,5,none⟩ = some (.slice aa args.length acap):=by rw [← hWW.out];go_simp
  have hbW : Below w2.heap.size w2 W:=by rw [← hWW.out];exact Rd.byB
  have hzW : w2.heap.size < W.heap.size:=cell_lt k0
  have SW:=S2.out.below hbW
  have s0:=kept hbW hrw r0
  have s1:=kept hbW hrw r1
  have sf0:=frz_kept hbW hrw rf0
  have sf1:=frz_kept hbW hrw rf1
  have e0:=SW.c0
  have e11:=SW.c11
  have ef11:=SW.fz 11 (by decide)
  have hcbW:=SW.cbw
  have hrW : w.heap.size < W.heap.size:=by omega
  have G:=Lib.hid (GW.out.trans (Gr.of_below hbW))
  replace SW:=Lib.hid SW
  clear hWW r0 r1 rf0 rf1 z0 z11 z7 u0 u1 u2 u3 u4 u5 GW hbW S2
  go_wp2_with fail
  refine bodyPost_ret (v:=.tuple #[.agg #[.int .i64 0,.int .i64 0],.bool false]) (by simp [results,Try.results124,go_sem] <;> go_simp) rfl ?_
  obtain ⟨L8,v8,G8,S8⟩:=(SW.out.setAt a).opn
  exact ⟨rfl,Gr.upon HS.out (G.out.trans G8) S8 (Nat.le_refl _) (G8.nf hrW nr) _ _⟩
set_option maxRecDepth 100000 in
set_option maxHeartbeats 2000000 in
theorem do12n (S : ST E w L P m d h fr vs) (hbig : fr.stk.length ≤ 1000) (hatb : fr.at_ ≤ 100000) (hs : h.steps < E.fuel) (hfu : E.fuel ≤ 60000) (a b c n : Int) (args : List Int) (hi : m.code[fr.at_]? = some ⟨12, a, b, c, n, args⟩) (hn : fr.stk = []) :
    Calls Try.prog 124 #[.pointer (some ⟨P.cb,0,none⟩)] w (DoR E L P m d vs fr w (.stop 6 (stepped h))):=by
  have HS:=Lib.hid S
  have hcb:=S.cbw
  have hat : fr.at_ < m.code.length:=(List.getElem?_eq_some_iff.1 hi).1
  obtain ⟨ica,icap,hvc,i1,i2,iel⟩:=id S.M.co
  obtain ⟨ib,io,rfl,hib,hie⟩:=iel fr.at_ hat
  have hx : m.code[fr.at_] = ⟨12,a,b,c,n,args⟩:=by rw [List.getElem?_eq_getElem hat] at hi;exact Option.some.inj hi
  rw [hx] at hie
  obtain ⟨x0,x1,x2,x3,x4,_,va,x5,hva⟩:=hie
  obtain ⟨aa,acap,rfl,_⟩:=hva
  simp only at x0 x1 x2 x3 x4
  have c7:=S.c7
  rw [hvc] at c7
  have c0:=S.c0
  have c11:=S.c11
  have nr:=S.fo_new (Nat.le_refl _)
  have nrO : ¬ own E L w.heap.size:=fun hk=>nr (.inl hk)
  have nib : ¬ fo E L P vs ib:=fun hk=>by have:=(S.fo_lo hk).1;omega
  have nibO : ¬ own E L ib:=fun hk=>nib (.inl hk)
  have hibw : ib < w.heap.size:=by have:=S.base;omega
  have hati : (fr.at_ : Int) < m.code.length:=by omega
  have hatd : decide ((fr.at_ : Int) < m.code.length) = true:=by simpa using hati
  have hwr : IntKind.i64.wrap ((fr.at_ : Int) + 1) = (fr.at_ : Int) + 1:=by rw [Num.wrap_i64,wrap64_id (by unfold Ok;omega)]
  have HCO:=Lib.hid hvc
  clear S iel hi hx hvc i1
  go_enter Try.func124,Try.ntmps124
  go_wp2_with (go_at_call 178;refine (stepOk (HS.out.below (by exact Rd.byB)).H hs hfu).mono ?_;rintro e w2 ⟨rfl,H2,K2⟩;have S2:=(HS.out.below (w':=w.alloc (.cells #[.int .i64 0,.int .i64 0] 118)) (by exact Rd.byB)).heap K2 same_own H2;have r0:=K2.cell (c:=w.heap.size) (o:=0) (v:=.int .i64 0) (by go_simp) nrO;have r1:=K2.cell (c:=w.heap.size) (o:=1) (v:=.int .i64 0) (by go_simp) nrO;have rf0:=K2.frz (c:=w.heap.size) (o:=0) (b:=false) (by go_simp) (by simp) nrO;have rf1:=K2.frz (c:=w.heap.size) (o:=1) (b:=false) (by go_simp) (by simp) nrO;have z0:=S2.c0;have z11:=S2.c11;have z7:=S2.c7;rw [HCO.out] at z7;have u0:=K2.cell (c:=ib) (o:=io + fr.at_ * 6) (v:=.int .i64 (12)) (by go_simp) nibO;have u1:=K2.cell (c:=ib) (o:=io + fr.at_ * 6 + 1) (v:=.int .i64 a) (by go_simp) nibO;have u2:=K2.cell (c:=ib) (o:=io + fr.at_ * 6 + 2) (v:=.int .i64 b) (by go_simp) nibO;have u3:=K2.cell (c:=ib) (o:=io + fr.at_ * 6 + 3) (v:=.int .i64 c) (by go_simp) nibO;have u4:=K2.cell (c:=ib) (o:=io + fr.at_ * 6 + 4) (v:=.int .i64 n) (by go_simp) nibO;have u5:=K2.cell (c:=ib) (o:=io + fr.at_ * 6 + 5) (v:=.slice aa args.length acap) (by go_simp) nibO;have GW:=Lib.hid (show Gr E L P vs w L vs w2 from ⟨(Kp.of_below (B:=w.heap.size) (X:=fo E L P vs) (w':=w.alloc (.cells #[.int .i64 0,.int .i64 0] 118)) (by exact Rd.byB) (Nat.le_refl _)).trans K2 (fun y hy=>.inl (.inl hy)),fun _ q=>.inl q,fun _ q=>.inl q⟩);have nf2:=S2.fo_new (Nat.le_refl _);have hcb2:=S2.cbw;have hrw:=cell_lt r0;have hib2:=cell_lt u0;replace S2:=Lib.hid S2;clear H2 K2 c7 c0 c11 x0 x1 x2 x3 x4 x5)
  refine wp_region_held_drew (S:=fun w'=>w'.cell? ⟨P.cb,11,none⟩ = some (.int .i64 fr.at_) ∧ w'.cell? ⟨P.cb,7,none⟩ = some (.slice (some ⟨ib,io,none⟩) m.code.length icap)) (by kernel_rfl) (by (try dsimp only);refine ⟨?_,?_⟩ <;> go_simp) (fun hHeld=>?_)
  refine Drawn.tk 0 (some 12) rfl rfl (by assumption) ?_
  try simp only [Act.put,Drawn.La,Drawn.Lb,Drawn.Lc]
  refine Drawn.tk 1 (some 13) rfl rfl (by assumption) ?_
  try simp only [Act.put,Drawn.La,Drawn.Lb,Drawn.Lc]
  refine Drawn.tk 2 (some 14) rfl rfl (by assumption) ?_
  try simp only [Act.put,Drawn.La,Drawn.Lb,Drawn.Lc]
  refine Drawn.tk 3 (some 15) rfl rfl (by assumption) ?_
  try simp only [Act.put,Drawn.La,Drawn.Lb,Drawn.Lc]
  refine Drawn.tk 4 (some 16) rfl rfl (by assumption) ?_
  try simp only [Act.put,Drawn.La,Drawn.Lb,Drawn.Lc]
  refine Drawn.tk 5 (some 17) rfl rfl (by assumption) ?_
  try simp only [Act.put,Drawn.La,Drawn.Lb,Drawn.Lc]
  refine Drawn.tk 6 (some 18) rfl rfl (by assumption) ?_
  try simp only [Act.put,Drawn.La,Drawn.Lb,Drawn.Lc]
  refine Drawn.tk 7 (some 19) rfl rfl (by assumption) ?_
  try simp only [Act.put,Drawn.La,Drawn.Lb,Drawn.Lc]
  refine Drawn.tk 8 (some 20) rfl rfl (by assumption) ?_
  try simp only [Act.put,Drawn.La,Drawn.Lb,Drawn.Lc]
  refine Drawn.tk 9 (some 21) rfl rfl (by assumption) ?_
  try simp only [Act.put,Drawn.La,Drawn.Lb,Drawn.Lc]
  refine Drawn.tk 10 (some 22) rfl rfl (by assumption) ?_
  try simp only [Act.put,Drawn.La,Drawn.Lb,Drawn.Lc]
  refine wpAnyH_ready (rs:=[11]) (by kernel_rfl) (by simp) ?_
  refine AllReadyH.cons rfl (fun K hK=>?_) AllReadyH.nil
  go_simp
  refine (mustT _).mono ?_
  rintro e w3 ⟨rfl,rfl⟩
  go_wp2_with fail
  refine hK.out _ _ (by (try dsimp only);refine ⟨?_,?_⟩ <;> go_simp) (fun hHeld=>?_)
  clear hK K
  try simp only [Act.put,Drawn.La,Drawn.Lb,Drawn.Lc]
  refine wpAnyH_done (by kernel_rfl) ?_ _
  go_wp2_with fail
  refine wp_region_held_drew (S:=fun w'=>w'.cell? ⟨P.cb,11,none⟩ = some (.int .i64 fr.at_) ∧ w'.cell? ⟨P.cb,7,none⟩ = some (.slice (some ⟨ib,io,none⟩) m.code.length icap) ∧ w'.cell? ⟨ib,io + fr.at_ * 6,none⟩ = some (.int .i64 12) ∧ w'.cell? ⟨ib,io + fr.at_ * 6 + 1,none⟩ = some (.int .i64 a) ∧ w'.cell? ⟨ib,io + fr.at_ * 6 + 2,none⟩ = some (.int .i64 b) ∧ w'.cell? ⟨ib,io + fr.at_ * 6 + 3,none⟩ = some (.int .i64 c) ∧ w'.cell? ⟨ib,io + fr.at_ * 6 + 4,none⟩ = some (.int .i64 n) ∧ w'.cell? ⟨ib,io + fr.at_ * 6 + 5,none⟩ = some (.slice aa args.length acap)) (by kernel_rfl) (by (try dsimp only);refine ⟨?_,?_,?_,?_,?_,?_,?_,?_⟩ <;> go_simp) (fun hHeld=>?_)
  refine Drawn.tk 0 (some 24) rfl rfl (by assumption) ?_
  try simp only [Act.put,Drawn.La,Drawn.Lb,Drawn.Lc]
  refine Drawn.tk 1 (some 25) rfl rfl (by assumption) ?_
  try simp only [Act.put,Drawn.La,Drawn.Lb,Drawn.Lc]
  refine Drawn.tk 2 (some 26) rfl rfl (by assumption) ?_
  try simp only [Act.put,Drawn.La,Drawn.Lb,Drawn.Lc]
  refine Drawn.tk 3 (some 27) rfl rfl (by assumption) ?_
  try simp only [Act.put,Drawn.La,Drawn.Lb,Drawn.Lc]
  refine Drawn.tk 4 (some 28) rfl rfl (by assumption) ?_
  try simp only [Act.put,Drawn.La,Drawn.Lb,Drawn.Lc]
  refine Drawn.tk 5 (some 29) rfl rfl (by assumption) ?_
  try simp only [Act.put,Drawn.La,Drawn.Lb,Drawn.Lc]
  refine Drawn.tk 6 (some 30) rfl rfl (by assumption) ?_
  try simp only [Act.put,Drawn.La,Drawn.Lb,Drawn.Lc]
  refine Drawn.tk 7 (some 31) rfl rfl (by assumption) ?_
  try simp only [Act.put,Drawn.La,Drawn.Lb,Drawn.Lc]
  refine Drawn.tk 8 (some 32) rfl rfl (by assumption) ?_
  try simp only [Act.put,Drawn.La,Drawn.Lb,Drawn.Lc]
  refine Drawn.tk 9 (some 33) rfl rfl (by assumption) ?_
  try simp only [Act.put,Drawn.La,Drawn.Lb,Drawn.Lc]
  refine Drawn.tk 10 (some 34) rfl rfl (by assumption) ?_
  try simp only [Act.put,Drawn.La,Drawn.Lb,Drawn.Lc]
  refine wpAnyH_ready (rs:=[11]) (by kernel_rfl) (by simp) ?_
  refine AllReadyH.cons rfl (fun K hK=>?_) AllReadyH.nil
  go_simp
  refine hK.out _ _ (by (try dsimp only);refine ⟨?_,?_,?_,?_,?_,?_,?_,?_⟩ <;> go_simp) (fun hHeld=>?_)
  clear hK K
  try simp only [Act.put,Drawn.La,Drawn.Lb,Drawn.Lc]
  refine wpAnyH_ready (rs:=[12]) (by kernel_rfl) (by simp) ?_
  refine AllReadyH.cons rfl (fun K hK=>?_) AllReadyH.nil
  go_simp
  refine hK.out _ _ (by (try dsimp only);refine ⟨?_,?_,?_,?_,?_,?_,?_,?_⟩ <;> go_simp) (fun hHeld=>?_)
  clear hK K
  try simp only [Act.put,Drawn.La,Drawn.Lb,Drawn.Lc]
  refine wpAnyH_done (by kernel_rfl) ?_ _
  generalize hWW : World.drew _ = W
  replace hWW:=Lib.hid hWW
  have k0 : W.cell? ⟨w2.heap.size,0,none⟩ = some (.int .i64 (12)):=by rw [← hWW.out];go_simp
  have k1 : W.cell? ⟨w2.heap.size,1,none⟩ = some (.int .i64 a):=by rw [← hWW.out];go_simp
  have k2 : W.cell? ⟨w2.heap.size,2,none⟩ = some (.int .i64 b):=by rw [← hWW.out];go_simp
  have k3 : W.cell? ⟨w2.heap.size,3,none⟩ = some (.int .i64 c):=by rw [← hWW.out];go_simp
  have k4 : W.cell? ⟨w2.heap.size,4,none⟩ = some (.int .i64 n):=by rw [← hWW.out];go_simp
  have k5 : W.cell? ⟨w2.heap.size,5,none⟩ = some (.slice aa args.length acap):=by rw [← hWW.out];go_simp
  have hbW : Below w2.heap.size w2 W:=by rw [← hWW.out];exact Rd.byB
  have hzW : w2.heap.size < W.heap.size:=cell_lt k0
  have SW:=S2.out.below hbW
  have s0:=kept hbW hrw r0
  have s1:=kept hbW hrw r1
  have sf0:=frz_kept hbW hrw rf0
  have sf1:=frz_kept hbW hrw rf1
  have e0:=SW.c0
  have e11:=SW.c11
  have ef11:=SW.fz 11 (by decide)
  have hcbW:=SW.cbw
  have hrW : w.heap.size < W.heap.size:=by omega
  have G:=Lib.hid (GW.out.trans (Gr.of_below hbW))
  replace SW:=Lib.hid SW
  clear hWW r0 r1 rf0 rf1 z0 z11 z7 u0 u1 u2 u3 u4 u5 GW hbW S2
  go_wp2_with fail
  refine wp_region_held_drew (S:=fun w'=>w'.cell? ⟨w2.heap.size,2,none⟩ = some (.int .i64 b)) (by kernel_rfl) (by (try dsimp only);go_simp) (fun hHeld=>?_)
  refine Drawn.tk 0 (some 76) rfl rfl (by assumption) ?_
  try simp only [Act.put,Drawn.La,Drawn.Lb,Drawn.Lc]
  refine Drawn.tk 1 (some 77) rfl rfl (by assumption) ?_
  try simp only [Act.put,Drawn.La,Drawn.Lb,Drawn.Lc]
  refine Drawn.tk 2 (some 78) rfl rfl (by assumption) ?_
  try simp only [Act.put,Drawn.La,Drawn.Lb,Drawn.Lc]
  refine wpAnyH_ready (rs:=[3]) (by kernel_rfl) (by simp) ?_
  refine AllReadyH.cons rfl (fun K hK=>?_) AllReadyH.nil
  go_simp
  go_at_call 181
  refine (takeNo (SW.out.below (by exact Rd.byB)) hn _).mono ?_
  rintro e w4 ⟨rfl,hb4⟩
  have HB4 : Below W.heap.size W w4:=Below.trans (by exact Rd.byB) (hb4.mono Rd.byL)
  unfold pan
  refine And.intro rfl ?_
  exact ⟨Pan.one _,((G.out.trans (Gr.of_below HB4)).lft (SW.out.below HB4)).stop⟩
set_option maxRecDepth 100000 in
set_option maxHeartbeats 2000000 in
theorem do12b (S : ST E w L P m d h fr vs) (hbig : fr.stk.length ≤ 1000) (hatb : fr.at_ ≤ 100000) (hs : h.steps < E.fuel) (hfu : E.fuel ≤ 60000) (a b c n : Int) (args : List Int) (hi : m.code[fr.at_]? = some ⟨12, a, b, c, n, args⟩) (hn : fr.stk ≠ []) (hk : (top fr.stk).kind ≠ 1) :
    Calls Try.prog 124 #[.pointer (some ⟨P.cb,0,none⟩)] w (DoR E L P m d vs fr w (.stop 6 (stepped h))):=by
  have HS:=Lib.hid S
  have hcb:=S.cbw
  have hat : fr.at_ < m.code.length:=(List.getElem?_eq_some_iff.1 hi).1
  obtain ⟨ica,icap,hvc,i1,i2,iel⟩:=id S.M.co
  obtain ⟨ib,io,rfl,hib,hie⟩:=iel fr.at_ hat
  have hx : m.code[fr.at_] = ⟨12,a,b,c,n,args⟩:=by rw [List.getElem?_eq_getElem hat] at hi;exact Option.some.inj hi
  rw [hx] at hie
  obtain ⟨x0,x1,x2,x3,x4,_,va,x5,hva⟩:=hie
  obtain ⟨aa,acap,rfl,_⟩:=hva
  simp only at x0 x1 x2 x3 x4
  have c7:=S.c7
  rw [hvc] at c7
  have c0:=S.c0
  have c11:=S.c11
  have nr:=S.fo_new (Nat.le_refl _)
  have nrO : ¬ own E L w.heap.size:=fun hk=>nr (.inl hk)
  have nib : ¬ fo E L P vs ib:=fun hk=>by have:=(S.fo_lo hk).1;omega
  have nibO : ¬ own E L ib:=fun hk=>nib (.inl hk)
  have hibw : ib < w.heap.size:=by have:=S.base;omega
  have hati : (fr.at_ : Int) < m.code.length:=by omega
  have hatd : decide ((fr.at_ : Int) < m.code.length) = true:=by simpa using hati
  have hwr : IntKind.i64.wrap ((fr.at_ : Int) + 1) = (fr.at_ : Int) + 1:=by rw [Num.wrap_i64,wrap64_id (by unfold Ok;omega)]
  have HCO:=Lib.hid hvc
  clear S iel hi hx hvc i1
  go_enter Try.func124,Try.ntmps124
  go_wp2_with (go_at_call 178;refine (stepOk (HS.out.below (by exact Rd.byB)).H hs hfu).mono ?_;rintro e w2 ⟨rfl,H2,K2⟩;have S2:=(HS.out.below (w':=w.alloc (.cells #[.int .i64 0,.int .i64 0] 118)) (by exact Rd.byB)).heap K2 same_own H2;have r0:=K2.cell (c:=w.heap.size) (o:=0) (v:=.int .i64 0) (by go_simp) nrO;have r1:=K2.cell (c:=w.heap.size) (o:=1) (v:=.int .i64 0) (by go_simp) nrO;have rf0:=K2.frz (c:=w.heap.size) (o:=0) (b:=false) (by go_simp) (by simp) nrO;have rf1:=K2.frz (c:=w.heap.size) (o:=1) (b:=false) (by go_simp) (by simp) nrO;have z0:=S2.c0;have z11:=S2.c11;have z7:=S2.c7;rw [HCO.out] at z7;have u0:=K2.cell (c:=ib) (o:=io + fr.at_ * 6) (v:=.int .i64 (12)) (by go_simp) nibO;have u1:=K2.cell (c:=ib) (o:=io + fr.at_ * 6 + 1) (v:=.int .i64 a) (by go_simp) nibO;have u2:=K2.cell (c:=ib) (o:=io + fr.at_ * 6 + 2) (v:=.int .i64 b) (by go_simp) nibO;have u3:=K2.cell (c:=ib) (o:=io + fr.at_ * 6 + 3) (v:=.int .i64 c) (by go_simp) nibO;have u4:=K2.cell (c:=ib) (o:=io + fr.at_ * 6 + 4) (v:=.int .i64 n) (by go_simp) nibO;have u5:=K2.cell (c:=ib) (o:=io + fr.at_ * 6 + 5) (v:=.slice aa args.length acap) (by go_simp) nibO;have GW:=Lib.hid (show Gr E L P vs w L vs w2 from ⟨(Kp.of_below (B:=w.heap.size) (X:=fo E L P vs) (w':=w.alloc (.cells #[.int .i64 0,.int .i64 0] 118)) (by exact Rd.byB) (Nat.le_refl _)).trans K2 (fun y hy=>.inl (.inl hy)),fun _ q=>.inl q,fun _ q=>.inl q⟩);have nf2:=S2.fo_new (Nat.le_refl _);have hcb2:=S2.cbw;have hrw:=cell_lt r0;have hib2:=cell_lt u0;replace S2:=Lib.hid S2;clear H2 K2 c7 c0 c11 x0 x1 x2 x3 x4 x5)
  refine wp_region_held_drew (S:=fun w'=>w'.cell? ⟨P.cb,11,none⟩ = some (.int .i64 fr.at_) ∧ w'.cell? ⟨P.cb,7,none⟩ = some (.slice (some ⟨ib,io,none⟩) m.code.length icap)) (by kernel_rfl) (by (try dsimp only);refine ⟨?_,?_⟩ <;> go_simp) (fun hHeld=>?_)
  refine Drawn.tk 0 (some 12) rfl rfl (by assumption) ?_
  try simp only [Act.put,Drawn.La,Drawn.Lb,Drawn.Lc]
  refine Drawn.tk 1 (some 13) rfl rfl (by assumption) ?_
  try simp only [Act.put,Drawn.La,Drawn.Lb,Drawn.Lc]
  refine Drawn.tk 2 (some 14) rfl rfl (by assumption) ?_
  try simp only [Act.put,Drawn.La,Drawn.Lb,Drawn.Lc]
  refine Drawn.tk 3 (some 15) rfl rfl (by assumption) ?_
  try simp only [Act.put,Drawn.La,Drawn.Lb,Drawn.Lc]
  refine Drawn.tk 4 (some 16) rfl rfl (by assumption) ?_
  try simp only [Act.put,Drawn.La,Drawn.Lb,Drawn.Lc]
  refine Drawn.tk 5 (some 17) rfl rfl (by assumption) ?_
  try simp only [Act.put,Drawn.La,Drawn.Lb,Drawn.Lc]
  refine Drawn.tk 6 (some 18) rfl rfl (by assumption) ?_
  try simp only [Act.put,Drawn.La,Drawn.Lb,Drawn.Lc]
  refine Drawn.tk 7 (some 19) rfl rfl (by assumption) ?_
  try simp only [Act.put,Drawn.La,Drawn.Lb,Drawn.Lc]
  refine Drawn.tk 8 (some 20) rfl rfl (by assumption) ?_
  try simp only [Act.put,Drawn.La,Drawn.Lb,Drawn.Lc]
  refine Drawn.tk 9 (some 21) rfl rfl (by assumption) ?_
  try simp only [Act.put,Drawn.La,Drawn.Lb,Drawn.Lc]
  refine Drawn.tk 10 (some 22) rfl rfl (by assumption) ?_
  try simp only [Act.put,Drawn.La,Drawn.Lb,Drawn.Lc]
  refine wpAnyH_ready (rs:=[11]) (by kernel_rfl) (by simp) ?_
  refine AllReadyH.cons rfl (fun K hK=>?_) AllReadyH.nil
  go_simp
  refine (mustT _).mono ?_
  rintro e w3 ⟨rfl,rfl⟩
  go_wp2_with fail
  refine hK.out _ _ (by (try dsimp only);refine ⟨?_,?_⟩ <;> go_simp) (fun hHeld=>?_)
  clear hK K
  try simp only [Act.put,Drawn.La,Drawn.Lb,Drawn.Lc]
  refine wpAnyH_done (by kernel_rfl) ?_ _
  go_wp2_with fail
  refine wp_region_held_drew (S:=fun w'=>w'.cell? ⟨P.cb,11,none⟩ = some (.int .i64 fr.at_) ∧ w'.cell? ⟨P.cb,7,none⟩ = some (.slice (some ⟨ib,io,none⟩) m.code.length icap) ∧ w'.cell? ⟨ib,io + fr.at_ * 6,none⟩ = some (.int .i64 12) ∧ w'.cell? ⟨ib,io + fr.at_ * 6 + 1,none⟩ = some (.int .i64 a) ∧ w'.cell? ⟨ib,io + fr.at_ * 6 + 2,none⟩ = some (.int .i64 b) ∧ w'.cell? ⟨ib,io + fr.at_ * 6 + 3,none⟩ = some (.int .i64 c) ∧ w'.cell? ⟨ib,io + fr.at_ * 6 + 4,none⟩ = some (.int .i64 n) ∧ w'.cell? ⟨ib,io + fr.at_ * 6 + 5,none⟩ = some (.slice aa args.length acap)) (by kernel_rfl) (by (try dsimp only);refine ⟨?_,?_,?_,?_,?_,?_,?_,?_⟩ <;> go_simp) (fun hHeld=>?_)
  refine Drawn.tk 0 (some 24) rfl rfl (by assumption) ?_
  try simp only [Act.put,Drawn.La,Drawn.Lb,Drawn.Lc]
  refine Drawn.tk 1 (some 25) rfl rfl (by assumption) ?_
  try simp only [Act.put,Drawn.La,Drawn.Lb,Drawn.Lc]
  refine Drawn.tk 2 (some 26) rfl rfl (by assumption) ?_
  try simp only [Act.put,Drawn.La,Drawn.Lb,Drawn.Lc]
  refine Drawn.tk 3 (some 27) rfl rfl (by assumption) ?_
  try simp only [Act.put,Drawn.La,Drawn.Lb,Drawn.Lc]
  refine Drawn.tk 4 (some 28) rfl rfl (by assumption) ?_
  try simp only [Act.put,Drawn.La,Drawn.Lb,Drawn.Lc]
  refine Drawn.tk 5 (some 29) rfl rfl (by assumption) ?_
  try simp only [Act.put,Drawn.La,Drawn.Lb,Drawn.Lc]
  refine Drawn.tk 6 (some 30) rfl rfl (by assumption) ?_
  try simp only [Act.put,Drawn.La,Drawn.Lb,Drawn.Lc]
  refine Drawn.tk 7 (some 31) rfl rfl (by assumption) ?_
  try simp only [Act.put,Drawn.La,Drawn.Lb,Drawn.Lc]
  refine Drawn.tk 8 (some 32) rfl rfl (by assumption) ?_
  try simp only [Act.put,Drawn.La,Drawn.Lb,Drawn.Lc]
  refine Drawn.tk 9 (some 33) rfl rfl (by assumption) ?_
  try simp only [Act.put,Drawn.La,Drawn.Lb,Drawn.Lc]
  refine Drawn.tk 10 (some 34) rfl rfl (by assumption) ?_
  try simp only [Act.put,Drawn.La,Drawn.Lb,Drawn.Lc]
  refine wpAnyH_ready (rs:=[11]) (by kernel_rfl) (by simp) ?_
  refine AllReadyH.cons rfl (fun K hK=>?_) AllReadyH.nil
  go_simp
  refine hK.out _ _ (by (try dsimp only);refine ⟨?_,?_,?_,?_,?_,?_,?_,?_⟩ <;> go_simp) (fun hHeld=>?_)
  clear hK K
  try simp only [Act.put,Drawn.La,Drawn.Lb,Drawn.Lc]
  refine wpAnyH_ready (rs:=[12]) (by kernel_rfl) (by simp) ?_
  refine AllReadyH.cons rfl (fun K hK=>?_) AllReadyH.nil
  go_simp
  refine hK.out _ _ (by (try dsimp only);refine ⟨?_,?_,?_,?_,?_,?_,?_,?_⟩ <;> go_simp) (fun hHeld=>?_)
  clear hK K
  try simp only [Act.put,Drawn.La,Drawn.Lb,Drawn.Lc]
  refine wpAnyH_done (by kernel_rfl) ?_ _
  generalize hWW : World.drew _ = W
  replace hWW:=Lib.hid hWW
  have k0 : W.cell? ⟨w2.heap.size,0,none⟩ = some (.int .i64 (12)):=by rw [← hWW.out];go_simp
  have k1 : W.cell? ⟨w2.heap.size,1,none⟩ = some (.int .i64 a):=by rw [← hWW.out];go_simp
  have k2 : W.cell? ⟨w2.heap.size,2,none⟩ = some (.int .i64 b):=by rw [← hWW.out];go_simp
  have k3 : W.cell? ⟨w2.heap.size,3,none⟩ = some (.int .i64 c):=by rw [← hWW.out];go_simp
  have k4 : W.cell? ⟨w2.heap.size,4,none⟩ = some (.int .i64 n):=by rw [← hWW.out];go_simp
  have k5 : W.cell? ⟨w2.heap.size,5,none⟩ = some (.slice aa args.length acap):=by rw [← hWW.out];go_simp
  have hbW : Below w2.heap.size w2 W:=by rw [← hWW.out];exact Rd.byB
  have hzW : w2.heap.size < W.heap.size:=cell_lt k0
  have SW:=S2.out.below hbW
  have s0:=kept hbW hrw r0
  have s1:=kept hbW hrw r1
  have sf0:=frz_kept hbW hrw rf0
  have sf1:=frz_kept hbW hrw rf1
  have e0:=SW.c0
  have e11:=SW.c11
  have ef11:=SW.fz 11 (by decide)
  have hcbW:=SW.cbw
  have hrW : w.heap.size < W.heap.size:=by omega
  have G:=Lib.hid (GW.out.trans (Gr.of_below hbW))
  replace SW:=Lib.hid SW
  clear hWW r0 r1 rf0 rf1 z0 z11 z7 u0 u1 u2 u3 u4 u5 GW hbW S2
  go_wp2_with fail
  refine wp_region_held_drew (S:=fun w'=>w'.cell? ⟨w2.heap.size,2,none⟩ = some (.int .i64 b)) (by kernel_rfl) (by (try dsimp only);go_simp) (fun hHeld=>?_)
  refine Drawn.tk 0 (some 76) rfl rfl (by assumption) ?_
  try simp only [Act.put,Drawn.La,Drawn.Lb,Drawn.Lc]
  refine Drawn.tk 1 (some 77) rfl rfl (by assumption) ?_
  try simp only [Act.put,Drawn.La,Drawn.Lb,Drawn.Lc]
  refine Drawn.tk 2 (some 78) rfl rfl (by assumption) ?_
  try simp only [Act.put,Drawn.La,Drawn.Lb,Drawn.Lc]
  refine wpAnyH_ready (rs:=[3]) (by kernel_rfl) (by simp) ?_
  refine AllReadyH.cons rfl (fun K hK=>?_) AllReadyH.nil
  go_simp
  go_at_call 181
  refine (takeBad (SW.out.below (by exact Rd.byB)) hn hbig _ hk).mono ?_
  rintro e w4 ⟨rfl,A⟩
  obtain ⟨L4,v4,G4,S4⟩:=(LftF.before (w:=W) (by exact Rd.byB) A).opn
  unfold pan
  refine And.intro rfl ?_
  exact ⟨Pan.one _,((G.out.trans G4).lft S4).stop⟩
set_option maxRecDepth 100000 in
set_option maxHeartbeats 2000000 in
theorem do12t (S : ST E w L P m d h fr vs) (hbig : fr.stk.length ≤ 1000) (hatb : fr.at_ ≤ 100000) (hs : h.steps < E.fuel) (hfu : E.fuel ≤ 60000) (a b c n : Int) (args : List Int) (hi : m.code[fr.at_]? = some ⟨12, a, b, c, n, args⟩) (hn : fr.stk ≠ []) (hk : (top fr.stk).kind = 1) (ha : 0 ≤ a) (hh : Num.holds b (top fr.stk).n = true) :
    Calls Try.prog 124 #[.pointer (some ⟨P.cb,0,none⟩)] w (DoR E L P m d vs fr w (.go ⟨fr.loc,fr.stk.dropLast,a.toNat⟩ (stepped h))):=by
  obtain ⟨a,rfl⟩:=Int.eq_ofNat_of_zero_le ha
  obtain ⟨⟨tk,tn⟩,ht⟩ : ∃ t,Hid (top fr.stk = t):=⟨_,Lib.hid rfl⟩
  rw [ht.out] at hk
  simp only at hk
  subst hk
  have hfl:=fieldN
  have hp:=Lib.hid hh
  rw [ht.out] at hp
  clear hh
  have HS:=Lib.hid S
  have hcb:=S.cbw
  have hat : fr.at_ < m.code.length:=(List.getElem?_eq_some_iff.1 hi).1
  obtain ⟨ica,icap,hvc,i1,i2,iel⟩:=id S.M.co
  obtain ⟨ib,io,rfl,hib,hie⟩:=iel fr.at_ hat
  have hx : m.code[fr.at_] = ⟨12,a,b,c,n,args⟩:=by rw [List.getElem?_eq_getElem hat] at hi;exact Option.some.inj hi
  rw [hx] at hie
  obtain ⟨x0,x1,x2,x3,x4,_,va,x5,hva⟩:=hie
  obtain ⟨aa,acap,rfl,_⟩:=hva
  simp only at x0 x1 x2 x3 x4
  have c7:=S.c7
  rw [hvc] at c7
  have c0:=S.c0
  have c11:=S.c11
  have nr:=S.fo_new (Nat.le_refl _)
  have nrO : ¬ own E L w.heap.size:=fun hk=>nr (.inl hk)
  have nib : ¬ fo E L P vs ib:=fun hk=>by have:=(S.fo_lo hk).1;omega
  have nibO : ¬ own E L ib:=fun hk=>nib (.inl hk)
  have hibw : ib < w.heap.size:=by have:=S.base;omega
  have hati : (fr.at_ : Int) < m.code.length:=by omega
  have hatd : decide ((fr.at_ : Int) < m.code.length) = true:=by simpa using hati
  have hwr : IntKind.i64.wrap ((fr.at_ : Int) + 1) = (fr.at_ : Int) + 1:=by rw [Num.wrap_i64,wrap64_id (by unfold Ok;omega)]
  have HCO:=Lib.hid hvc
  clear S iel hi hx hvc i1
  go_enter Try.func124,Try.ntmps124
  go_wp2_with (go_at_call 178;refine (stepOk (HS.out.below (by exact Rd.byB)).H hs hfu).mono ?_;rintro e w2 ⟨rfl,H2,K2⟩;have S2:=(HS.out.below (w':=w.alloc (.cells #[.int .i64 0,.int .i64 0] 118)) (by exact Rd.byB)).heap K2 same_own H2;have r0:=K2.cell (c:=w.heap.size) (o:=0) (v:=.int .i64 0) (by go_simp) nrO;have r1:=K2.cell (c:=w.heap.size) (o:=1) (v:=.int .i64 0) (by go_simp) nrO;have rf0:=K2.frz (c:=w.heap.size) (o:=0) (b:=false) (by go_simp) (by simp) nrO;have rf1:=K2.frz (c:=w.heap.size) (o:=1) (b:=false) (by go_simp) (by simp) nrO;have z0:=S2.c0;have z11:=S2.c11;have z7:=S2.c7;rw [HCO.out] at z7;have u0:=K2.cell (c:=ib) (o:=io + fr.at_ * 6) (v:=.int .i64 (12)) (by go_simp) nibO;have u1:=K2.cell (c:=ib) (o:=io + fr.at_ * 6 + 1) (v:=.int .i64 a) (by go_simp) nibO;have u2:=K2.cell (c:=ib) (o:=io + fr.at_ * 6 + 2) (v:=.int .i64 b) (by go_simp) nibO;have u3:=K2.cell (c:=ib) (o:=io + fr.at_ * 6 + 3) (v:=.int .i64 c) (by go_simp) nibO;have u4:=K2.cell (c:=ib) (o:=io + fr.at_ * 6 + 4) (v:=.int .i64 n) (by go_simp) nibO;have u5:=K2.cell (c:=ib) (o:=io + fr.at_ * 6 + 5) (v:=.slice aa args.length acap) (by go_simp) nibO;have GW:=Lib.hid (show Gr E L P vs w L vs w2 from ⟨(Kp.of_below (B:=w.heap.size) (X:=fo E L P vs) (w':=w.alloc (.cells #[.int .i64 0,.int .i64 0] 118)) (by exact Rd.byB) (Nat.le_refl _)).trans K2 (fun y hy=>.inl (.inl hy)),fun _ q=>.inl q,fun _ q=>.inl q⟩);have nf2:=S2.fo_new (Nat.le_refl _);have hcb2:=S2.cbw;have hrw:=cell_lt r0;have hib2:=cell_lt u0;replace S2:=Lib.hid S2;clear H2 K2 c7 c0 c11 x0 x1 x2 x3 x4 x5)
  refine wp_region_held_drew (S:=fun w'=>w'.cell? ⟨P.cb,11,none⟩ = some (.int .i64 fr.at_) ∧ w'.cell? ⟨P.cb,7,none⟩ = some (.slice (some ⟨ib,io,none⟩) m.code.length icap)) (by kernel_rfl) (by (try dsimp only);refine ⟨?_,?_⟩ <;> go_simp) (fun hHeld=>?_)
  refine Drawn.tk 0 (some 12) rfl rfl (by assumption) ?_
  try simp only [Act.put,Drawn.La,Drawn.Lb,Drawn.Lc]
  refine Drawn.tk 1 (some 13) rfl rfl (by assumption) ?_
  try simp only [Act.put,Drawn.La,Drawn.Lb,Drawn.Lc]
  refine Drawn.tk 2 (some 14) rfl rfl (by assumption) ?_
  try simp only [Act.put,Drawn.La,Drawn.Lb,Drawn.Lc]
  refine Drawn.tk 3 (some 15) rfl rfl (by assumption) ?_
  try simp only [Act.put,Drawn.La,Drawn.Lb,Drawn.Lc]
  refine Drawn.tk 4 (some 16) rfl rfl (by assumption) ?_
  try simp only [Act.put,Drawn.La,Drawn.Lb,Drawn.Lc]
  refine Drawn.tk 5 (some 17) rfl rfl (by assumption) ?_
  try simp only [Act.put,Drawn.La,Drawn.Lb,Drawn.Lc]
  refine Drawn.tk 6 (some 18) rfl rfl (by assumption) ?_
  try simp only [Act.put,Drawn.La,Drawn.Lb,Drawn.Lc]
  refine Drawn.tk 7 (some 19) rfl rfl (by assumption) ?_
  try simp only [Act.put,Drawn.La,Drawn.Lb,Drawn.Lc]
  refine Drawn.tk 8 (some 20) rfl rfl (by assumption) ?_
  try simp only [Act.put,Drawn.La,Drawn.Lb,Drawn.Lc]
  refine Drawn.tk 9 (some 21) rfl rfl (by assumption) ?_
  try simp only [Act.put,Drawn.La,Drawn.Lb,Drawn.Lc]
  refine Drawn.tk 10 (some 22) rfl rfl (by assumption) ?_
  try simp only [Act.put,Drawn.La,Drawn.Lb,Drawn.Lc]
  refine wpAnyH_ready (rs:=[11]) (by kernel_rfl) (by simp) ?_
  refine AllReadyH.cons rfl (fun K hK=>?_) AllReadyH.nil
  go_simp
  refine (mustT _).mono ?_
  rintro e w3 ⟨rfl,rfl⟩
  go_wp2_with fail
  refine hK.out _ _ (by (try dsimp only);refine ⟨?_,?_⟩ <;> go_simp) (fun hHeld=>?_)
  clear hK K
  try simp only [Act.put,Drawn.La,Drawn.Lb,Drawn.Lc]
  refine wpAnyH_done (by kernel_rfl) ?_ _
  go_wp2_with fail
  refine wp_region_held_drew (S:=fun w'=>w'.cell? ⟨P.cb,11,none⟩ = some (.int .i64 fr.at_) ∧ w'.cell? ⟨P.cb,7,none⟩ = some (.slice (some ⟨ib,io,none⟩) m.code.length icap) ∧ w'.cell? ⟨ib,io + fr.at_ * 6,none⟩ = some (.int .i64 12) ∧ w'.cell? ⟨ib,io + fr.at_ * 6 + 1,none⟩ = some (.int .i64 a) ∧ w'.cell? ⟨ib,io + fr.at_ * 6 + 2,none⟩ = some (.int .i64 b) ∧ w'.cell? ⟨ib,io + fr.at_ * 6 + 3,none⟩ = some (.int .i64 c) ∧ w'.cell? ⟨ib,io + fr.at_ * 6 + 4,none⟩ = some (.int .i64 n) ∧ w'.cell? ⟨ib,io + fr.at_ * 6 + 5,none⟩ = some (.slice aa args.length acap)) (by kernel_rfl) (by (try dsimp only);refine ⟨?_,?_,?_,?_,?_,?_,?_,?_⟩ <;> go_simp) (fun hHeld=>?_)
  refine Drawn.tk 0 (some 24) rfl rfl (by assumption) ?_
  try simp only [Act.put,Drawn.La,Drawn.Lb,Drawn.Lc]
  refine Drawn.tk 1 (some 25) rfl rfl (by assumption) ?_
  try simp only [Act.put,Drawn.La,Drawn.Lb,Drawn.Lc]
  refine Drawn.tk 2 (some 26) rfl rfl (by assumption) ?_
  try simp only [Act.put,Drawn.La,Drawn.Lb,Drawn.Lc]
  refine Drawn.tk 3 (some 27) rfl rfl (by assumption) ?_
  try simp only [Act.put,Drawn.La,Drawn.Lb,Drawn.Lc]
  refine Drawn.tk 4 (some 28) rfl rfl (by assumption) ?_
  try simp only [Act.put,Drawn.La,Drawn.Lb,Drawn.Lc]
  refine Drawn.tk 5 (some 29) rfl rfl (by assumption) ?_
  try simp only [Act.put,Drawn.La,Drawn.Lb,Drawn.Lc]
  refine Drawn.tk 6 (some 30) rfl rfl (by assumption) ?_
  try simp only [Act.put,Drawn.La,Drawn.Lb,Drawn.Lc]
  refine Drawn.tk 7 (some 31) rfl rfl (by assumption) ?_
  try simp only [Act.put,Drawn.La,Drawn.Lb,Drawn.Lc]
  refine Drawn.tk 8 (some 32) rfl rfl (by assumption) ?_
  try simp only [Act.put,Drawn.La,Drawn.Lb,Drawn.Lc]
  refine Drawn.tk 9 (some 33) rfl rfl (by assumption) ?_
  try simp only [Act.put,Drawn.La,Drawn.Lb,Drawn.Lc]
  refine Drawn.tk 10 (some 34) rfl rfl (by assumption) ?_
  try simp only [Act.put,Drawn.La,Drawn.Lb,Drawn.Lc]
  refine wpAnyH_ready (rs:=[11]) (by kernel_rfl) (by simp) ?_
  refine AllReadyH.cons rfl (fun K hK=>?_) AllReadyH.nil
  go_simp
  refine hK.out _ _ (by (try dsimp only);refine ⟨?_,?_,?_,?_,?_,?_,?_,?_⟩ <;> go_simp) (fun hHeld=>?_)
  clear hK K
  try simp only [Act.put,Drawn.La,Drawn.Lb,Drawn.Lc]
  refine wpAnyH_ready (rs:=[12]) (by kernel_rfl) (by simp) ?_
  refine AllReadyH.cons rfl (fun K hK=>?_) AllReadyH.nil
  go_simp
  refine hK.out _ _ (by (try dsimp only);refine ⟨?_,?_,?_,?_,?_,?_,?_,?_⟩ <;> go_simp) (fun hHeld=>?_)
  clear hK K
  try simp only [Act.put,Drawn.La,Drawn.Lb,Drawn.Lc]
  refine wpAnyH_done (by kernel_rfl) ?_ _
  generalize hWW : World.drew _ = W
  replace hWW:=Lib.hid hWW
  have k0 : W.cell? ⟨w2.heap.size,0,none⟩ = some (.int .i64 (12)):=by rw [← hWW.out];go_simp
  have k1 : W.cell? ⟨w2.heap.size,1,none⟩ = some (.int .i64 a):=by rw [← hWW.out];go_simp
  have k2 : W.cell? ⟨w2.heap.size,2,none⟩ = some (.int .i64 b):=by rw [← hWW.out];go_simp
  have k3 : W.cell? ⟨w2.heap.size,3,none⟩ = some (.int .i64 c):=by rw [← hWW.out];go_simp
  have k4 : W.cell? ⟨w2.heap.size,4,none⟩ = some (.int .i64 n):=by rw [← hWW.out];go_simp
  have k5 : W.cell? ⟨w2.heap.size,5,none⟩ = some (.slice aa args.length acap):=by rw [← hWW.out];go_simp
  have hbW : Below w2.heap.size w2 W:=by rw [← hWW.out];exact Rd.byB
  have hzW : w2.heap.size < W.heap.size:=cell_lt k0
  have SW:=S2.out.below hbW
  have s0:=kept hbW hrw r0
  have s1:=kept hbW hrw r1
  have sf0:=frz_kept hbW hrw rf0
  have sf1:=frz_kept hbW hrw rf1
  have e0:=SW.c0
  have e11:=SW.c11
  have ef11:=SW.fz 11 (by decide)
  have hcbW:=SW.cbw
  have hrW : w.heap.size < W.heap.size:=by omega
  have G:=Lib.hid (GW.out.trans (Gr.of_below hbW))
  replace SW:=Lib.hid SW
  clear hWW r0 r1 rf0 rf1 z0 z11 z7 u0 u1 u2 u3 u4 u5 GW hbW S2
  go_wp2_with fail
  refine wp_region_held_drew (S:=fun w'=>w'.cell? ⟨w2.heap.size,2,none⟩ = some (.int .i64 b)) (by kernel_rfl) (by (try dsimp only);go_simp) (fun hHeld=>?_)
  refine Drawn.tk 0 (some 76) rfl rfl (by assumption) ?_
  try simp only [Act.put,Drawn.La,Drawn.Lb,Drawn.Lc]
  refine Drawn.tk 1 (some 77) rfl rfl (by assumption) ?_
  try simp only [Act.put,Drawn.La,Drawn.Lb,Drawn.Lc]
  refine Drawn.tk 2 (some 78) rfl rfl (by assumption) ?_
  try simp only [Act.put,Drawn.La,Drawn.Lb,Drawn.Lc]
  refine wpAnyH_ready (rs:=[3]) (by kernel_rfl) (by simp) ?_
  refine AllReadyH.cons rfl (fun K hK=>?_) AllReadyH.nil
  go_simp
  go_at_call 181
  refine (takeOk (SW.out.below (by exact Rd.byB)) hn hbig _ (by rw [ht.out])).mono ?_
  rw [ht.out]
  unfold vl
  rintro e w4 ⟨rfl,A⟩
  obtain ⟨L4,v4,G4,S4⟩:=A.opn
  have y1:=G4.cell (b:=w2.heap.size) (o:=1) (v:=.int .i64 a) nf2 (by go_simp)
  have y2:=G4.cell (b:=w2.heap.size) (o:=2) (v:=.int .i64 b) nf2 (by go_simp)
  have t0:=G4.cell (b:=w.heap.size) (o:=0) (v:=.int .i64 0) nr (by go_simp)
  have t1:=G4.cell (b:=w.heap.size) (o:=1) (v:=.int .i64 0) nr (by go_simp)
  have tf0:=G4.frz (b:=w.heap.size) (o:=0) (x:=false) nr (by first | omega | (simp;omega)) (by go_simp)
  have tf1:=G4.frz (b:=w.heap.size) (o:=1) (x:=false) nr (by first | omega | (simp;omega)) (by go_simp)
  have nr4:=G4.nf (by first | omega | (simp;omega)) nr
  have GB:=Lib.hid ((G.out.trans (Gr.of_below (by exact Rd.byB))).trans G4)
  have hrw4:=cell_lt t0
  replace S4:=Lib.hid S4
  clear A G4 s0 s1 sf0 sf1 k0 k1 k2 k3 k4 k5 e0 e11 ef11
  go_wp2_with fail
  refine hK.out _ _ (by (try dsimp only);exact y2) (fun hHeld=>?_)
  clear hK K
  try simp only [Act.put,Drawn.La,Drawn.Lb,Drawn.Lc]
  refine Drawn.tk 4 (some 80) rfl rfl (by assumption) ?_
  try simp only [Act.put,Drawn.La,Drawn.Lb,Drawn.Lc]
  refine wpAnyH_ready (rs:=[5]) (by kernel_rfl) (by simp) ?_
  refine AllReadyH.cons rfl (fun K hK=>?_) AllReadyH.nil
  go_simp
  go_at_call 180
  refine (NumW.holds b tn _).mono ?_
  rw [hp.out]
  rintro e w5 ⟨rfl,hb5⟩
  have y1':=kept hb5 (cell_lt y1) y1
  have y2':=kept hb5 (cell_lt y2) y2
  have t0':=kept hb5 hrw4 t0
  have t1':=kept hb5 hrw4 t1
  have tf0':=frz_kept hb5 hrw4 tf0
  have tf1':=frz_kept hb5 hrw4 tf1
  have GC:=Lib.hid (GB.out.trans (Gr.of_below hb5))
  have S5:=Lib.hid (S4.out.below hb5)
  have hrw5 : w.heap.size < w5.heap.size:=cell_lt t0'
  clear t0 t1 tf0 tf1 y1 y2
  go_wp2_with fail
  refine hK.out _ _ (by (try dsimp only);exact y2') (fun hHeld=>?_)
  clear hK K
  try simp only [Act.put,Drawn.La,Drawn.Lb,Drawn.Lc]
  refine wpAnyH_done (by kernel_rfl) ?_ _
  have e11':=S5.out.c11
  have ef11':=S5.out.fz 11 (by decide)
  have hcb':=S5.out.cbw
  go_wp2_with fail
  refine bodyPost_ret (v:=.tuple #[.agg #[.int .i64 0,.int .i64 0],.bool false]) (by simp [results,Try.results124,go_sem] <;> go_simp) rfl ?_
  obtain ⟨L8,v8,G8,S8⟩:=(S5.out.setAt (a)).opn
  exact ⟨rfl,Gr.upon HS.out (GC.out.trans G8) S8 (Nat.le_refl _) (G8.nf hrw5 nr4) _ _⟩
set_option maxRecDepth 100000 in
set_option maxHeartbeats 2000000 in
theorem do12f (S : ST E w L P m d h fr vs) (hbig : fr.stk.length ≤ 1000) (hatb : fr.at_ ≤ 100000) (hs : h.steps < E.fuel) (hfu : E.fuel ≤ 60000) (a b c n : Int) (args : List Int) (hi : m.code[fr.at_]? = some ⟨12, a, b, c, n, args⟩) (hn : fr.stk ≠ []) (hk : (top fr.stk).kind = 1) (ha : 0 ≤ a) (hh : Num.holds b (top fr.stk).n = false) :
    Calls Try.prog 124 #[.pointer (some ⟨P.cb,0,none⟩)] w (DoR E L P m d vs fr w (.go ⟨fr.loc,fr.stk.dropLast,fr.at_ + 1⟩ (stepped h))):=by
  obtain ⟨a,rfl⟩:=Int.eq_ofNat_of_zero_le ha
  obtain ⟨⟨tk,tn⟩,ht⟩ : ∃ t,Hid (top fr.stk = t):=⟨_,Lib.hid rfl⟩
  rw [ht.out] at hk
  simp only at hk
  subst hk
  have hfl:=fieldN
  have hp:=Lib.hid hh
  rw [ht.out] at hp
  clear hh
  have HS:=Lib.hid S
  have hcb:=S.cbw
  have hat : fr.at_ < m.code.length:=(List.getElem?_eq_some_iff.1 hi).1
  obtain ⟨ica,icap,hvc,i1,i2,iel⟩:=id S.M.co
  obtain ⟨ib,io,rfl,hib,hie⟩:=iel fr.at_ hat
  have hx : m.code[fr.at_] = ⟨12,a,b,c,n,args⟩:=by rw [List.getElem?_eq_getElem hat] at hi;exact Option.some.inj hi
  rw [hx] at hie
  obtain ⟨x0,x1,x2,x3,x4,_,va,x5,hva⟩:=hie
  obtain ⟨aa,acap,rfl,_⟩:=hva
  simp only at x0 x1 x2 x3 x4
  have c7:=S.c7
  rw [hvc] at c7
  have c0:=S.c0
  have c11:=S.c11
  have nr:=S.fo_new (Nat.le_refl _)
  have nrO : ¬ own E L w.heap.size:=fun hk=>nr (.inl hk)
  have nib : ¬ fo E L P vs ib:=fun hk=>by have:=(S.fo_lo hk).1;omega
  have nibO : ¬ own E L ib:=fun hk=>nib (.inl hk)
  have hibw : ib < w.heap.size:=by have:=S.base;omega
  have hati : (fr.at_ : Int) < m.code.length:=by omega
  have hatd : decide ((fr.at_ : Int) < m.code.length) = true:=by simpa using hati
  have hwr : IntKind.i64.wrap ((fr.at_ : Int) + 1) = (fr.at_ : Int) + 1:=by rw [Num.wrap_i64,wrap64_id (by unfold Ok;omega)]
  have HCO:=Lib.hid hvc
  clear S iel hi hx hvc i1
  go_enter Try.func124,Try.ntmps124
  go_wp2_with (go_at_call 178;refine (stepOk (HS.out.below (by exact Rd.byB)).H hs hfu).mono ?_;rintro e w2 ⟨rfl,H2,K2⟩;have S2:=(HS.out.below (w':=w.alloc (.cells #[.int .i64 0,.int .i64 0] 118)) (by exact Rd.byB)).heap K2 same_own H2;have r0:=K2.cell (c:=w.heap.size) (o:=0) (v:=.int .i64 0) (by go_simp) nrO;have r1:=K2.cell (c:=w.heap.size) (o:=1) (v:=.int .i64 0) (by go_simp) nrO;have rf0:=K2.frz (c:=w.heap.size) (o:=0) (b:=false) (by go_simp) (by simp) nrO;have rf1:=K2.frz (c:=w.heap.size) (o:=1) (b:=false) (by go_simp) (by simp) nrO;have z0:=S2.c0;have z11:=S2.c11;have z7:=S2.c7;rw [HCO.out] at z7;have u0:=K2.cell (c:=ib) (o:=io + fr.at_ * 6) (v:=.int .i64 (12)) (by go_simp) nibO;have u1:=K2.cell (c:=ib) (o:=io + fr.at_ * 6 + 1) (v:=.int .i64 a) (by go_simp) nibO;have u2:=K2.cell (c:=ib) (o:=io + fr.at_ * 6 + 2) (v:=.int .i64 b) (by go_simp) nibO;have u3:=K2.cell (c:=ib) (o:=io + fr.at_ * 6 + 3) (v:=.int .i64 c) (by go_simp) nibO;have u4:=K2.cell (c:=ib) (o:=io + fr.at_ * 6 + 4) (v:=.int .i64 n) (by go_simp) nibO;have u5:=K2.cell (c:=ib) (o:=io + fr.at_ * 6 + 5) (v:=.slice aa args.length acap) (by go_simp) nibO;have GW:=Lib.hid (show Gr E L P vs w L vs w2 from ⟨(Kp.of_below (B:=w.heap.size) (X:=fo E L P vs) (w':=w.alloc (.cells #[.int .i64 0,.int .i64 0] 118)) (by exact Rd.byB) (Nat.le_refl _)).trans K2 (fun y hy=>.inl (.inl hy)),fun _ q=>.inl q,fun _ q=>.inl q⟩);have nf2:=S2.fo_new (Nat.le_refl _);have hcb2:=S2.cbw;have hrw:=cell_lt r0;have hib2:=cell_lt u0;replace S2:=Lib.hid S2;clear H2 K2 c7 c0 c11 x0 x1 x2 x3 x4 x5)
  refine wp_region_held_drew (S:=fun w'=>w'.cell? ⟨P.cb,11,none⟩ = some (.int .i64 fr.at_) ∧ w'.cell? ⟨P.cb,7,none⟩ = some (.slice (some ⟨ib,io,none⟩) m.code.length icap)) (by kernel_rfl) (by (try dsimp only);refine ⟨?_,?_⟩ <;> go_simp) (fun hHeld=>?_)
  refine Drawn.tk 0 (some 12) rfl rfl (by assumption) ?_
  try simp only [Act.put,Drawn.La,Drawn.Lb,Drawn.Lc]
  refine Drawn.tk 1 (some 13) rfl rfl (by assumption) ?_
  try simp only [Act.put,Drawn.La,Drawn.Lb,Drawn.Lc]
  refine Drawn.tk 2 (some 14) rfl rfl (by assumption) ?_
  try simp only [Act.put,Drawn.La,Drawn.Lb,Drawn.Lc]
  refine Drawn.tk 3 (some 15) rfl rfl (by assumption) ?_
  try simp only [Act.put,Drawn.La,Drawn.Lb,Drawn.Lc]
  refine Drawn.tk 4 (some 16) rfl rfl (by assumption) ?_
  try simp only [Act.put,Drawn.La,Drawn.Lb,Drawn.Lc]
  refine Drawn.tk 5 (some 17) rfl rfl (by assumption) ?_
  try simp only [Act.put,Drawn.La,Drawn.Lb,Drawn.Lc]
  refine Drawn.tk 6 (some 18) rfl rfl (by assumption) ?_
  try simp only [Act.put,Drawn.La,Drawn.Lb,Drawn.Lc]
  refine Drawn.tk 7 (some 19) rfl rfl (by assumption) ?_
  try simp only [Act.put,Drawn.La,Drawn.Lb,Drawn.Lc]
  refine Drawn.tk 8 (some 20) rfl rfl (by assumption) ?_
  try simp only [Act.put,Drawn.La,Drawn.Lb,Drawn.Lc]
  refine Drawn.tk 9 (some 21) rfl rfl (by assumption) ?_
  try simp only [Act.put,Drawn.La,Drawn.Lb,Drawn.Lc]
  refine Drawn.tk 10 (some 22) rfl rfl (by assumption) ?_
  try simp only [Act.put,Drawn.La,Drawn.Lb,Drawn.Lc]
  refine wpAnyH_ready (rs:=[11]) (by kernel_rfl) (by simp) ?_
  refine AllReadyH.cons rfl (fun K hK=>?_) AllReadyH.nil
  go_simp
  refine (mustT _).mono ?_
  rintro e w3 ⟨rfl,rfl⟩
  go_wp2_with fail
  refine hK.out _ _ (by (try dsimp only);refine ⟨?_,?_⟩ <;> go_simp) (fun hHeld=>?_)
  clear hK K
  try simp only [Act.put,Drawn.La,Drawn.Lb,Drawn.Lc]
  refine wpAnyH_done (by kernel_rfl) ?_ _
  go_wp2_with fail
  refine wp_region_held_drew (S:=fun w'=>w'.cell? ⟨P.cb,11,none⟩ = some (.int .i64 fr.at_) ∧ w'.cell? ⟨P.cb,7,none⟩ = some (.slice (some ⟨ib,io,none⟩) m.code.length icap) ∧ w'.cell? ⟨ib,io + fr.at_ * 6,none⟩ = some (.int .i64 12) ∧ w'.cell? ⟨ib,io + fr.at_ * 6 + 1,none⟩ = some (.int .i64 a) ∧ w'.cell? ⟨ib,io + fr.at_ * 6 + 2,none⟩ = some (.int .i64 b) ∧ w'.cell? ⟨ib,io + fr.at_ * 6 + 3,none⟩ = some (.int .i64 c) ∧ w'.cell? ⟨ib,io + fr.at_ * 6 + 4,none⟩ = some (.int .i64 n) ∧ w'.cell? ⟨ib,io + fr.at_ * 6 + 5,none⟩ = some (.slice aa args.length acap)) (by kernel_rfl) (by (try dsimp only);refine ⟨?_,?_,?_,?_,?_,?_,?_,?_⟩ <;> go_simp) (fun hHeld=>?_)
  refine Drawn.tk 0 (some 24) rfl rfl (by assumption) ?_
  try simp only [Act.put,Drawn.La,Drawn.Lb,Drawn.Lc]
  refine Drawn.tk 1 (some 25) rfl rfl (by assumption) ?_
  try simp only [Act.put,Drawn.La,Drawn.Lb,Drawn.Lc]
  refine Drawn.tk 2 (some 26) rfl rfl (by assumption) ?_
  try simp only [Act.put,Drawn.La,Drawn.Lb,Drawn.Lc]
  refine Drawn.tk 3 (some 27) rfl rfl (by assumption) ?_
  try simp only [Act.put,Drawn.La,Drawn.Lb,Drawn.Lc]
  refine Drawn.tk 4 (some 28) rfl rfl (by assumption) ?_
  try simp only [Act.put,Drawn.La,Drawn.Lb,Drawn.Lc]
  refine Drawn.tk 5 (some 29) rfl rfl (by assumption) ?_
  try simp only [Act.put,Drawn.La,Drawn.Lb,Drawn.Lc]
  refine Drawn.tk 6 (some 30) rfl rfl (by assumption) ?_
  try simp only [Act.put,Drawn.La,Drawn.Lb,Drawn.Lc]
  refine Drawn.tk 7 (some 31) rfl rfl (by assumption) ?_
  try simp only [Act.put,Drawn.La,Drawn.Lb,Drawn.Lc]
  refine Drawn.tk 8 (some 32) rfl rfl (by assumption) ?_
  try simp only [Act.put,Drawn.La,Drawn.Lb,Drawn.Lc]
  refine Drawn.tk 9 (some 33) rfl rfl (by assumption) ?_
  try simp only [Act.put,Drawn.La,Drawn.Lb,Drawn.Lc]
  refine Drawn.tk 10 (some 34) rfl rfl (by assumption) ?_
  try simp only [Act.put,Drawn.La,Drawn.Lb,Drawn.Lc]
  refine wpAnyH_ready (rs:=[11]) (by kernel_rfl) (by simp) ?_
  refine AllReadyH.cons rfl (fun K hK=>?_) AllReadyH.nil
  go_simp
  refine hK.out _ _ (by (try dsimp only);refine ⟨?_,?_,?_,?_,?_,?_,?_,?_⟩ <;> go_simp) (fun hHeld=>?_)
  clear hK K
  try simp only [Act.put,Drawn.La,Drawn.Lb,Drawn.Lc]
  refine wpAnyH_ready (rs:=[12]) (by kernel_rfl) (by simp) ?_
  refine AllReadyH.cons rfl (fun K hK=>?_) AllReadyH.nil
  go_simp
  refine hK.out _ _ (by (try dsimp only);refine ⟨?_,?_,?_,?_,?_,?_,?_,?_⟩ <;> go_simp) (fun hHeld=>?_)
  clear hK K
  try simp only [Act.put,Drawn.La,Drawn.Lb,Drawn.Lc]
  refine wpAnyH_done (by kernel_rfl) ?_ _
  generalize hWW : World.drew _ = W
  replace hWW:=Lib.hid hWW
  have k0 : W.cell? ⟨w2.heap.size,0,none⟩ = some (.int .i64 (12)):=by rw [← hWW.out];go_simp
  have k1 : W.cell? ⟨w2.heap.size,1,none⟩ = some (.int .i64 a):=by rw [← hWW.out];go_simp
  have k2 : W.cell? ⟨w2.heap.size,2,none⟩ = some (.int .i64 b):=by rw [← hWW.out];go_simp
  have k3 : W.cell? ⟨w2.heap.size,3,none⟩ = some (.int .i64 c):=by rw [← hWW.out];go_simp
  have k4 : W.cell? ⟨w2.heap.size,4,none⟩ = some (.int .i64 n):=by rw [← hWW.out];go_simp
  have k5 : W.cell? ⟨w2.heap.size,5,none⟩ = some (.slice aa args.length acap):=by rw [← hWW.out];go_simp
  have hbW : Below w2.heap.size w2 W:=by rw [← hWW.out];exact Rd.byB
  have hzW : w2.heap.size < W.heap.size:=cell_lt k0
  have SW:=S2.out.below hbW
  have s0:=kept hbW hrw r0
  have s1:=kept hbW hrw r1
  have sf0:=frz_kept hbW hrw rf0
  have sf1:=frz_kept hbW hrw rf1
  have e0:=SW.c0
  have e11:=SW.c11
  have ef11:=SW.fz 11 (by decide)
  have hcbW:=SW.cbw
  have hrW : w.heap.size < W.heap.size:=by omega
  have G:=Lib.hid (GW.out.trans (Gr.of_below hbW))
  replace SW:=Lib.hid SW
  clear hWW r0 r1 rf0 rf1 z0 z11 z7 u0 u1 u2 u3 u4 u5 GW hbW S2
  go_wp2_with fail
  refine wp_region_held_drew (S:=fun w'=>w'.cell? ⟨w2.heap.size,2,none⟩ = some (.int .i64 b)) (by kernel_rfl) (by (try dsimp only);go_simp) (fun hHeld=>?_)
  refine Drawn.tk 0 (some 76) rfl rfl (by assumption) ?_
  try simp only [Act.put,Drawn.La,Drawn.Lb,Drawn.Lc]
  refine Drawn.tk 1 (some 77) rfl rfl (by assumption) ?_
  try simp only [Act.put,Drawn.La,Drawn.Lb,Drawn.Lc]
  refine Drawn.tk 2 (some 78) rfl rfl (by assumption) ?_
  try simp only [Act.put,Drawn.La,Drawn.Lb,Drawn.Lc]
  refine wpAnyH_ready (rs:=[3]) (by kernel_rfl) (by simp) ?_
  refine AllReadyH.cons rfl (fun K hK=>?_) AllReadyH.nil
  go_simp
  go_at_call 181
  refine (takeOk (SW.out.below (by exact Rd.byB)) hn hbig _ (by rw [ht.out])).mono ?_
  rw [ht.out]
  unfold vl
  rintro e w4 ⟨rfl,A⟩
  obtain ⟨L4,v4,G4,S4⟩:=A.opn
  have y1:=G4.cell (b:=w2.heap.size) (o:=1) (v:=.int .i64 a) nf2 (by go_simp)
  have y2:=G4.cell (b:=w2.heap.size) (o:=2) (v:=.int .i64 b) nf2 (by go_simp)
  have t0:=G4.cell (b:=w.heap.size) (o:=0) (v:=.int .i64 0) nr (by go_simp)
  have t1:=G4.cell (b:=w.heap.size) (o:=1) (v:=.int .i64 0) nr (by go_simp)
  have tf0:=G4.frz (b:=w.heap.size) (o:=0) (x:=false) nr (by first | omega | (simp;omega)) (by go_simp)
  have tf1:=G4.frz (b:=w.heap.size) (o:=1) (x:=false) nr (by first | omega | (simp;omega)) (by go_simp)
  have nr4:=G4.nf (by first | omega | (simp;omega)) nr
  have GB:=Lib.hid ((G.out.trans (Gr.of_below (by exact Rd.byB))).trans G4)
  have hrw4:=cell_lt t0
  replace S4:=Lib.hid S4
  clear A G4 s0 s1 sf0 sf1 k0 k1 k2 k3 k4 k5 e0 e11 ef11
  go_wp2_with fail
  refine hK.out _ _ (by (try dsimp only);exact y2) (fun hHeld=>?_)
  clear hK K
  try simp only [Act.put,Drawn.La,Drawn.Lb,Drawn.Lc]
  refine Drawn.tk 4 (some 80) rfl rfl (by assumption) ?_
  try simp only [Act.put,Drawn.La,Drawn.Lb,Drawn.Lc]
  refine wpAnyH_ready (rs:=[5]) (by kernel_rfl) (by simp) ?_
  refine AllReadyH.cons rfl (fun K hK=>?_) AllReadyH.nil
  go_simp
  go_at_call 180
  refine (NumW.holds b tn _).mono ?_
  rw [hp.out]
  rintro e w5 ⟨rfl,hb5⟩
  have y1':=kept hb5 (cell_lt y1) y1
  have y2':=kept hb5 (cell_lt y2) y2
  have t0':=kept hb5 hrw4 t0
  have t1':=kept hb5 hrw4 t1
  have tf0':=frz_kept hb5 hrw4 tf0
  have tf1':=frz_kept hb5 hrw4 tf1
  have GC:=Lib.hid (GB.out.trans (Gr.of_below hb5))
  have S5:=Lib.hid (S4.out.below hb5)
  have hrw5 : w.heap.size < w5.heap.size:=cell_lt t0'
  clear t0 t1 tf0 tf1 y1 y2
  go_wp2_with fail
  refine hK.out _ _ (by (try dsimp only);exact y2') (fun hHeld=>?_)
  clear hK K
  try simp only [Act.put,Drawn.La,Drawn.Lb,Drawn.Lc]
  refine wpAnyH_done (by kernel_rfl) ?_ _
  have e11':=S5.out.c11
  have ef11':=S5.out.fz 11 (by decide)
  have hcb':=S5.out.cbw
  go_wp2_with fail
  refine bodyPost_ret (v:=.tuple #[.agg #[.int .i64 0,.int .i64 0],.bool false]) (by simp [results,Try.results124,go_sem] <;> go_simp) rfl ?_
  obtain ⟨L8,v8,G8,S8⟩:=(S5.out.setAt (fr.at_ + 1)).opn
  exact ⟨rfl,Gr.upon HS.out (GC.out.trans G8) S8 (Nat.le_refl _) (G8.nf hrw5 nr4) _ _⟩
set_option maxRecDepth 100000 in
set_option maxHeartbeats 2000000 in
theorem do13n (S : ST E w L P m d h fr vs) (hbig : fr.stk.length ≤ 1000) (hatb : fr.at_ ≤ 100000) (hs : h.steps < E.fuel) (hfu : E.fuel ≤ 60000) (a b c n : Int) (args : List Int) (hi : m.code[fr.at_]? = some ⟨13, a, b, c, n, args⟩) (hn : fr.stk = []) :
    Calls Try.prog 124 #[.pointer (some ⟨P.cb,0,none⟩)] w (DoR E L P m d vs fr w (.stop 6 (stepped h))):=by
  have HS:=Lib.hid S
  have hcb:=S.cbw
  have hat : fr.at_ < m.code.length:=(List.getElem?_eq_some_iff.1 hi).1
  obtain ⟨ica,icap,hvc,i1,i2,iel⟩:=id S.M.co
  obtain ⟨ib,io,rfl,hib,hie⟩:=iel fr.at_ hat
  have hx : m.code[fr.at_] = ⟨13,a,b,c,n,args⟩:=by rw [List.getElem?_eq_getElem hat] at hi;exact Option.some.inj hi
  rw [hx] at hie
  obtain ⟨x0,x1,x2,x3,x4,_,va,x5,hva⟩:=hie
  obtain ⟨aa,acap,rfl,_⟩:=hva
  simp only at x0 x1 x2 x3 x4
  have c7:=S.c7
  rw [hvc] at c7
  have c0:=S.c0
  have c11:=S.c11
  have nr:=S.fo_new (Nat.le_refl _)
  have nrO : ¬ own E L w.heap.size:=fun hk=>nr (.inl hk)
  have nib : ¬ fo E L P vs ib:=fun hk=>by have:=(S.fo_lo hk).1;omega
  have nibO : ¬ own E L ib:=fun hk=>nib (.inl hk)
  have hibw : ib < w.heap.size:=by have:=S.base;omega
  have hati : (fr.at_ : Int) < m.code.length:=by omega
  have hatd : decide ((fr.at_ : Int) < m.code.length) = true:=by simpa using hati
  have hwr : IntKind.i64.wrap ((fr.at_ : Int) + 1) = (fr.at_ : Int) + 1:=by rw [Num.wrap_i64,wrap64_id (by unfold Ok;omega)]
  have HCO:=Lib.hid hvc
  clear S iel hi hx hvc i1
  go_enter Try.func124,Try.ntmps124
  go_wp2_with (go_at_call 178;refine (stepOk (HS.out.below (by exact Rd.byB)).H hs hfu).mono ?_;rintro e w2 ⟨rfl,H2,K2⟩;have S2:=(HS.out.below (w':=w.alloc (.cells #[.int .i64 0,.int .i64 0] 118)) (by exact Rd.byB)).heap K2 same_own H2;have r0:=K2.cell (c:=w.heap.size) (o:=0) (v:=.int .i64 0) (by go_simp) nrO;have r1:=K2.cell (c:=w.heap.size) (o:=1) (v:=.int .i64 0) (by go_simp) nrO;have rf0:=K2.frz (c:=w.heap.size) (o:=0) (b:=false) (by go_simp) (by simp) nrO;have rf1:=K2.frz (c:=w.heap.size) (o:=1) (b:=false) (by go_simp) (by simp) nrO;have z0:=S2.c0;have z11:=S2.c11;have z7:=S2.c7;rw [HCO.out] at z7;have u0:=K2.cell (c:=ib) (o:=io + fr.at_ * 6) (v:=.int .i64 (13)) (by go_simp) nibO;have u1:=K2.cell (c:=ib) (o:=io + fr.at_ * 6 + 1) (v:=.int .i64 a) (by go_simp) nibO;have u2:=K2.cell (c:=ib) (o:=io + fr.at_ * 6 + 2) (v:=.int .i64 b) (by go_simp) nibO;have u3:=K2.cell (c:=ib) (o:=io + fr.at_ * 6 + 3) (v:=.int .i64 c) (by go_simp) nibO;have u4:=K2.cell (c:=ib) (o:=io + fr.at_ * 6 + 4) (v:=.int .i64 n) (by go_simp) nibO;have u5:=K2.cell (c:=ib) (o:=io + fr.at_ * 6 + 5) (v:=.slice aa args.length acap) (by go_simp) nibO;have GW:=Lib.hid (show Gr E L P vs w L vs w2 from ⟨(Kp.of_below (B:=w.heap.size) (X:=fo E L P vs) (w':=w.alloc (.cells #[.int .i64 0,.int .i64 0] 118)) (by exact Rd.byB) (Nat.le_refl _)).trans K2 (fun y hy=>.inl (.inl hy)),fun _ q=>.inl q,fun _ q=>.inl q⟩);have nf2:=S2.fo_new (Nat.le_refl _);have hcb2:=S2.cbw;have hrw:=cell_lt r0;have hib2:=cell_lt u0;replace S2:=Lib.hid S2;clear H2 K2 c7 c0 c11 x0 x1 x2 x3 x4 x5)
  refine wp_region_held_drew (S:=fun w'=>w'.cell? ⟨P.cb,11,none⟩ = some (.int .i64 fr.at_) ∧ w'.cell? ⟨P.cb,7,none⟩ = some (.slice (some ⟨ib,io,none⟩) m.code.length icap)) (by kernel_rfl) (by (try dsimp only);refine ⟨?_,?_⟩ <;> go_simp) (fun hHeld=>?_)
  refine Drawn.tk 0 (some 12) rfl rfl (by assumption) ?_
  try simp only [Act.put,Drawn.La,Drawn.Lb,Drawn.Lc]
  refine Drawn.tk 1 (some 13) rfl rfl (by assumption) ?_
  try simp only [Act.put,Drawn.La,Drawn.Lb,Drawn.Lc]
  refine Drawn.tk 2 (some 14) rfl rfl (by assumption) ?_
  try simp only [Act.put,Drawn.La,Drawn.Lb,Drawn.Lc]
  refine Drawn.tk 3 (some 15) rfl rfl (by assumption) ?_
  try simp only [Act.put,Drawn.La,Drawn.Lb,Drawn.Lc]
  refine Drawn.tk 4 (some 16) rfl rfl (by assumption) ?_
  try simp only [Act.put,Drawn.La,Drawn.Lb,Drawn.Lc]
  refine Drawn.tk 5 (some 17) rfl rfl (by assumption) ?_
  try simp only [Act.put,Drawn.La,Drawn.Lb,Drawn.Lc]
  refine Drawn.tk 6 (some 18) rfl rfl (by assumption) ?_
  try simp only [Act.put,Drawn.La,Drawn.Lb,Drawn.Lc]
  refine Drawn.tk 7 (some 19) rfl rfl (by assumption) ?_
  try simp only [Act.put,Drawn.La,Drawn.Lb,Drawn.Lc]
  refine Drawn.tk 8 (some 20) rfl rfl (by assumption) ?_
  try simp only [Act.put,Drawn.La,Drawn.Lb,Drawn.Lc]
  refine Drawn.tk 9 (some 21) rfl rfl (by assumption) ?_
  try simp only [Act.put,Drawn.La,Drawn.Lb,Drawn.Lc]
  refine Drawn.tk 10 (some 22) rfl rfl (by assumption) ?_
  try simp only [Act.put,Drawn.La,Drawn.Lb,Drawn.Lc]
  refine wpAnyH_ready (rs:=[11]) (by kernel_rfl) (by simp) ?_
  refine AllReadyH.cons rfl (fun K hK=>?_) AllReadyH.nil
  go_simp
  refine (mustT _).mono ?_
  rintro e w3 ⟨rfl,rfl⟩
  go_wp2_with fail
  refine hK.out _ _ (by (try dsimp only);refine ⟨?_,?_⟩ <;> go_simp) (fun hHeld=>?_)
  clear hK K
  try simp only [Act.put,Drawn.La,Drawn.Lb,Drawn.Lc]
  refine wpAnyH_done (by kernel_rfl) ?_ _
  go_wp2_with fail
  refine wp_region_held_drew (S:=fun w'=>w'.cell? ⟨P.cb,11,none⟩ = some (.int .i64 fr.at_) ∧ w'.cell? ⟨P.cb,7,none⟩ = some (.slice (some ⟨ib,io,none⟩) m.code.length icap) ∧ w'.cell? ⟨ib,io + fr.at_ * 6,none⟩ = some (.int .i64 13) ∧ w'.cell? ⟨ib,io + fr.at_ * 6 + 1,none⟩ = some (.int .i64 a) ∧ w'.cell? ⟨ib,io + fr.at_ * 6 + 2,none⟩ = some (.int .i64 b) ∧ w'.cell? ⟨ib,io + fr.at_ * 6 + 3,none⟩ = some (.int .i64 c) ∧ w'.cell? ⟨ib,io + fr.at_ * 6 + 4,none⟩ = some (.int .i64 n) ∧ w'.cell? ⟨ib,io + fr.at_ * 6 + 5,none⟩ = some (.slice aa args.length acap)) (by kernel_rfl) (by (try dsimp only);refine ⟨?_,?_,?_,?_,?_,?_,?_,?_⟩ <;> go_simp) (fun hHeld=>?_)
  refine Drawn.tk 0 (some 24) rfl rfl (by assumption) ?_
  try simp only [Act.put,Drawn.La,Drawn.Lb,Drawn.Lc]
  refine Drawn.tk 1 (some 25) rfl rfl (by assumption) ?_
  try simp only [Act.put,Drawn.La,Drawn.Lb,Drawn.Lc]
  refine Drawn.tk 2 (some 26) rfl rfl (by assumption) ?_
  try simp only [Act.put,Drawn.La,Drawn.Lb,Drawn.Lc]
  refine Drawn.tk 3 (some 27) rfl rfl (by assumption) ?_
  try simp only [Act.put,Drawn.La,Drawn.Lb,Drawn.Lc]
  refine Drawn.tk 4 (some 28) rfl rfl (by assumption) ?_
  try simp only [Act.put,Drawn.La,Drawn.Lb,Drawn.Lc]
  refine Drawn.tk 5 (some 29) rfl rfl (by assumption) ?_
  try simp only [Act.put,Drawn.La,Drawn.Lb,Drawn.Lc]
  refine Drawn.tk 6 (some 30) rfl rfl (by assumption) ?_
  try simp only [Act.put,Drawn.La,Drawn.Lb,Drawn.Lc]
  refine Drawn.tk 7 (some 31) rfl rfl (by assumption) ?_
  try simp only [Act.put,Drawn.La,Drawn.Lb,Drawn.Lc]
  refine Drawn.tk 8 (some 32) rfl rfl (by assumption) ?_
  try simp only [Act.put,Drawn.La,Drawn.Lb,Drawn.Lc]
  refine Drawn.tk 9 (some 33) rfl rfl (by assumption) ?_
  try simp only [Act.put,Drawn.La,Drawn.Lb,Drawn.Lc]
  refine Drawn.tk 10 (some 34) rfl rfl (by assumption) ?_
  try simp only [Act.put,Drawn.La,Drawn.Lb,Drawn.Lc]
  refine wpAnyH_ready (rs:=[11]) (by kernel_rfl) (by simp) ?_
  refine AllReadyH.cons rfl (fun K hK=>?_) AllReadyH.nil
  go_simp
  refine hK.out _ _ (by (try dsimp only);refine ⟨?_,?_,?_,?_,?_,?_,?_,?_⟩ <;> go_simp) (fun hHeld=>?_)
  clear hK K
  try simp only [Act.put,Drawn.La,Drawn.Lb,Drawn.Lc]
  refine wpAnyH_ready (rs:=[12]) (by kernel_rfl) (by simp) ?_
  refine AllReadyH.cons rfl (fun K hK=>?_) AllReadyH.nil
  go_simp
  refine hK.out _ _ (by (try dsimp only);refine ⟨?_,?_,?_,?_,?_,?_,?_,?_⟩ <;> go_simp) (fun hHeld=>?_)
  clear hK K
  try simp only [Act.put,Drawn.La,Drawn.Lb,Drawn.Lc]
  refine wpAnyH_done (by kernel_rfl) ?_ _
  generalize hWW : World.drew _ = W
  replace hWW:=Lib.hid hWW
  have k0 : W.cell? ⟨w2.heap.size,0,none⟩ = some (.int .i64 (13)):=by rw [← hWW.out];go_simp
  have k1 : W.cell? ⟨w2.heap.size,1,none⟩ = some (.int .i64 a):=by rw [← hWW.out];go_simp
  have k2 : W.cell? ⟨w2.heap.size,2,none⟩ = some (.int .i64 b):=by rw [← hWW.out];go_simp
  have k3 : W.cell? ⟨w2.heap.size,3,none⟩ = some (.int .i64 c):=by rw [← hWW.out];go_simp
  have k4 : W.cell? ⟨w2.heap.size,4,none⟩ = some (.int .i64 n):=by rw [← hWW.out];go_simp
  have k5 : W.cell? ⟨w2.heap.size,5,none⟩ = some (.slice aa args.length acap):=by rw [← hWW.out];go_simp
  have hbW : Below w2.heap.size w2 W:=by rw [← hWW.out];exact Rd.byB
  have hzW : w2.heap.size < W.heap.size:=cell_lt k0
  have SW:=S2.out.below hbW
  have s0:=kept hbW hrw r0
  have s1:=kept hbW hrw r1
  have sf0:=frz_kept hbW hrw rf0
  have sf1:=frz_kept hbW hrw rf1
  have e0:=SW.c0
  have e11:=SW.c11
  have ef11:=SW.fz 11 (by decide)
  have hcbW:=SW.cbw
  have hrW : w.heap.size < W.heap.size:=by omega
  have G:=Lib.hid (GW.out.trans (Gr.of_below hbW))
  replace SW:=Lib.hid SW
  clear hWW r0 r1 rf0 rf1 z0 z11 z7 u0 u1 u2 u3 u4 u5 GW hbW S2
  go_wp2_with fail
  go_at_call 181
  refine (takeNo (SW.out.below (by exact Rd.byB)) hn _).mono ?_
  rintro e w4 ⟨rfl,hb4⟩
  have HB4 : Below W.heap.size W w4:=Below.trans (by exact Rd.byB) (hb4.mono Rd.byL)
  unfold pan
  refine And.intro rfl ?_
  exact ⟨Pan.one _,((G.out.trans (Gr.of_below HB4)).lft (SW.out.below HB4)).stop⟩
set_option maxRecDepth 100000 in
set_option maxHeartbeats 2000000 in
theorem do13b (S : ST E w L P m d h fr vs) (hbig : fr.stk.length ≤ 1000) (hatb : fr.at_ ≤ 100000) (hs : h.steps < E.fuel) (hfu : E.fuel ≤ 60000) (a b c n : Int) (args : List Int) (hi : m.code[fr.at_]? = some ⟨13, a, b, c, n, args⟩) (hn : fr.stk ≠ []) (hk : (top fr.stk).kind ≠ 3) :
    Calls Try.prog 124 #[.pointer (some ⟨P.cb,0,none⟩)] w (DoR E L P m d vs fr w (.stop 6 (stepped h))):=by
  have HS:=Lib.hid S
  have hcb:=S.cbw
  have hat : fr.at_ < m.code.length:=(List.getElem?_eq_some_iff.1 hi).1
  obtain ⟨ica,icap,hvc,i1,i2,iel⟩:=id S.M.co
  obtain ⟨ib,io,rfl,hib,hie⟩:=iel fr.at_ hat
  have hx : m.code[fr.at_] = ⟨13,a,b,c,n,args⟩:=by rw [List.getElem?_eq_getElem hat] at hi;exact Option.some.inj hi
  rw [hx] at hie
  obtain ⟨x0,x1,x2,x3,x4,_,va,x5,hva⟩:=hie
  obtain ⟨aa,acap,rfl,_⟩:=hva
  simp only at x0 x1 x2 x3 x4
  have c7:=S.c7
  rw [hvc] at c7
  have c0:=S.c0
  have c11:=S.c11
  have nr:=S.fo_new (Nat.le_refl _)
  have nrO : ¬ own E L w.heap.size:=fun hk=>nr (.inl hk)
  have nib : ¬ fo E L P vs ib:=fun hk=>by have:=(S.fo_lo hk).1;omega
  have nibO : ¬ own E L ib:=fun hk=>nib (.inl hk)
  have hibw : ib < w.heap.size:=by have:=S.base;omega
  have hati : (fr.at_ : Int) < m.code.length:=by omega
  have hatd : decide ((fr.at_ : Int) < m.code.length) = true:=by simpa using hati
  have hwr : IntKind.i64.wrap ((fr.at_ : Int) + 1) = (fr.at_ : Int) + 1:=by rw [Num.wrap_i64,wrap64_id (by unfold Ok;omega)]
  have HCO:=Lib.hid hvc
  clear S iel hi hx hvc i1
  go_enter Try.func124,Try.ntmps124
  go_wp2_with (go_at_call 178;refine (stepOk (HS.out.below (by exact Rd.byB)).H hs hfu).mono ?_;rintro e w2 ⟨rfl,H2,K2⟩;have S2:=(HS.out.below (w':=w.alloc (.cells #[.int .i64 0,.int .i64 0] 118)) (by exact Rd.byB)).heap K2 same_own H2;have r0:=K2.cell (c:=w.heap.size) (o:=0) (v:=.int .i64 0) (by go_simp) nrO;have r1:=K2.cell (c:=w.heap.size) (o:=1) (v:=.int .i64 0) (by go_simp) nrO;have rf0:=K2.frz (c:=w.heap.size) (o:=0) (b:=false) (by go_simp) (by simp) nrO;have rf1:=K2.frz (c:=w.heap.size) (o:=1) (b:=false) (by go_simp) (by simp) nrO;have z0:=S2.c0;have z11:=S2.c11;have z7:=S2.c7;rw [HCO.out] at z7;have u0:=K2.cell (c:=ib) (o:=io + fr.at_ * 6) (v:=.int .i64 (13)) (by go_simp) nibO;have u1:=K2.cell (c:=ib) (o:=io + fr.at_ * 6 + 1) (v:=.int .i64 a) (by go_simp) nibO;have u2:=K2.cell (c:=ib) (o:=io + fr.at_ * 6 + 2) (v:=.int .i64 b) (by go_simp) nibO;have u3:=K2.cell (c:=ib) (o:=io + fr.at_ * 6 + 3) (v:=.int .i64 c) (by go_simp) nibO;have u4:=K2.cell (c:=ib) (o:=io + fr.at_ * 6 + 4) (v:=.int .i64 n) (by go_simp) nibO;have u5:=K2.cell (c:=ib) (o:=io + fr.at_ * 6 + 5) (v:=.slice aa args.length acap) (by go_simp) nibO;have GW:=Lib.hid (show Gr E L P vs w L vs w2 from ⟨(Kp.of_below (B:=w.heap.size) (X:=fo E L P vs) (w':=w.alloc (.cells #[.int .i64 0,.int .i64 0] 118)) (by exact Rd.byB) (Nat.le_refl _)).trans K2 (fun y hy=>.inl (.inl hy)),fun _ q=>.inl q,fun _ q=>.inl q⟩);have nf2:=S2.fo_new (Nat.le_refl _);have hcb2:=S2.cbw;have hrw:=cell_lt r0;have hib2:=cell_lt u0;replace S2:=Lib.hid S2;clear H2 K2 c7 c0 c11 x0 x1 x2 x3 x4 x5)
  refine wp_region_held_drew (S:=fun w'=>w'.cell? ⟨P.cb,11,none⟩ = some (.int .i64 fr.at_) ∧ w'.cell? ⟨P.cb,7,none⟩ = some (.slice (some ⟨ib,io,none⟩) m.code.length icap)) (by kernel_rfl) (by (try dsimp only);refine ⟨?_,?_⟩ <;> go_simp) (fun hHeld=>?_)
  refine Drawn.tk 0 (some 12) rfl rfl (by assumption) ?_
  try simp only [Act.put,Drawn.La,Drawn.Lb,Drawn.Lc]
  refine Drawn.tk 1 (some 13) rfl rfl (by assumption) ?_
  try simp only [Act.put,Drawn.La,Drawn.Lb,Drawn.Lc]
  refine Drawn.tk 2 (some 14) rfl rfl (by assumption) ?_
  try simp only [Act.put,Drawn.La,Drawn.Lb,Drawn.Lc]
  refine Drawn.tk 3 (some 15) rfl rfl (by assumption) ?_
  try simp only [Act.put,Drawn.La,Drawn.Lb,Drawn.Lc]
  refine Drawn.tk 4 (some 16) rfl rfl (by assumption) ?_
  try simp only [Act.put,Drawn.La,Drawn.Lb,Drawn.Lc]
  refine Drawn.tk 5 (some 17) rfl rfl (by assumption) ?_
  try simp only [Act.put,Drawn.La,Drawn.Lb,Drawn.Lc]
  refine Drawn.tk 6 (some 18) rfl rfl (by assumption) ?_
  try simp only [Act.put,Drawn.La,Drawn.Lb,Drawn.Lc]
  refine Drawn.tk 7 (some 19) rfl rfl (by assumption) ?_
  try simp only [Act.put,Drawn.La,Drawn.Lb,Drawn.Lc]
  refine Drawn.tk 8 (some 20) rfl rfl (by assumption) ?_
  try simp only [Act.put,Drawn.La,Drawn.Lb,Drawn.Lc]
  refine Drawn.tk 9 (some 21) rfl rfl (by assumption) ?_
  try simp only [Act.put,Drawn.La,Drawn.Lb,Drawn.Lc]
  refine Drawn.tk 10 (some 22) rfl rfl (by assumption) ?_
  try simp only [Act.put,Drawn.La,Drawn.Lb,Drawn.Lc]
  refine wpAnyH_ready (rs:=[11]) (by kernel_rfl) (by simp) ?_
  refine AllReadyH.cons rfl (fun K hK=>?_) AllReadyH.nil
  go_simp
  refine (mustT _).mono ?_
  rintro e w3 ⟨rfl,rfl⟩
  go_wp2_with fail
  refine hK.out _ _ (by (try dsimp only);refine ⟨?_,?_⟩ <;> go_simp) (fun hHeld=>?_)
  clear hK K
  try simp only [Act.put,Drawn.La,Drawn.Lb,Drawn.Lc]
  refine wpAnyH_done (by kernel_rfl) ?_ _
  go_wp2_with fail
  refine wp_region_held_drew (S:=fun w'=>w'.cell? ⟨P.cb,11,none⟩ = some (.int .i64 fr.at_) ∧ w'.cell? ⟨P.cb,7,none⟩ = some (.slice (some ⟨ib,io,none⟩) m.code.length icap) ∧ w'.cell? ⟨ib,io + fr.at_ * 6,none⟩ = some (.int .i64 13) ∧ w'.cell? ⟨ib,io + fr.at_ * 6 + 1,none⟩ = some (.int .i64 a) ∧ w'.cell? ⟨ib,io + fr.at_ * 6 + 2,none⟩ = some (.int .i64 b) ∧ w'.cell? ⟨ib,io + fr.at_ * 6 + 3,none⟩ = some (.int .i64 c) ∧ w'.cell? ⟨ib,io + fr.at_ * 6 + 4,none⟩ = some (.int .i64 n) ∧ w'.cell? ⟨ib,io + fr.at_ * 6 + 5,none⟩ = some (.slice aa args.length acap)) (by kernel_rfl) (by (try dsimp only);refine ⟨?_,?_,?_,?_,?_,?_,?_,?_⟩ <;> go_simp) (fun hHeld=>?_)
  refine Drawn.tk 0 (some 24) rfl rfl (by assumption) ?_
  try simp only [Act.put,Drawn.La,Drawn.Lb,Drawn.Lc]
  refine Drawn.tk 1 (some 25) rfl rfl (by assumption) ?_
  try simp only [Act.put,Drawn.La,Drawn.Lb,Drawn.Lc]
  refine Drawn.tk 2 (some 26) rfl rfl (by assumption) ?_
  try simp only [Act.put,Drawn.La,Drawn.Lb,Drawn.Lc]
  refine Drawn.tk 3 (some 27) rfl rfl (by assumption) ?_
  try simp only [Act.put,Drawn.La,Drawn.Lb,Drawn.Lc]
  refine Drawn.tk 4 (some 28) rfl rfl (by assumption) ?_
  try simp only [Act.put,Drawn.La,Drawn.Lb,Drawn.Lc]
  refine Drawn.tk 5 (some 29) rfl rfl (by assumption) ?_
  try simp only [Act.put,Drawn.La,Drawn.Lb,Drawn.Lc]
  refine Drawn.tk 6 (some 30) rfl rfl (by assumption) ?_
  try simp only [Act.put,Drawn.La,Drawn.Lb,Drawn.Lc]
  refine Drawn.tk 7 (some 31) rfl rfl (by assumption) ?_
  try simp only [Act.put,Drawn.La,Drawn.Lb,Drawn.Lc]
  refine Drawn.tk 8 (some 32) rfl rfl (by assumption) ?_
  try simp only [Act.put,Drawn.La,Drawn.Lb,Drawn.Lc]
  refine Drawn.tk 9 (some 33) rfl rfl (by assumption) ?_
  try simp only [Act.put,Drawn.La,Drawn.Lb,Drawn.Lc]
  refine Drawn.tk 10 (some 34) rfl rfl (by assumption) ?_
  try simp only [Act.put,Drawn.La,Drawn.Lb,Drawn.Lc]
  refine wpAnyH_ready (rs:=[11]) (by kernel_rfl) (by simp) ?_
  refine AllReadyH.cons rfl (fun K hK=>?_) AllReadyH.nil
  go_simp
  refine hK.out _ _ (by (try dsimp only);refine ⟨?_,?_,?_,?_,?_,?_,?_,?_⟩ <;> go_simp) (fun hHeld=>?_)
  clear hK K
  try simp only [Act.put,Drawn.La,Drawn.Lb,Drawn.Lc]
  refine wpAnyH_ready (rs:=[12]) (by kernel_rfl) (by simp) ?_
  refine AllReadyH.cons rfl (fun K hK=>?_) AllReadyH.nil
  go_simp
  refine hK.out _ _ (by (try dsimp only);refine ⟨?_,?_,?_,?_,?_,?_,?_,?_⟩ <;> go_simp) (fun hHeld=>?_)
  clear hK K
  try simp only [Act.put,Drawn.La,Drawn.Lb,Drawn.Lc]
  refine wpAnyH_done (by kernel_rfl) ?_ _
  generalize hWW : World.drew _ = W
  replace hWW:=Lib.hid hWW
  have k0 : W.cell? ⟨w2.heap.size,0,none⟩ = some (.int .i64 (13)):=by rw [← hWW.out];go_simp
  have k1 : W.cell? ⟨w2.heap.size,1,none⟩ = some (.int .i64 a):=by rw [← hWW.out];go_simp
  have k2 : W.cell? ⟨w2.heap.size,2,none⟩ = some (.int .i64 b):=by rw [← hWW.out];go_simp
  have k3 : W.cell? ⟨w2.heap.size,3,none⟩ = some (.int .i64 c):=by rw [← hWW.out];go_simp
  have k4 : W.cell? ⟨w2.heap.size,4,none⟩ = some (.int .i64 n):=by rw [← hWW.out];go_simp
  have k5 : W.cell? ⟨w2.heap.size,5,none⟩ = some (.slice aa args.length acap):=by rw [← hWW.out];go_simp
  have hbW : Below w2.heap.size w2 W:=by rw [← hWW.out];exact Rd.byB
  have hzW : w2.heap.size < W.heap.size:=cell_lt k0
  have SW:=S2.out.below hbW
  have s0:=kept hbW hrw r0
  have s1:=kept hbW hrw r1
  have sf0:=frz_kept hbW hrw rf0
  have sf1:=frz_kept hbW hrw rf1
  have e0:=SW.c0
  have e11:=SW.c11
  have ef11:=SW.fz 11 (by decide)
  have hcbW:=SW.cbw
  have hrW : w.heap.size < W.heap.size:=by omega
  have G:=Lib.hid (GW.out.trans (Gr.of_below hbW))
  replace SW:=Lib.hid SW
  clear hWW r0 r1 rf0 rf1 z0 z11 z7 u0 u1 u2 u3 u4 u5 GW hbW S2
  go_wp2_with fail
  go_at_call 181
  refine (takeBad (SW.out.below (by exact Rd.byB)) hn hbig _ hk).mono ?_
  rintro e w4 ⟨rfl,A⟩
  obtain ⟨L4,v4,G4,S4⟩:=(LftF.before (w:=W) (by exact Rd.byB) A).opn
  unfold pan
  refine And.intro rfl ?_
  exact ⟨Pan.one _,((G.out.trans G4).lft S4).stop⟩
set_option maxRecDepth 100000 in
set_option maxHeartbeats 2000000 in
theorem do13t (S : ST E w L P m d h fr vs) (hbig : fr.stk.length ≤ 1000) (hatb : fr.at_ ≤ 100000) (hs : h.steps < E.fuel) (hfu : E.fuel ≤ 60000) (a b c n : Int) (args : List Int) (hi : m.code[fr.at_]? = some ⟨13, a, b, c, n, args⟩) (hn : fr.stk ≠ []) (hk : (top fr.stk).kind = 3) (ha : 0 ≤ a) (hlt : (top fr.stk).n < 0) :
    Calls Try.prog 124 #[.pointer (some ⟨P.cb,0,none⟩)] w (DoR E L P m d vs fr w (.go ⟨fr.loc,fr.stk.dropLast,a.toNat⟩ (stepped h))):=by
  obtain ⟨a,rfl⟩:=Int.eq_ofNat_of_zero_le ha
  obtain ⟨⟨tk,tn⟩,ht⟩ : ∃ t,Hid (top fr.stk = t):=⟨_,Lib.hid rfl⟩
  rw [ht.out] at hk
  simp only at hk
  subst hk
  have hfl:=fieldN
  have hd : decide (tn < 0) = true:=by rw [ht.out] at hlt;simpa using hlt
  clear hlt
  have HS:=Lib.hid S
  have hcb:=S.cbw
  have hat : fr.at_ < m.code.length:=(List.getElem?_eq_some_iff.1 hi).1
  obtain ⟨ica,icap,hvc,i1,i2,iel⟩:=id S.M.co
  obtain ⟨ib,io,rfl,hib,hie⟩:=iel fr.at_ hat
  have hx : m.code[fr.at_] = ⟨13,a,b,c,n,args⟩:=by rw [List.getElem?_eq_getElem hat] at hi;exact Option.some.inj hi
  rw [hx] at hie
  obtain ⟨x0,x1,x2,x3,x4,_,va,x5,hva⟩:=hie
  obtain ⟨aa,acap,rfl,_⟩:=hva
  simp only at x0 x1 x2 x3 x4
  have c7:=S.c7
  rw [hvc] at c7
  have c0:=S.c0
  have c11:=S.c11
  have nr:=S.fo_new (Nat.le_refl _)
  have nrO : ¬ own E L w.heap.size:=fun hk=>nr (.inl hk)
  have nib : ¬ fo E L P vs ib:=fun hk=>by have:=(S.fo_lo hk).1;omega
  have nibO : ¬ own E L ib:=fun hk=>nib (.inl hk)
  have hibw : ib < w.heap.size:=by have:=S.base;omega
  have hati : (fr.at_ : Int) < m.code.length:=by omega
  have hatd : decide ((fr.at_ : Int) < m.code.length) = true:=by simpa using hati
  have hwr : IntKind.i64.wrap ((fr.at_ : Int) + 1) = (fr.at_ : Int) + 1:=by rw [Num.wrap_i64,wrap64_id (by unfold Ok;omega)]
  have HCO:=Lib.hid hvc
  clear S iel hi hx hvc i1
  go_enter Try.func124,Try.ntmps124
  go_wp2_with (go_at_call 178;refine (stepOk (HS.out.below (by exact Rd.byB)).H hs hfu).mono ?_;rintro e w2 ⟨rfl,H2,K2⟩;have S2:=(HS.out.below (w':=w.alloc (.cells #[.int .i64 0,.int .i64 0] 118)) (by exact Rd.byB)).heap K2 same_own H2;have r0:=K2.cell (c:=w.heap.size) (o:=0) (v:=.int .i64 0) (by go_simp) nrO;have r1:=K2.cell (c:=w.heap.size) (o:=1) (v:=.int .i64 0) (by go_simp) nrO;have rf0:=K2.frz (c:=w.heap.size) (o:=0) (b:=false) (by go_simp) (by simp) nrO;have rf1:=K2.frz (c:=w.heap.size) (o:=1) (b:=false) (by go_simp) (by simp) nrO;have z0:=S2.c0;have z11:=S2.c11;have z7:=S2.c7;rw [HCO.out] at z7;have u0:=K2.cell (c:=ib) (o:=io + fr.at_ * 6) (v:=.int .i64 (13)) (by go_simp) nibO;have u1:=K2.cell (c:=ib) (o:=io + fr.at_ * 6 + 1) (v:=.int .i64 a) (by go_simp) nibO;have u2:=K2.cell (c:=ib) (o:=io + fr.at_ * 6 + 2) (v:=.int .i64 b) (by go_simp) nibO;have u3:=K2.cell (c:=ib) (o:=io + fr.at_ * 6 + 3) (v:=.int .i64 c) (by go_simp) nibO;have u4:=K2.cell (c:=ib) (o:=io + fr.at_ * 6 + 4) (v:=.int .i64 n) (by go_simp) nibO;have u5:=K2.cell (c:=ib) (o:=io + fr.at_ * 6 + 5) (v:=.slice aa args.length acap) (by go_simp) nibO;have GW:=Lib.hid (show Gr E L P vs w L vs w2 from ⟨(Kp.of_below (B:=w.heap.size) (X:=fo E L P vs) (w':=w.alloc (.cells #[.int .i64 0,.int .i64 0] 118)) (by exact Rd.byB) (Nat.le_refl _)).trans K2 (fun y hy=>.inl (.inl hy)),fun _ q=>.inl q,fun _ q=>.inl q⟩);have nf2:=S2.fo_new (Nat.le_refl _);have hcb2:=S2.cbw;have hrw:=cell_lt r0;have hib2:=cell_lt u0;replace S2:=Lib.hid S2;clear H2 K2 c7 c0 c11 x0 x1 x2 x3 x4 x5)
  refine wp_region_held_drew (S:=fun w'=>w'.cell? ⟨P.cb,11,none⟩ = some (.int .i64 fr.at_) ∧ w'.cell? ⟨P.cb,7,none⟩ = some (.slice (some ⟨ib,io,none⟩) m.code.length icap)) (by kernel_rfl) (by (try dsimp only);refine ⟨?_,?_⟩ <;> go_simp) (fun hHeld=>?_)
  refine Drawn.tk 0 (some 12) rfl rfl (by assumption) ?_
  try simp only [Act.put,Drawn.La,Drawn.Lb,Drawn.Lc]
  refine Drawn.tk 1 (some 13) rfl rfl (by assumption) ?_
  try simp only [Act.put,Drawn.La,Drawn.Lb,Drawn.Lc]
  refine Drawn.tk 2 (some 14) rfl rfl (by assumption) ?_
  try simp only [Act.put,Drawn.La,Drawn.Lb,Drawn.Lc]
  refine Drawn.tk 3 (some 15) rfl rfl (by assumption) ?_
  try simp only [Act.put,Drawn.La,Drawn.Lb,Drawn.Lc]
  refine Drawn.tk 4 (some 16) rfl rfl (by assumption) ?_
  try simp only [Act.put,Drawn.La,Drawn.Lb,Drawn.Lc]
  refine Drawn.tk 5 (some 17) rfl rfl (by assumption) ?_
  try simp only [Act.put,Drawn.La,Drawn.Lb,Drawn.Lc]
  refine Drawn.tk 6 (some 18) rfl rfl (by assumption) ?_
  try simp only [Act.put,Drawn.La,Drawn.Lb,Drawn.Lc]
  refine Drawn.tk 7 (some 19) rfl rfl (by assumption) ?_
  try simp only [Act.put,Drawn.La,Drawn.Lb,Drawn.Lc]
  refine Drawn.tk 8 (some 20) rfl rfl (by assumption) ?_
  try simp only [Act.put,Drawn.La,Drawn.Lb,Drawn.Lc]
  refine Drawn.tk 9 (some 21) rfl rfl (by assumption) ?_
  try simp only [Act.put,Drawn.La,Drawn.Lb,Drawn.Lc]
  refine Drawn.tk 10 (some 22) rfl rfl (by assumption) ?_
  try simp only [Act.put,Drawn.La,Drawn.Lb,Drawn.Lc]
  refine wpAnyH_ready (rs:=[11]) (by kernel_rfl) (by simp) ?_
  refine AllReadyH.cons rfl (fun K hK=>?_) AllReadyH.nil
  go_simp
  refine (mustT _).mono ?_
  rintro e w3 ⟨rfl,rfl⟩
  go_wp2_with fail
  refine hK.out _ _ (by (try dsimp only);refine ⟨?_,?_⟩ <;> go_simp) (fun hHeld=>?_)
  clear hK K
  try simp only [Act.put,Drawn.La,Drawn.Lb,Drawn.Lc]
  refine wpAnyH_done (by kernel_rfl) ?_ _
  go_wp2_with fail
  refine wp_region_held_drew (S:=fun w'=>w'.cell? ⟨P.cb,11,none⟩ = some (.int .i64 fr.at_) ∧ w'.cell? ⟨P.cb,7,none⟩ = some (.slice (some ⟨ib,io,none⟩) m.code.length icap) ∧ w'.cell? ⟨ib,io + fr.at_ * 6,none⟩ = some (.int .i64 13) ∧ w'.cell? ⟨ib,io + fr.at_ * 6 + 1,none⟩ = some (.int .i64 a) ∧ w'.cell? ⟨ib,io + fr.at_ * 6 + 2,none⟩ = some (.int .i64 b) ∧ w'.cell? ⟨ib,io + fr.at_ * 6 + 3,none⟩ = some (.int .i64 c) ∧ w'.cell? ⟨ib,io + fr.at_ * 6 + 4,none⟩ = some (.int .i64 n) ∧ w'.cell? ⟨ib,io + fr.at_ * 6 + 5,none⟩ = some (.slice aa args.length acap)) (by kernel_rfl) (by (try dsimp only);refine ⟨?_,?_,?_,?_,?_,?_,?_,?_⟩ <;> go_simp) (fun hHeld=>?_)
  refine Drawn.tk 0 (some 24) rfl rfl (by assumption) ?_
  try simp only [Act.put,Drawn.La,Drawn.Lb,Drawn.Lc]
  refine Drawn.tk 1 (some 25) rfl rfl (by assumption) ?_
  try simp only [Act.put,Drawn.La,Drawn.Lb,Drawn.Lc]
  refine Drawn.tk 2 (some 26) rfl rfl (by assumption) ?_
  try simp only [Act.put,Drawn.La,Drawn.Lb,Drawn.Lc]
  refine Drawn.tk 3 (some 27) rfl rfl (by assumption) ?_
  try simp only [Act.put,Drawn.La,Drawn.Lb,Drawn.Lc]
  refine Drawn.tk 4 (some 28) rfl rfl (by assumption) ?_
  try simp only [Act.put,Drawn.La,Drawn.Lb,Drawn.Lc]
  refine Drawn.tk 5 (some 29) rfl rfl (by assumption) ?_
  try simp only [Act.put,Drawn.La,Drawn.Lb,Drawn.Lc]
  refine Drawn.tk 6 (some 30) rfl rfl (by assumption) ?_
  try simp only [Act.put,Drawn.La,Drawn.Lb,Drawn.Lc]
  refine Drawn.tk 7 (some 31) rfl rfl (by assumption) ?_
  try simp only [Act.put,Drawn.La,Drawn.Lb,Drawn.Lc]
  refine Drawn.tk 8 (some 32) rfl rfl (by assumption) ?_
  try simp only [Act.put,Drawn.La,Drawn.Lb,Drawn.Lc]
  refine Drawn.tk 9 (some 33) rfl rfl (by assumption) ?_
  try simp only [Act.put,Drawn.La,Drawn.Lb,Drawn.Lc]
  refine Drawn.tk 10 (some 34) rfl rfl (by assumption) ?_
  try simp only [Act.put,Drawn.La,Drawn.Lb,Drawn.Lc]
  refine wpAnyH_ready (rs:=[11]) (by kernel_rfl) (by simp) ?_
  refine AllReadyH.cons rfl (fun K hK=>?_) AllReadyH.nil
  go_simp
  refine hK.out _ _ (by (try dsimp only);refine ⟨?_,?_,?_,?_,?_,?_,?_,?_⟩ <;> go_simp) (fun hHeld=>?_)
  clear hK K
  try simp only [Act.put,Drawn.La,Drawn.Lb,Drawn.Lc]
  refine wpAnyH_ready (rs:=[12]) (by kernel_rfl) (by simp) ?_
  refine AllReadyH.cons rfl (fun K hK=>?_) AllReadyH.nil
  go_simp
  refine hK.out _ _ (by (try dsimp only);refine ⟨?_,?_,?_,?_,?_,?_,?_,?_⟩ <;> go_simp) (fun hHeld=>?_)
  clear hK K
  try simp only [Act.put,Drawn.La,Drawn.Lb,Drawn.Lc]
  refine wpAnyH_done (by kernel_rfl) ?_ _
  generalize hWW : World.drew _ = W
  replace hWW:=Lib.hid hWW
  have k0 : W.cell? ⟨w2.heap.size,0,none⟩ = some (.int .i64 (13)):=by rw [← hWW.out];go_simp
  have k1 : W.cell? ⟨w2.heap.size,1,none⟩ = some (.int .i64 a):=by rw [← hWW.out];go_simp
  have k2 : W.cell? ⟨w2.heap.size,2,none⟩ = some (.int .i64 b):=by rw [← hWW.out];go_simp
  have k3 : W.cell? ⟨w2.heap.size,3,none⟩ = some (.int .i64 c):=by rw [← hWW.out];go_simp
  have k4 : W.cell? ⟨w2.heap.size,4,none⟩ = some (.int .i64 n):=by rw [← hWW.out];go_simp
  have k5 : W.cell? ⟨w2.heap.size,5,none⟩ = some (.slice aa args.length acap):=by rw [← hWW.out];go_simp
  have hbW : Below w2.heap.size w2 W:=by rw [← hWW.out];exact Rd.byB
  have hzW : w2.heap.size < W.heap.size:=cell_lt k0
  have SW:=S2.out.below hbW
  have s0:=kept hbW hrw r0
  have s1:=kept hbW hrw r1
  have sf0:=frz_kept hbW hrw rf0
  have sf1:=frz_kept hbW hrw rf1
  have e0:=SW.c0
  have e11:=SW.c11
  have ef11:=SW.fz 11 (by decide)
  have hcbW:=SW.cbw
  have hrW : w.heap.size < W.heap.size:=by omega
  have G:=Lib.hid (GW.out.trans (Gr.of_below hbW))
  replace SW:=Lib.hid SW
  clear hWW r0 r1 rf0 rf1 z0 z11 z7 u0 u1 u2 u3 u4 u5 GW hbW S2
  go_wp2_with fail
  go_at_call 181
  refine (takeOk (SW.out.below (by exact Rd.byB)) hn hbig _ (by rw [ht.out])).mono ?_
  rw [ht.out]
  unfold vl
  rintro e w4 ⟨rfl,A⟩
  obtain ⟨L4,v4,G4,S4⟩:=A.opn
  have y1:=G4.cell (b:=w2.heap.size) (o:=1) (v:=.int .i64 a) nf2 (by go_simp)
  have y2:=G4.cell (b:=w2.heap.size) (o:=2) (v:=.int .i64 b) nf2 (by go_simp)
  have t0:=G4.cell (b:=w.heap.size) (o:=0) (v:=.int .i64 0) nr (by go_simp)
  have t1:=G4.cell (b:=w.heap.size) (o:=1) (v:=.int .i64 0) nr (by go_simp)
  have tf0:=G4.frz (b:=w.heap.size) (o:=0) (x:=false) nr (by first | omega | (simp;omega)) (by go_simp)
  have tf1:=G4.frz (b:=w.heap.size) (o:=1) (x:=false) nr (by first | omega | (simp;omega)) (by go_simp)
  have nr4:=G4.nf (by first | omega | (simp;omega)) nr
  have GB:=Lib.hid ((G.out.trans (Gr.of_below (by exact Rd.byB))).trans G4)
  have hrw4:=cell_lt t0
  replace S4:=Lib.hid S4
  clear A G4 s0 s1 sf0 sf1 k0 k1 k2 k3 k4 k5 e0 e11 ef11
  have e11':=S4.out.c11
  have ef11':=S4.out.fz 11 (by decide)
  have hcb':=S4.out.cbw
  go_wp2_with fail
  refine bodyPost_ret (v:=.tuple #[.agg #[.int .i64 0,.int .i64 0],.bool false]) (by simp [results,Try.results124,go_sem] <;> go_simp) rfl ?_
  obtain ⟨L8,v8,G8,S8⟩:=(S4.out.setAt (a)).opn
  exact ⟨rfl,Gr.upon HS.out (GB.out.trans G8) S8 (Nat.le_refl _) (G8.nf hrw4 nr4) _ _⟩
set_option maxRecDepth 100000 in
set_option maxHeartbeats 2000000 in
theorem do13f (S : ST E w L P m d h fr vs) (hbig : fr.stk.length ≤ 1000) (hatb : fr.at_ ≤ 100000) (hs : h.steps < E.fuel) (hfu : E.fuel ≤ 60000) (a b c n : Int) (args : List Int) (hi : m.code[fr.at_]? = some ⟨13, a, b, c, n, args⟩) (hn : fr.stk ≠ []) (hk : (top fr.stk).kind = 3) (ha : 0 ≤ a) (hlt : ¬ (top fr.stk).n < 0) :
    Calls Try.prog 124 #[.pointer (some ⟨P.cb,0,none⟩)] w (DoR E L P m d vs fr w (.go ⟨fr.loc,fr.stk.dropLast,fr.at_ + 1⟩ (stepped h))):=by
  obtain ⟨a,rfl⟩:=Int.eq_ofNat_of_zero_le ha
  obtain ⟨⟨tk,tn⟩,ht⟩ : ∃ t,Hid (top fr.stk = t):=⟨_,Lib.hid rfl⟩
  rw [ht.out] at hk
  simp only at hk
  subst hk
  have hfl:=fieldN
  have hd : decide (tn < 0) = false:=by rw [ht.out] at hlt;simpa using hlt
  clear hlt
  have HS:=Lib.hid S
  have hcb:=S.cbw
  have hat : fr.at_ < m.code.length:=(List.getElem?_eq_some_iff.1 hi).1
  obtain ⟨ica,icap,hvc,i1,i2,iel⟩:=id S.M.co
  obtain ⟨ib,io,rfl,hib,hie⟩:=iel fr.at_ hat
  have hx : m.code[fr.at_] = ⟨13,a,b,c,n,args⟩:=by rw [List.getElem?_eq_getElem hat] at hi;exact Option.some.inj hi
  rw [hx] at hie
  obtain ⟨x0,x1,x2,x3,x4,_,va,x5,hva⟩:=hie
  obtain ⟨aa,acap,rfl,_⟩:=hva
  simp only at x0 x1 x2 x3 x4
  have c7:=S.c7
  rw [hvc] at c7
  have c0:=S.c0
  have c11:=S.c11
  have nr:=S.fo_new (Nat.le_refl _)
  have nrO : ¬ own E L w.heap.size:=fun hk=>nr (.inl hk)
  have nib : ¬ fo E L P vs ib:=fun hk=>by have:=(S.fo_lo hk).1;omega
  have nibO : ¬ own E L ib:=fun hk=>nib (.inl hk)
  have hibw : ib < w.heap.size:=by have:=S.base;omega
  have hati : (fr.at_ : Int) < m.code.length:=by omega
  have hatd : decide ((fr.at_ : Int) < m.code.length) = true:=by simpa using hati
  have hwr : IntKind.i64.wrap ((fr.at_ : Int) + 1) = (fr.at_ : Int) + 1:=by rw [Num.wrap_i64,wrap64_id (by unfold Ok;omega)]
  have HCO:=Lib.hid hvc
  clear S iel hi hx hvc i1
  go_enter Try.func124,Try.ntmps124
  go_wp2_with (go_at_call 178;refine (stepOk (HS.out.below (by exact Rd.byB)).H hs hfu).mono ?_;rintro e w2 ⟨rfl,H2,K2⟩;have S2:=(HS.out.below (w':=w.alloc (.cells #[.int .i64 0,.int .i64 0] 118)) (by exact Rd.byB)).heap K2 same_own H2;have r0:=K2.cell (c:=w.heap.size) (o:=0) (v:=.int .i64 0) (by go_simp) nrO;have r1:=K2.cell (c:=w.heap.size) (o:=1) (v:=.int .i64 0) (by go_simp) nrO;have rf0:=K2.frz (c:=w.heap.size) (o:=0) (b:=false) (by go_simp) (by simp) nrO;have rf1:=K2.frz (c:=w.heap.size) (o:=1) (b:=false) (by go_simp) (by simp) nrO;have z0:=S2.c0;have z11:=S2.c11;have z7:=S2.c7;rw [HCO.out] at z7;have u0:=K2.cell (c:=ib) (o:=io + fr.at_ * 6) (v:=.int .i64 (13)) (by go_simp) nibO;have u1:=K2.cell (c:=ib) (o:=io + fr.at_ * 6 + 1) (v:=.int .i64 a) (by go_simp) nibO;have u2:=K2.cell (c:=ib) (o:=io + fr.at_ * 6 + 2) (v:=.int .i64 b) (by go_simp) nibO;have u3:=K2.cell (c:=ib) (o:=io + fr.at_ * 6 + 3) (v:=.int .i64 c) (by go_simp) nibO;have u4:=K2.cell (c:=ib) (o:=io + fr.at_ * 6 + 4) (v:=.int .i64 n) (by go_simp) nibO;have u5:=K2.cell (c:=ib) (o:=io + fr.at_ * 6 + 5) (v:=.slice aa args.length acap) (by go_simp) nibO;have GW:=Lib.hid (show Gr E L P vs w L vs w2 from ⟨(Kp.of_below (B:=w.heap.size) (X:=fo E L P vs) (w':=w.alloc (.cells #[.int .i64 0,.int .i64 0] 118)) (by exact Rd.byB) (Nat.le_refl _)).trans K2 (fun y hy=>.inl (.inl hy)),fun _ q=>.inl q,fun _ q=>.inl q⟩);have nf2:=S2.fo_new (Nat.le_refl _);have hcb2:=S2.cbw;have hrw:=cell_lt r0;have hib2:=cell_lt u0;replace S2:=Lib.hid S2;clear H2 K2 c7 c0 c11 x0 x1 x2 x3 x4 x5)
  refine wp_region_held_drew (S:=fun w'=>w'.cell? ⟨P.cb,11,none⟩ = some (.int .i64 fr.at_) ∧ w'.cell? ⟨P.cb,7,none⟩ = some (.slice (some ⟨ib,io,none⟩) m.code.length icap)) (by kernel_rfl) (by (try dsimp only);refine ⟨?_,?_⟩ <;> go_simp) (fun hHeld=>?_)
  refine Drawn.tk 0 (some 12) rfl rfl (by assumption) ?_
  try simp only [Act.put,Drawn.La,Drawn.Lb,Drawn.Lc]
  refine Drawn.tk 1 (some 13) rfl rfl (by assumption) ?_
  try simp only [Act.put,Drawn.La,Drawn.Lb,Drawn.Lc]
  refine Drawn.tk 2 (some 14) rfl rfl (by assumption) ?_
  try simp only [Act.put,Drawn.La,Drawn.Lb,Drawn.Lc]
  refine Drawn.tk 3 (some 15) rfl rfl (by assumption) ?_
  try simp only [Act.put,Drawn.La,Drawn.Lb,Drawn.Lc]
  refine Drawn.tk 4 (some 16) rfl rfl (by assumption) ?_
  try simp only [Act.put,Drawn.La,Drawn.Lb,Drawn.Lc]
  refine Drawn.tk 5 (some 17) rfl rfl (by assumption) ?_
  try simp only [Act.put,Drawn.La,Drawn.Lb,Drawn.Lc]
  refine Drawn.tk 6 (some 18) rfl rfl (by assumption) ?_
  try simp only [Act.put,Drawn.La,Drawn.Lb,Drawn.Lc]
  refine Drawn.tk 7 (some 19) rfl rfl (by assumption) ?_
  try simp only [Act.put,Drawn.La,Drawn.Lb,Drawn.Lc]
  refine Drawn.tk 8 (some 20) rfl rfl (by assumption) ?_
  try simp only [Act.put,Drawn.La,Drawn.Lb,Drawn.Lc]
  refine Drawn.tk 9 (some 21) rfl rfl (by assumption) ?_
  try simp only [Act.put,Drawn.La,Drawn.Lb,Drawn.Lc]
  refine Drawn.tk 10 (some 22) rfl rfl (by assumption) ?_
  try simp only [Act.put,Drawn.La,Drawn.Lb,Drawn.Lc]
  refine wpAnyH_ready (rs:=[11]) (by kernel_rfl) (by simp) ?_
  refine AllReadyH.cons rfl (fun K hK=>?_) AllReadyH.nil
  go_simp
  refine (mustT _).mono ?_
  rintro e w3 ⟨rfl,rfl⟩
  go_wp2_with fail
  refine hK.out _ _ (by (try dsimp only);refine ⟨?_,?_⟩ <;> go_simp) (fun hHeld=>?_)
  clear hK K
  try simp only [Act.put,Drawn.La,Drawn.Lb,Drawn.Lc]
  refine wpAnyH_done (by kernel_rfl) ?_ _
  go_wp2_with fail
  refine wp_region_held_drew (S:=fun w'=>w'.cell? ⟨P.cb,11,none⟩ = some (.int .i64 fr.at_) ∧ w'.cell? ⟨P.cb,7,none⟩ = some (.slice (some ⟨ib,io,none⟩) m.code.length icap) ∧ w'.cell? ⟨ib,io + fr.at_ * 6,none⟩ = some (.int .i64 13) ∧ w'.cell? ⟨ib,io + fr.at_ * 6 + 1,none⟩ = some (.int .i64 a) ∧ w'.cell? ⟨ib,io + fr.at_ * 6 + 2,none⟩ = some (.int .i64 b) ∧ w'.cell? ⟨ib,io + fr.at_ * 6 + 3,none⟩ = some (.int .i64 c) ∧ w'.cell? ⟨ib,io + fr.at_ * 6 + 4,none⟩ = some (.int .i64 n) ∧ w'.cell? ⟨ib,io + fr.at_ * 6 + 5,none⟩ = some (.slice aa args.length acap)) (by kernel_rfl) (by (try dsimp only);refine ⟨?_,?_,?_,?_,?_,?_,?_,?_⟩ <;> go_simp) (fun hHeld=>?_)
  refine Drawn.tk 0 (some 24) rfl rfl (by assumption) ?_
  try simp only [Act.put,Drawn.La,Drawn.Lb,Drawn.Lc]
  refine Drawn.tk 1 (some 25) rfl rfl (by assumption) ?_
  try simp only [Act.put,Drawn.La,Drawn.Lb,Drawn.Lc]
  refine Drawn.tk 2 (some 26) rfl rfl (by assumption) ?_
  try simp only [Act.put,Drawn.La,Drawn.Lb,Drawn.Lc]
  refine Drawn.tk 3 (some 27) rfl rfl (by assumption) ?_
  try simp only [Act.put,Drawn.La,Drawn.Lb,Drawn.Lc]
  refine Drawn.tk 4 (some 28) rfl rfl (by assumption) ?_
  try simp only [Act.put,Drawn.La,Drawn.Lb,Drawn.Lc]
  refine Drawn.tk 5 (some 29) rfl rfl (by assumption) ?_
  try simp only [Act.put,Drawn.La,Drawn.Lb,Drawn.Lc]
  refine Drawn.tk 6 (some 30) rfl rfl (by assumption) ?_
  try simp only [Act.put,Drawn.La,Drawn.Lb,Drawn.Lc]
  refine Drawn.tk 7 (some 31) rfl rfl (by assumption) ?_
  try simp only [Act.put,Drawn.La,Drawn.Lb,Drawn.Lc]
  refine Drawn.tk 8 (some 32) rfl rfl (by assumption) ?_
  try simp only [Act.put,Drawn.La,Drawn.Lb,Drawn.Lc]
  refine Drawn.tk 9 (some 33) rfl rfl (by assumption) ?_
  try simp only [Act.put,Drawn.La,Drawn.Lb,Drawn.Lc]
  refine Drawn.tk 10 (some 34) rfl rfl (by assumption) ?_
  try simp only [Act.put,Drawn.La,Drawn.Lb,Drawn.Lc]
  refine wpAnyH_ready (rs:=[11]) (by kernel_rfl) (by simp) ?_
  refine AllReadyH.cons rfl (fun K hK=>?_) AllReadyH.nil
  go_simp
  refine hK.out _ _ (by (try dsimp only);refine ⟨?_,?_,?_,?_,?_,?_,?_,?_⟩ <;> go_simp) (fun hHeld=>?_)
  clear hK K
  try simp only [Act.put,Drawn.La,Drawn.Lb,Drawn.Lc]
  refine wpAnyH_ready (rs:=[12]) (by kernel_rfl) (by simp) ?_
  refine AllReadyH.cons rfl (fun K hK=>?_) AllReadyH.nil
  go_simp
  refine hK.out _ _ (by (try dsimp only);refine ⟨?_,?_,?_,?_,?_,?_,?_,?_⟩ <;> go_simp) (fun hHeld=>?_)
  clear hK K
  try simp only [Act.put,Drawn.La,Drawn.Lb,Drawn.Lc]
  refine wpAnyH_done (by kernel_rfl) ?_ _
  generalize hWW : World.drew _ = W
  replace hWW:=Lib.hid hWW
  have k0 : W.cell? ⟨w2.heap.size,0,none⟩ = some (.int .i64 (13)):=by rw [← hWW.out];go_simp
  have k1 : W.cell? ⟨w2.heap.size,1,none⟩ = some (.int .i64 a):=by rw [← hWW.out];go_simp
  have k2 : W.cell? ⟨w2.heap.size,2,none⟩ = some (.int .i64 b):=by rw [← hWW.out];go_simp
  have k3 : W.cell? ⟨w2.heap.size,3,none⟩ = some (.int .i64 c):=by rw [← hWW.out];go_simp
  have k4 : W.cell? ⟨w2.heap.size,4,none⟩ = some (.int .i64 n):=by rw [← hWW.out];go_simp
  have k5 : W.cell? ⟨w2.heap.size,5,none⟩ = some (.slice aa args.length acap):=by rw [← hWW.out];go_simp
  have hbW : Below w2.heap.size w2 W:=by rw [← hWW.out];exact Rd.byB
  have hzW : w2.heap.size < W.heap.size:=cell_lt k0
  have SW:=S2.out.below hbW
  have s0:=kept hbW hrw r0
  have s1:=kept hbW hrw r1
  have sf0:=frz_kept hbW hrw rf0
  have sf1:=frz_kept hbW hrw rf1
  have e0:=SW.c0
  have e11:=SW.c11
  have ef11:=SW.fz 11 (by decide)
  have hcbW:=SW.cbw
  have hrW : w.heap.size < W.heap.size:=by omega
  have G:=Lib.hid (GW.out.trans (Gr.of_below hbW))
  replace SW:=Lib.hid SW
  clear hWW r0 r1 rf0 rf1 z0 z11 z7 u0 u1 u2 u3 u4 u5 GW hbW S2
  go_wp2_with fail
  go_at_call 181
  refine (takeOk (SW.out.below (by exact Rd.byB)) hn hbig _ (by rw [ht.out])).mono ?_
  rw [ht.out]
  unfold vl
  rintro e w4 ⟨rfl,A⟩
  obtain ⟨L4,v4,G4,S4⟩:=A.opn
  have y1:=G4.cell (b:=w2.heap.size) (o:=1) (v:=.int .i64 a) nf2 (by go_simp)
  have y2:=G4.cell (b:=w2.heap.size) (o:=2) (v:=.int .i64 b) nf2 (by go_simp)
  have t0:=G4.cell (b:=w.heap.size) (o:=0) (v:=.int .i64 0) nr (by go_simp)
  have t1:=G4.cell (b:=w.heap.size) (o:=1) (v:=.int .i64 0) nr (by go_simp)
  have tf0:=G4.frz (b:=w.heap.size) (o:=0) (x:=false) nr (by first | omega | (simp;omega)) (by go_simp)
  have tf1:=G4.frz (b:=w.heap.size) (o:=1) (x:=false) nr (by first | omega | (simp;omega)) (by go_simp)
  have nr4:=G4.nf (by first | omega | (simp;omega)) nr
  have GB:=Lib.hid ((G.out.trans (Gr.of_below (by exact Rd.byB))).trans G4)
  have hrw4:=cell_lt t0
  replace S4:=Lib.hid S4
  clear A G4 s0 s1 sf0 sf1 k0 k1 k2 k3 k4 k5 e0 e11 ef11
  have e11':=S4.out.c11
  have ef11':=S4.out.fz 11 (by decide)
  have hcb':=S4.out.cbw
  go_wp2_with fail
  refine bodyPost_ret (v:=.tuple #[.agg #[.int .i64 0,.int .i64 0],.bool false]) (by simp [results,Try.results124,go_sem] <;> go_simp) rfl ?_
  obtain ⟨L8,v8,G8,S8⟩:=(S4.out.setAt (fr.at_ + 1)).opn
  exact ⟨rfl,Gr.upon HS.out (GB.out.trans G8) S8 (Nat.le_refl _) (G8.nf hrw4 nr4) _ _⟩
set_option maxRecDepth 100000 in
set_option maxHeartbeats 2000000 in
theorem do21n (S : ST E w L P m d h fr vs) (hbig : fr.stk.length ≤ 1000) (hatb : fr.at_ ≤ 100000) (hs : h.steps < E.fuel) (hfu : E.fuel ≤ 60000) (a b c n : Int) (args : List Int) (hi : m.code[fr.at_]? = some ⟨21, a, b, c, n, args⟩) (hn : fr.stk = []) :
    Calls Try.prog 124 #[.pointer (some ⟨P.cb,0,none⟩)] w (DoR E L P m d vs fr w (.stop 6 (stepped h))):=by
  have HS:=Lib.hid S
  have hcb:=S.cbw
  have hat : fr.at_ < m.code.length:=(List.getElem?_eq_some_iff.1 hi).1
  obtain ⟨ica,icap,hvc,i1,i2,iel⟩:=id S.M.co
  obtain ⟨ib,io,rfl,hib,hie⟩:=iel fr.at_ hat
  have hx : m.code[fr.at_] = ⟨21,a,b,c,n,args⟩:=by rw [List.getElem?_eq_getElem hat] at hi;exact Option.some.inj hi
  rw [hx] at hie
  obtain ⟨x0,x1,x2,x3,x4,_,va,x5,hva⟩:=hie
  obtain ⟨aa,acap,rfl,_⟩:=hva
  simp only at x0 x1 x2 x3 x4
  have c7:=S.c7
  rw [hvc] at c7
  have c0:=S.c0
  have c11:=S.c11
  have nr:=S.fo_new (Nat.le_refl _)
  have nrO : ¬ own E L w.heap.size:=fun hk=>nr (.inl hk)
  have nib : ¬ fo E L P vs ib:=fun hk=>by have:=(S.fo_lo hk).1;omega
  have nibO : ¬ own E L ib:=fun hk=>nib (.inl hk)
  have hibw : ib < w.heap.size:=by have:=S.base;omega
  have hati : (fr.at_ : Int) < m.code.length:=by omega
  have hatd : decide ((fr.at_ : Int) < m.code.length) = true:=by simpa using hati
  have hwr : IntKind.i64.wrap ((fr.at_ : Int) + 1) = (fr.at_ : Int) + 1:=by rw [Num.wrap_i64,wrap64_id (by unfold Ok;omega)]
  have HCO:=Lib.hid hvc
  clear S iel hi hx hvc i1
  go_enter Try.func124,Try.ntmps124
  go_wp2_with (go_at_call 178;refine (stepOk (HS.out.below (by exact Rd.byB)).H hs hfu).mono ?_;rintro e w2 ⟨rfl,H2,K2⟩;have S2:=(HS.out.below (w':=w.alloc (.cells #[.int .i64 0,.int .i64 0] 118)) (by exact Rd.byB)).heap K2 same_own H2;have r0:=K2.cell (c:=w.heap.size) (o:=0) (v:=.int .i64 0) (by go_simp) nrO;have r1:=K2.cell (c:=w.heap.size) (o:=1) (v:=.int .i64 0) (by go_simp) nrO;have rf0:=K2.frz (c:=w.heap.size) (o:=0) (b:=false) (by go_simp) (by simp) nrO;have rf1:=K2.frz (c:=w.heap.size) (o:=1) (b:=false) (by go_simp) (by simp) nrO;have z0:=S2.c0;have z11:=S2.c11;have z7:=S2.c7;rw [HCO.out] at z7;have u0:=K2.cell (c:=ib) (o:=io + fr.at_ * 6) (v:=.int .i64 (21)) (by go_simp) nibO;have u1:=K2.cell (c:=ib) (o:=io + fr.at_ * 6 + 1) (v:=.int .i64 a) (by go_simp) nibO;have u2:=K2.cell (c:=ib) (o:=io + fr.at_ * 6 + 2) (v:=.int .i64 b) (by go_simp) nibO;have u3:=K2.cell (c:=ib) (o:=io + fr.at_ * 6 + 3) (v:=.int .i64 c) (by go_simp) nibO;have u4:=K2.cell (c:=ib) (o:=io + fr.at_ * 6 + 4) (v:=.int .i64 n) (by go_simp) nibO;have u5:=K2.cell (c:=ib) (o:=io + fr.at_ * 6 + 5) (v:=.slice aa args.length acap) (by go_simp) nibO;have GW:=Lib.hid (show Gr E L P vs w L vs w2 from ⟨(Kp.of_below (B:=w.heap.size) (X:=fo E L P vs) (w':=w.alloc (.cells #[.int .i64 0,.int .i64 0] 118)) (by exact Rd.byB) (Nat.le_refl _)).trans K2 (fun y hy=>.inl (.inl hy)),fun _ q=>.inl q,fun _ q=>.inl q⟩);have nf2:=S2.fo_new (Nat.le_refl _);have hcb2:=S2.cbw;have hrw:=cell_lt r0;have hib2:=cell_lt u0;replace S2:=Lib.hid S2;clear H2 K2 c7 c0 c11 x0 x1 x2 x3 x4 x5)
  refine wp_region_held_drew (S:=fun w'=>w'.cell? ⟨P.cb,11,none⟩ = some (.int .i64 fr.at_) ∧ w'.cell? ⟨P.cb,7,none⟩ = some (.slice (some ⟨ib,io,none⟩) m.code.length icap)) (by kernel_rfl) (by (try dsimp only);refine ⟨?_,?_⟩ <;> go_simp) (fun hHeld=>?_)
  refine Drawn.tk 0 (some 12) rfl rfl (by assumption) ?_
  try simp only [Act.put,Drawn.La,Drawn.Lb,Drawn.Lc]
  refine Drawn.tk 1 (some 13) rfl rfl (by assumption) ?_
  try simp only [Act.put,Drawn.La,Drawn.Lb,Drawn.Lc]
  refine Drawn.tk 2 (some 14) rfl rfl (by assumption) ?_
  try simp only [Act.put,Drawn.La,Drawn.Lb,Drawn.Lc]
  refine Drawn.tk 3 (some 15) rfl rfl (by assumption) ?_
  try simp only [Act.put,Drawn.La,Drawn.Lb,Drawn.Lc]
  refine Drawn.tk 4 (some 16) rfl rfl (by assumption) ?_
  try simp only [Act.put,Drawn.La,Drawn.Lb,Drawn.Lc]
  refine Drawn.tk 5 (some 17) rfl rfl (by assumption) ?_
  try simp only [Act.put,Drawn.La,Drawn.Lb,Drawn.Lc]
  refine Drawn.tk 6 (some 18) rfl rfl (by assumption) ?_
  try simp only [Act.put,Drawn.La,Drawn.Lb,Drawn.Lc]
  refine Drawn.tk 7 (some 19) rfl rfl (by assumption) ?_
  try simp only [Act.put,Drawn.La,Drawn.Lb,Drawn.Lc]
  refine Drawn.tk 8 (some 20) rfl rfl (by assumption) ?_
  try simp only [Act.put,Drawn.La,Drawn.Lb,Drawn.Lc]
  refine Drawn.tk 9 (some 21) rfl rfl (by assumption) ?_
  try simp only [Act.put,Drawn.La,Drawn.Lb,Drawn.Lc]
  refine Drawn.tk 10 (some 22) rfl rfl (by assumption) ?_
  try simp only [Act.put,Drawn.La,Drawn.Lb,Drawn.Lc]
  refine wpAnyH_ready (rs:=[11]) (by kernel_rfl) (by simp) ?_
  refine AllReadyH.cons rfl (fun K hK=>?_) AllReadyH.nil
  go_simp
  refine (mustT _).mono ?_
  rintro e w3 ⟨rfl,rfl⟩
  go_wp2_with fail
  refine hK.out _ _ (by (try dsimp only);refine ⟨?_,?_⟩ <;> go_simp) (fun hHeld=>?_)
  clear hK K
  try simp only [Act.put,Drawn.La,Drawn.Lb,Drawn.Lc]
  refine wpAnyH_done (by kernel_rfl) ?_ _
  go_wp2_with fail
  refine wp_region_held_drew (S:=fun w'=>w'.cell? ⟨P.cb,11,none⟩ = some (.int .i64 fr.at_) ∧ w'.cell? ⟨P.cb,7,none⟩ = some (.slice (some ⟨ib,io,none⟩) m.code.length icap) ∧ w'.cell? ⟨ib,io + fr.at_ * 6,none⟩ = some (.int .i64 21) ∧ w'.cell? ⟨ib,io + fr.at_ * 6 + 1,none⟩ = some (.int .i64 a) ∧ w'.cell? ⟨ib,io + fr.at_ * 6 + 2,none⟩ = some (.int .i64 b) ∧ w'.cell? ⟨ib,io + fr.at_ * 6 + 3,none⟩ = some (.int .i64 c) ∧ w'.cell? ⟨ib,io + fr.at_ * 6 + 4,none⟩ = some (.int .i64 n) ∧ w'.cell? ⟨ib,io + fr.at_ * 6 + 5,none⟩ = some (.slice aa args.length acap)) (by kernel_rfl) (by (try dsimp only);refine ⟨?_,?_,?_,?_,?_,?_,?_,?_⟩ <;> go_simp) (fun hHeld=>?_)
  refine Drawn.tk 0 (some 24) rfl rfl (by assumption) ?_
  try simp only [Act.put,Drawn.La,Drawn.Lb,Drawn.Lc]
  refine Drawn.tk 1 (some 25) rfl rfl (by assumption) ?_
  try simp only [Act.put,Drawn.La,Drawn.Lb,Drawn.Lc]
  refine Drawn.tk 2 (some 26) rfl rfl (by assumption) ?_
  try simp only [Act.put,Drawn.La,Drawn.Lb,Drawn.Lc]
  refine Drawn.tk 3 (some 27) rfl rfl (by assumption) ?_
  try simp only [Act.put,Drawn.La,Drawn.Lb,Drawn.Lc]
  refine Drawn.tk 4 (some 28) rfl rfl (by assumption) ?_
  try simp only [Act.put,Drawn.La,Drawn.Lb,Drawn.Lc]
  refine Drawn.tk 5 (some 29) rfl rfl (by assumption) ?_
  try simp only [Act.put,Drawn.La,Drawn.Lb,Drawn.Lc]
  refine Drawn.tk 6 (some 30) rfl rfl (by assumption) ?_
  try simp only [Act.put,Drawn.La,Drawn.Lb,Drawn.Lc]
  refine Drawn.tk 7 (some 31) rfl rfl (by assumption) ?_
  try simp only [Act.put,Drawn.La,Drawn.Lb,Drawn.Lc]
  refine Drawn.tk 8 (some 32) rfl rfl (by assumption) ?_
  try simp only [Act.put,Drawn.La,Drawn.Lb,Drawn.Lc]
  refine Drawn.tk 9 (some 33) rfl rfl (by assumption) ?_
  try simp only [Act.put,Drawn.La,Drawn.Lb,Drawn.Lc]
  refine Drawn.tk 10 (some 34) rfl rfl (by assumption) ?_
  try simp only [Act.put,Drawn.La,Drawn.Lb,Drawn.Lc]
  refine wpAnyH_ready (rs:=[11]) (by kernel_rfl) (by simp) ?_
  refine AllReadyH.cons rfl (fun K hK=>?_) AllReadyH.nil
  go_simp
  refine hK.out _ _ (by (try dsimp only);refine ⟨?_,?_,?_,?_,?_,?_,?_,?_⟩ <;> go_simp) (fun hHeld=>?_)
  clear hK K
  try simp only [Act.put,Drawn.La,Drawn.Lb,Drawn.Lc]
  refine wpAnyH_ready (rs:=[12]) (by kernel_rfl) (by simp) ?_
  refine AllReadyH.cons rfl (fun K hK=>?_) AllReadyH.nil
  go_simp
  refine hK.out _ _ (by (try dsimp only);refine ⟨?_,?_,?_,?_,?_,?_,?_,?_⟩ <;> go_simp) (fun hHeld=>?_)
  clear hK K
  try simp only [Act.put,Drawn.La,Drawn.Lb,Drawn.Lc]
  refine wpAnyH_done (by kernel_rfl) ?_ _
  generalize hWW : World.drew _ = W
  replace hWW:=Lib.hid hWW
  have k0 : W.cell? ⟨w2.heap.size,0,none⟩ = some (.int .i64 (21)):=by rw [← hWW.out];go_simp
  have k1 : W.cell? ⟨w2.heap.size,1,none⟩ = some (.int .i64 a):=by rw [← hWW.out];go_simp
  have k2 : W.cell? ⟨w2.heap.size,2,none⟩ = some (.int .i64 b):=by rw [← hWW.out];go_simp
  have k3 : W.cell? ⟨w2.heap.size,3,none⟩ = some (.int .i64 c):=by rw [← hWW.out];go_simp
  have k4 : W.cell? ⟨w2.heap.size,4,none⟩ = some (.int .i64 n):=by rw [← hWW.out];go_simp
  have k5 : W.cell? ⟨w2.heap.size,5,none⟩ = some (.slice aa args.length acap):=by rw [← hWW.out];go_simp
  have hbW : Below w2.heap.size w2 W:=by rw [← hWW.out];exact Rd.byB
  have hzW : w2.heap.size < W.heap.size:=cell_lt k0
  have SW:=S2.out.below hbW
  have s0:=kept hbW hrw r0
  have s1:=kept hbW hrw r1
  have sf0:=frz_kept hbW hrw rf0
  have sf1:=frz_kept hbW hrw rf1
  have e0:=SW.c0
  have e11:=SW.c11
  have ef11:=SW.fz 11 (by decide)
  have hcbW:=SW.cbw
  have hrW : w.heap.size < W.heap.size:=by omega
  have G:=Lib.hid (GW.out.trans (Gr.of_below hbW))
  replace SW:=Lib.hid SW
  clear hWW r0 r1 rf0 rf1 z0 z11 z7 u0 u1 u2 u3 u4 u5 GW hbW S2
  go_wp2_with fail
  refine wp_region_held_drew (S:=fun w'=>w'.cell? ⟨P.cb,0,none⟩ = some (.pointer (some ⟨E.hb,0,none⟩))) (by kernel_rfl) (by (try dsimp only);go_simp) (fun hHeld=>?_)
  refine Drawn.tk 0 (some 100) rfl rfl (by assumption) ?_
  try simp only [Act.put,Drawn.La,Drawn.Lb,Drawn.Lc]
  refine Drawn.tk 1 (some 101) rfl rfl (by assumption) ?_
  try simp only [Act.put,Drawn.La,Drawn.Lb,Drawn.Lc]
  refine Drawn.tk 2 (some 102) rfl rfl (by assumption) ?_
  try simp only [Act.put,Drawn.La,Drawn.Lb,Drawn.Lc]
  refine Drawn.tk 3 (some 103) rfl rfl (by assumption) ?_
  try simp only [Act.put,Drawn.La,Drawn.Lb,Drawn.Lc]
  refine Drawn.tk 4 (some 104) rfl rfl (by assumption) ?_
  try simp only [Act.put,Drawn.La,Drawn.Lb,Drawn.Lc]
  refine wpAnyH_ready (rs:=[5]) (by kernel_rfl) (by simp) ?_
  refine AllReadyH.cons rfl (fun K hK=>?_) AllReadyH.nil
  go_simp
  go_at_call 179
  refine (anyNo (SW.out.below (by exact Rd.byB)) hn).mono ?_
  rintro e w4 ⟨rfl,hb4⟩
  have HB4 : Below W.heap.size W w4:=Below.trans (by exact Rd.byB) (hb4.mono Rd.byL)
  unfold pan
  refine And.intro rfl ?_
  exact ⟨Pan.one _,((G.out.trans (Gr.of_below HB4)).lft (SW.out.below HB4)).stop⟩
set_option maxRecDepth 100000 in
set_option maxHeartbeats 2000000 in
theorem do21o (S : ST E w L P m d h fr vs) (hbig : fr.stk.length ≤ 1000) (hatb : fr.at_ ≤ 100000) (hs : h.steps < E.fuel) (hfu : E.fuel ≤ 60000) (a b c n : Int) (args : List Int) (hi : m.code[fr.at_]? = some ⟨21, a, b, c, n, args⟩) (hn : fr.stk ≠ []) (hm : Hier.may E.f.classes = true) :
    Calls Try.prog 124 #[.pointer (some ⟨P.cb,0,none⟩)] w (DoR E L P m d vs fr w (oA ((Run.throw E.f.classes (top fr.stk) (stepped h)).act fun (_ : Unit) h=>.stop 6 h))):=by
  obtain ⟨⟨tk,tn⟩,ht⟩ : ∃ t,Hid (top fr.stk = t):=⟨_,Lib.hid rfl⟩
  rw [ht.out]
  obtain ⟨r,hr⟩ : ∃ r,Hid ((Run.throw E.f.classes ⟨tk,tn⟩ (stepped h) : Res Unit) = r):=⟨_,Lib.hid rfl⟩
  rw [hr.out]
  have HS:=Lib.hid S
  have hcb:=S.cbw
  have hat : fr.at_ < m.code.length:=(List.getElem?_eq_some_iff.1 hi).1
  obtain ⟨ica,icap,hvc,i1,i2,iel⟩:=id S.M.co
  obtain ⟨ib,io,rfl,hib,hie⟩:=iel fr.at_ hat
  have hx : m.code[fr.at_] = ⟨21,a,b,c,n,args⟩:=by rw [List.getElem?_eq_getElem hat] at hi;exact Option.some.inj hi
  rw [hx] at hie
  obtain ⟨x0,x1,x2,x3,x4,_,va,x5,hva⟩:=hie
  obtain ⟨aa,acap,rfl,_⟩:=hva
  simp only at x0 x1 x2 x3 x4
  have c7:=S.c7
  rw [hvc] at c7
  have c0:=S.c0
  have c11:=S.c11
  have nr:=S.fo_new (Nat.le_refl _)
  have nrO : ¬ own E L w.heap.size:=fun hk=>nr (.inl hk)
  have nib : ¬ fo E L P vs ib:=fun hk=>by have:=(S.fo_lo hk).1;omega
  have nibO : ¬ own E L ib:=fun hk=>nib (.inl hk)
  have hibw : ib < w.heap.size:=by have:=S.base;omega
  have hati : (fr.at_ : Int) < m.code.length:=by omega
  have hatd : decide ((fr.at_ : Int) < m.code.length) = true:=by simpa using hati
  have hwr : IntKind.i64.wrap ((fr.at_ : Int) + 1) = (fr.at_ : Int) + 1:=by rw [Num.wrap_i64,wrap64_id (by unfold Ok;omega)]
  have HCO:=Lib.hid hvc
  clear S iel hi hx hvc i1
  go_enter Try.func124,Try.ntmps124
  go_wp2_with (go_at_call 178;refine (stepOk (HS.out.below (by exact Rd.byB)).H hs hfu).mono ?_;rintro e w2 ⟨rfl,H2,K2⟩;have S2:=(HS.out.below (w':=w.alloc (.cells #[.int .i64 0,.int .i64 0] 118)) (by exact Rd.byB)).heap K2 same_own H2;have r0:=K2.cell (c:=w.heap.size) (o:=0) (v:=.int .i64 0) (by go_simp) nrO;have r1:=K2.cell (c:=w.heap.size) (o:=1) (v:=.int .i64 0) (by go_simp) nrO;have rf0:=K2.frz (c:=w.heap.size) (o:=0) (b:=false) (by go_simp) (by simp) nrO;have rf1:=K2.frz (c:=w.heap.size) (o:=1) (b:=false) (by go_simp) (by simp) nrO;have z0:=S2.c0;have z11:=S2.c11;have z7:=S2.c7;rw [HCO.out] at z7;have u0:=K2.cell (c:=ib) (o:=io + fr.at_ * 6) (v:=.int .i64 (21)) (by go_simp) nibO;have u1:=K2.cell (c:=ib) (o:=io + fr.at_ * 6 + 1) (v:=.int .i64 a) (by go_simp) nibO;have u2:=K2.cell (c:=ib) (o:=io + fr.at_ * 6 + 2) (v:=.int .i64 b) (by go_simp) nibO;have u3:=K2.cell (c:=ib) (o:=io + fr.at_ * 6 + 3) (v:=.int .i64 c) (by go_simp) nibO;have u4:=K2.cell (c:=ib) (o:=io + fr.at_ * 6 + 4) (v:=.int .i64 n) (by go_simp) nibO;have u5:=K2.cell (c:=ib) (o:=io + fr.at_ * 6 + 5) (v:=.slice aa args.length acap) (by go_simp) nibO;have GW:=Lib.hid (show Gr E L P vs w L vs w2 from ⟨(Kp.of_below (B:=w.heap.size) (X:=fo E L P vs) (w':=w.alloc (.cells #[.int .i64 0,.int .i64 0] 118)) (by exact Rd.byB) (Nat.le_refl _)).trans K2 (fun y hy=>.inl (.inl hy)),fun _ q=>.inl q,fun _ q=>.inl q⟩);have nf2:=S2.fo_new (Nat.le_refl _);have hcb2:=S2.cbw;have hrw:=cell_lt r0;have hib2:=cell_lt u0;replace S2:=Lib.hid S2;clear H2 K2 c7 c0 c11 x0 x1 x2 x3 x4 x5)
  refine wp_region_held_drew (S:=fun w'=>w'.cell? ⟨P.cb,11,none⟩ = some (.int .i64 fr.at_) ∧ w'.cell? ⟨P.cb,7,none⟩ = some (.slice (some ⟨ib,io,none⟩) m.code.length icap)) (by kernel_rfl) (by (try dsimp only);refine ⟨?_,?_⟩ <;> go_simp) (fun hHeld=>?_)
  refine Drawn.tk 0 (some 12) rfl rfl (by assumption) ?_
  try simp only [Act.put,Drawn.La,Drawn.Lb,Drawn.Lc]
  refine Drawn.tk 1 (some 13) rfl rfl (by assumption) ?_
  try simp only [Act.put,Drawn.La,Drawn.Lb,Drawn.Lc]
  refine Drawn.tk 2 (some 14) rfl rfl (by assumption) ?_
  try simp only [Act.put,Drawn.La,Drawn.Lb,Drawn.Lc]
  refine Drawn.tk 3 (some 15) rfl rfl (by assumption) ?_
  try simp only [Act.put,Drawn.La,Drawn.Lb,Drawn.Lc]
  refine Drawn.tk 4 (some 16) rfl rfl (by assumption) ?_
  try simp only [Act.put,Drawn.La,Drawn.Lb,Drawn.Lc]
  refine Drawn.tk 5 (some 17) rfl rfl (by assumption) ?_
  try simp only [Act.put,Drawn.La,Drawn.Lb,Drawn.Lc]
  refine Drawn.tk 6 (some 18) rfl rfl (by assumption) ?_
  try simp only [Act.put,Drawn.La,Drawn.Lb,Drawn.Lc]
  refine Drawn.tk 7 (some 19) rfl rfl (by assumption) ?_
  try simp only [Act.put,Drawn.La,Drawn.Lb,Drawn.Lc]
  refine Drawn.tk 8 (some 20) rfl rfl (by assumption) ?_
  try simp only [Act.put,Drawn.La,Drawn.Lb,Drawn.Lc]
  refine Drawn.tk 9 (some 21) rfl rfl (by assumption) ?_
  try simp only [Act.put,Drawn.La,Drawn.Lb,Drawn.Lc]
  refine Drawn.tk 10 (some 22) rfl rfl (by assumption) ?_
  try simp only [Act.put,Drawn.La,Drawn.Lb,Drawn.Lc]
  refine wpAnyH_ready (rs:=[11]) (by kernel_rfl) (by simp) ?_
  refine AllReadyH.cons rfl (fun K hK=>?_) AllReadyH.nil
  go_simp
  refine (mustT _).mono ?_
  rintro e w3 ⟨rfl,rfl⟩
  go_wp2_with fail
  refine hK.out _ _ (by (try dsimp only);refine ⟨?_,?_⟩ <;> go_simp) (fun hHeld=>?_)
  clear hK K
  try simp only [Act.put,Drawn.La,Drawn.Lb,Drawn.Lc]
  refine wpAnyH_done (by kernel_rfl) ?_ _
  go_wp2_with fail
  refine wp_region_held_drew (S:=fun w'=>w'.cell? ⟨P.cb,11,none⟩ = some (.int .i64 fr.at_) ∧ w'.cell? ⟨P.cb,7,none⟩ = some (.slice (some ⟨ib,io,none⟩) m.code.length icap) ∧ w'.cell? ⟨ib,io + fr.at_ * 6,none⟩ = some (.int .i64 21) ∧ w'.cell? ⟨ib,io + fr.at_ * 6 + 1,none⟩ = some (.int .i64 a) ∧ w'.cell? ⟨ib,io + fr.at_ * 6 + 2,none⟩ = some (.int .i64 b) ∧ w'.cell? ⟨ib,io + fr.at_ * 6 + 3,none⟩ = some (.int .i64 c) ∧ w'.cell? ⟨ib,io + fr.at_ * 6 + 4,none⟩ = some (.int .i64 n) ∧ w'.cell? ⟨ib,io + fr.at_ * 6 + 5,none⟩ = some (.slice aa args.length acap)) (by kernel_rfl) (by (try dsimp only);refine ⟨?_,?_,?_,?_,?_,?_,?_,?_⟩ <;> go_simp) (fun hHeld=>?_)
  refine Drawn.tk 0 (some 24) rfl rfl (by assumption) ?_
  try simp only [Act.put,Drawn.La,Drawn.Lb,Drawn.Lc]
  refine Drawn.tk 1 (some 25) rfl rfl (by assumption) ?_
  try simp only [Act.put,Drawn.La,Drawn.Lb,Drawn.Lc]
  refine Drawn.tk 2 (some 26) rfl rfl (by assumption) ?_
  try simp only [Act.put,Drawn.La,Drawn.Lb,Drawn.Lc]
  refine Drawn.tk 3 (some 27) rfl rfl (by assumption) ?_
  try simp only [Act.put,Drawn.La,Drawn.Lb,Drawn.Lc]
  refine Drawn.tk 4 (some 28) rfl rfl (by assumption) ?_
  try simp only [Act.put,Drawn.La,Drawn.Lb,Drawn.Lc]
  refine Drawn.tk 5 (some 29) rfl rfl (by assumption) ?_
  try simp only [Act.put,Drawn.La,Drawn.Lb,Drawn.Lc]
  refine Drawn.tk 6 (some 30) rfl rfl (by assumption) ?_
  try simp only [Act.put,Drawn.La,Drawn.Lb,Drawn.Lc]
  refine Drawn.tk 7 (some 31) rfl rfl (by assumption) ?_
  try simp only [Act.put,Drawn.La,Drawn.Lb,Drawn.Lc]
  refine Drawn.tk 8 (some 32) rfl rfl (by assumption) ?_
  try simp only [Act.put,Drawn.La,Drawn.Lb,Drawn.Lc]
  refine Drawn.tk 9 (some 33) rfl rfl (by assumption) ?_
  try simp only [Act.put,Drawn.La,Drawn.Lb,Drawn.Lc]
  refine Drawn.tk 10 (some 34) rfl rfl (by assumption) ?_
  try simp only [Act.put,Drawn.La,Drawn.Lb,Drawn.Lc]
  refine wpAnyH_ready (rs:=[11]) (by kernel_rfl) (by simp) ?_
  refine AllReadyH.cons rfl (fun K hK=>?_) AllReadyH.nil
  go_simp
  refine hK.out _ _ (by (try dsimp only);refine ⟨?_,?_,?_,?_,?_,?_,?_,?_⟩ <;> go_simp) (fun hHeld=>?_)
  clear hK K
  try simp only [Act.put,Drawn.La,Drawn.Lb,Drawn.Lc]
  refine wpAnyH_ready (rs:=[12]) (by kernel_rfl) (by simp) ?_
  refine AllReadyH.cons rfl (fun K hK=>?_) AllReadyH.nil
  go_simp
  refine hK.out _ _ (by (try dsimp only);refine ⟨?_,?_,?_,?_,?_,?_,?_,?_⟩ <;> go_simp) (fun hHeld=>?_)
  clear hK K
  try simp only [Act.put,Drawn.La,Drawn.Lb,Drawn.Lc]
  refine wpAnyH_done (by kernel_rfl) ?_ _
  generalize hWW : World.drew _ = W
  replace hWW:=Lib.hid hWW
  have k0 : W.cell? ⟨w2.heap.size,0,none⟩ = some (.int .i64 (21)):=by rw [← hWW.out];go_simp
  have k1 : W.cell? ⟨w2.heap.size,1,none⟩ = some (.int .i64 a):=by rw [← hWW.out];go_simp
  have k2 : W.cell? ⟨w2.heap.size,2,none⟩ = some (.int .i64 b):=by rw [← hWW.out];go_simp
  have k3 : W.cell? ⟨w2.heap.size,3,none⟩ = some (.int .i64 c):=by rw [← hWW.out];go_simp
  have k4 : W.cell? ⟨w2.heap.size,4,none⟩ = some (.int .i64 n):=by rw [← hWW.out];go_simp
  have k5 : W.cell? ⟨w2.heap.size,5,none⟩ = some (.slice aa args.length acap):=by rw [← hWW.out];go_simp
  have hbW : Below w2.heap.size w2 W:=by rw [← hWW.out];exact Rd.byB
  have hzW : w2.heap.size < W.heap.size:=cell_lt k0
  have SW:=S2.out.below hbW
  have s0:=kept hbW hrw r0
  have s1:=kept hbW hrw r1
  have sf0:=frz_kept hbW hrw rf0
  have sf1:=frz_kept hbW hrw rf1
  have e0:=SW.c0
  have e11:=SW.c11
  have ef11:=SW.fz 11 (by decide)
  have hcbW:=SW.cbw
  have hrW : w.heap.size < W.heap.size:=by omega
  have G:=Lib.hid (GW.out.trans (Gr.of_below hbW))
  replace SW:=Lib.hid SW
  clear hWW r0 r1 rf0 rf1 z0 z11 z7 u0 u1 u2 u3 u4 u5 GW hbW S2
  go_wp2_with fail
  refine wp_region_held_drew (S:=fun w'=>w'.cell? ⟨P.cb,0,none⟩ = some (.pointer (some ⟨E.hb,0,none⟩))) (by kernel_rfl) (by (try dsimp only);go_simp) (fun hHeld=>?_)
  refine Drawn.tk 0 (some 100) rfl rfl (by assumption) ?_
  try simp only [Act.put,Drawn.La,Drawn.Lb,Drawn.Lc]
  refine Drawn.tk 1 (some 101) rfl rfl (by assumption) ?_
  try simp only [Act.put,Drawn.La,Drawn.Lb,Drawn.Lc]
  refine Drawn.tk 2 (some 102) rfl rfl (by assumption) ?_
  try simp only [Act.put,Drawn.La,Drawn.Lb,Drawn.Lc]
  refine Drawn.tk 3 (some 103) rfl rfl (by assumption) ?_
  try simp only [Act.put,Drawn.La,Drawn.Lb,Drawn.Lc]
  refine Drawn.tk 4 (some 104) rfl rfl (by assumption) ?_
  try simp only [Act.put,Drawn.La,Drawn.Lb,Drawn.Lc]
  refine wpAnyH_ready (rs:=[5]) (by kernel_rfl) (by simp) ?_
  refine AllReadyH.cons rfl (fun K hK=>?_) AllReadyH.nil
  go_simp
  go_at_call 179
  refine (anyOk (SW.out.below (by exact Rd.byB)) hn hbig).mono ?_
  rw [ht.out]
  unfold vl
  rintro e w4 ⟨rfl,A⟩
  obtain ⟨L4,v4,G4,S4⟩:=A.opn
  have y0:=S4.c0
  have GB:=Lib.hid ((G.out.trans (Gr.of_below (by exact Rd.byB))).trans G4)
  clear A G4
  go_wp2_with fail
  refine hK.out _ _ (by (try dsimp only);exact y0) (fun hHeld=>?_)
  clear hK K
  try simp only [Act.put,Drawn.La,Drawn.Lb,Drawn.Lc]
  refine wpAnyH_ready (rs:=[6]) (by kernel_rfl) (by simp) ?_
  refine AllReadyH.cons rfl (fun K hK=>?_) AllReadyH.nil
  go_simp
  go_at_call 183
  refine (throwP (V:=unitV) S4.H hm ⟨tk,tn⟩).mono ?_
  rw [hr.out]
  rintro e w5 hR
  cases r with
  | ok x h2=>exact (throw_no hr.out).elim
  | thrown o h2 =>
    obtain ⟨rfl,A⟩:=hR
    obtain ⟨L5,G5,S5⟩:=Gr.of_heap A S4
    unfold pan
    refine And.intro rfl ?_
    exact ⟨Pan.one _,_,(GB.out.trans G5).lft S5⟩
  | stop c2 h2 =>
    obtain ⟨rfl,A⟩:=hR
    obtain ⟨L5,G5,S5⟩:=Gr.of_heap A S4
    unfold pan
    refine And.intro rfl ?_
    exact ⟨Pan.one _,((GB.out.trans G5).lft S5).stop⟩
end
end Hpw
end Go.Proofs.Ytncmhenfgbcihab
