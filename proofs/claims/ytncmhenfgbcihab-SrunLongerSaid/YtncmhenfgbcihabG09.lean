/- Parts of the proof: Pt2, Pt3, Pu, Pv. -/
import Derived.Test.YtncmhenfgbcihabG08
import Derived.Test.YtncmhenfgbcihabG07
import Derived.Test.YtncmhenfgbcihabG03
import Derived.Test.YtncmhenfgbcihabG06
namespace Go.Proofs.Ytncmhenfgbcihab
open Go.RowKit
set_option linter.unusedSimpArgs false
set_option linter.unusedVariables false
namespace Hpw
open Num Rd D Run Mem HierW
section
variable {E : Ev} {w w' w1 w2 : World} {L L' L1 : Lay} {h h' h1 h2 : Hp} {d : Nat} {P : PS} {m : Me} {fr fr' fr1 : Sf} {vs vs1 : Value}
def NX (a0 : Nat) (a : Run.Act Sf) : Prop:=match a with
  | .go fr' _=>fr'.at_ = a0 + 1
  | .back _ _=>False
  | .call _ _ _ _=>False
  | _=>True
theorem push_nx {st : List Vl} {v : Vl} : NX fr.at_ (push m fr st v h):=by
  unfold push;split
  · exact rfl
  · trivial
theorem pop1_nx {k : Vl → List Vl → Run.Act Sf} (hk : ∀ v st,NX fr.at_ (k v st)) : NX fr.at_ (pop1 fr h k):=by
  unfold pop1;split
  · trivial
  · exact hk _ _
theorem pop2_nx {k : Vl → Vl → List Vl → Run.Act Sf} (hk : ∀ a b st,NX fr.at_ (k a b st)) : NX fr.at_ (pop2 fr h k):=by
  unfold pop2
  refine pop1_nx (fun b st=>?_)
  split
  · trivial
  · exact hk _ _ _
theorem kindly_nx {v : Vl} {kind : Int} {k : Run.Act Sf} (hk : NX fr.at_ k) : NX fr.at_ (kindly v kind h k):=by
  unfold kindly;split
  · exact hk
  · trivial
theorem act_nx {α : Type} {r : Res α} {k : α → Hp → Run.Act Sf} (hk : ∀ a h,NX fr.at_ (k a h)) : NX fr.at_ (r.act k):=by
  cases r with
  | ok a h=>exact hk a h
  | thrown o h=>trivial
  | stop e h=>trivial
theorem ite_nx {c : Prop} [Decidable c] {a b : Run.Act Sf} {n : Nat} (ha : NX n a) (hb : NX n b) : NX n (if c then a else b):=by
  split
  · exact ha
  · exact hb
theorem sstep_nx {f : Fi} {input : List Int} {i : Ins} (hop : i.op ≠ 11 ∧ i.op ≠ 12 ∧ i.op ≠ 13 ∧ i.op ≠ 19 ∧ i.op ≠ 20 ∧ i.op ≠ 21) : NX fr.at_ (sstep f input m i fr h):=by
  unfold sstep
  refine ite_nx push_nx ?_
  refine ite_nx push_nx ?_
  refine ite_nx push_nx ?_
  refine ite_nx (kindly_nx push_nx) ?_
  refine ite_nx (pop1_nx (fun v st=>kindly_nx rfl)) ?_
  refine ite_nx (pop2_nx (fun a b st=>act_nx (fun v h=>push_nx))) ?_
  refine ite_nx (pop2_nx (fun a b st=>act_nx (fun v h=>push_nx))) ?_
  refine ite_nx (pop1_nx (fun v st=>kindly_nx push_nx)) ?_
  refine ite_nx (pop1_nx (fun v st=>kindly_nx push_nx)) ?_
  refine ite_nx (pop2_nx (fun a b st=>kindly_nx (kindly_nx push_nx))) ?_
  rw [if_neg hop.1,if_neg hop.2.1,if_neg hop.2.2.1]
  refine ite_nx (act_nx (fun v h=>push_nx)) ?_
  refine ite_nx (pop1_nx (fun v st=>act_nx (fun v h=>push_nx))) ?_
  refine ite_nx (pop2_nx (fun a b st=>kindly_nx (act_nx (fun v h=>rfl)))) ?_
  refine ite_nx (pop1_nx (fun v st=>act_nx (fun v h=>push_nx))) ?_
  refine ite_nx (pop1_nx (fun v st=>act_nx (fun v h=>push_nx))) ?_
  rw [if_neg hop.2.2.2.1,if_neg hop.2.2.2.2.1,if_neg hop.2.2.2.2.2]
  refine ite_nx (pop1_nx (fun v st=>rfl)) ?_
  refine ite_nx (pop1_nx (fun v st=>ite_nx rfl trivial)) ?_
  refine ite_nx (pop1_nx (fun v st=>act_nx (fun v h=>rfl))) ?_
  refine ite_nx (act_nx (fun v h=>push_nx)) ?_
  exact trivial
set_option maxRecDepth 100000 in
set_option maxHeartbeats 2000000 in
theorem do20v (S : ST E w L P m d h fr vs) (hbig : fr.stk.length ≤ 1000) (hatb : fr.at_ ≤ 100000) (hs : h.steps < E.fuel) (hfu : E.fuel ≤ 60000) (a b c n : Int) (args : List Int) (hi : m.code[fr.at_]? = some ⟨20, a, b, c, n, args⟩) (hrk : (m.ret.kind == 0) = true) :
    Calls Try.prog 124 #[.pointer (some ⟨P.cb,0,none⟩)] w (DoR E L P m d vs fr w (.back Vl.nil (stepped h))):=by
  have HS:=Lib.hid S
  have hcb:=S.cbw
  have hat : fr.at_ < m.code.length:=(List.getElem?_eq_some_iff.1 hi).1
  obtain ⟨ica,icap,hvc,i1,i2,iel⟩:=id S.M.co
  obtain ⟨ib,io,rfl,hib,hie⟩:=iel fr.at_ hat
  have hx : m.code[fr.at_] = ⟨20,a,b,c,n,args⟩:=by rw [List.getElem?_eq_getElem hat] at hi;exact Option.some.inj hi
  rw [hx] at hie
  obtain ⟨x0,x1,x2,x3,x4,_,va,x5,hva⟩:=hie
  obtain ⟨aa,acap,rfl,_⟩:=hva
  simp only at x0 x1 x2 x3 x4
  have c7:=S.c7
  rw [hvc] at c7
  have c0:=S.c0
  have c11:=S.c11
  have nr:=S.fo_new (Nat.le_refl _)
  have nrO : ¬ own E L w.heap.size:=fun hk=>nr (.inl hk)
  have nib : ¬ fo E L P vs ib:=fun hk=>by have:=(S.fo_lo hk).1;omega
  have nibO : ¬ own E L ib:=fun hk=>nib (.inl hk)
  have hibw : ib < w.heap.size:=by have:=S.base;omega
  have hati : (fr.at_ : Int) < m.code.length:=by omega
  have hatd : decide ((fr.at_ : Int) < m.code.length) = true:=by simpa using hati
  have hwr : IntKind.i64.wrap ((fr.at_ : Int) + 1) = (fr.at_ : Int) + 1:=by rw [Num.wrap_i64,wrap64_id (by unfold Ok;omega)]
  have HCO:=Lib.hid hvc
  clear S iel hi hx hvc i1
  go_enter Try.func124,Try.ntmps124
  go_wp2_with (go_at_call 178;refine (stepOk (HS.out.below (by exact Rd.byB)).H hs hfu).mono ?_;rintro e w2 ⟨rfl,H2,K2⟩;have S2:=(HS.out.below (w':=w.alloc (.cells #[.int .i64 0,.int .i64 0] 118)) (by exact Rd.byB)).heap K2 same_own H2;have r0:=K2.cell (c:=w.heap.size) (o:=0) (v:=.int .i64 0) (by go_simp) nrO;have r1:=K2.cell (c:=w.heap.size) (o:=1) (v:=.int .i64 0) (by go_simp) nrO;have rf0:=K2.frz (c:=w.heap.size) (o:=0) (b:=false) (by go_simp) (by simp) nrO;have rf1:=K2.frz (c:=w.heap.size) (o:=1) (b:=false) (by go_simp) (by simp) nrO;have z0:=S2.c0;have z11:=S2.c11;have z7:=S2.c7;rw [HCO.out] at z7;have u0:=K2.cell (c:=ib) (o:=io + fr.at_ * 6) (v:=.int .i64 (20)) (by go_simp) nibO;have u1:=K2.cell (c:=ib) (o:=io + fr.at_ * 6 + 1) (v:=.int .i64 a) (by go_simp) nibO;have u2:=K2.cell (c:=ib) (o:=io + fr.at_ * 6 + 2) (v:=.int .i64 b) (by go_simp) nibO;have u3:=K2.cell (c:=ib) (o:=io + fr.at_ * 6 + 3) (v:=.int .i64 c) (by go_simp) nibO;have u4:=K2.cell (c:=ib) (o:=io + fr.at_ * 6 + 4) (v:=.int .i64 n) (by go_simp) nibO;have u5:=K2.cell (c:=ib) (o:=io + fr.at_ * 6 + 5) (v:=.slice aa args.length acap) (by go_simp) nibO;have GW:=Lib.hid (show Gr E L P vs w L vs w2 from ⟨(Kp.of_below (B:=w.heap.size) (X:=fo E L P vs) (w':=w.alloc (.cells #[.int .i64 0,.int .i64 0] 118)) (by exact Rd.byB) (Nat.le_refl _)).trans K2 (fun y hy=>.inl (.inl hy)),fun _ q=>.inl q,fun _ q=>.inl q⟩);have nf2:=S2.fo_new (Nat.le_refl _);have hcb2:=S2.cbw;have hrw:=cell_lt r0;have hib2:=cell_lt u0;replace S2:=Lib.hid S2;clear H2 K2 c7 c0 c11 x0 x1 x2 x3 x4 x5)
  refine wp_region_held_drew (S:=fun w'=>w'.cell? ⟨P.cb,11,none⟩ = some (.int .i64 fr.at_) ∧ w'.cell? ⟨P.cb,7,none⟩ = some (.slice (some ⟨ib,io,none⟩) m.code.length icap)) (by kernel_rfl) (by (try dsimp only);refine ⟨?_,?_⟩ <;> go_simp) (fun hHeld=>?_)
  refine Drawn.tk 0 (some 12) rfl rfl (by assumption) ?_
  try simp only [Act.put,Drawn.La,Drawn.Lb,Drawn.Lc]
  refine Drawn.tk 1 (some 13) rfl rfl (by assumption) ?_
  try simp only [Act.put,Drawn.La,Drawn.Lb,Drawn.Lc]
  refine Drawn.tk 2 (some 14) rfl rfl (by assumption) ?_
  try simp only [Act.put,Drawn.La,Drawn.Lb,Drawn.Lc]
  refine Drawn.tk 3 (some 15) rfl rfl (by assumption) ?_
  try simp only [Act.put,Drawn.La,Drawn.Lb,Drawn.Lc]
  refine Drawn.tk 4 (some 16) rfl rfl (by assumption) ?_
  try simp only [Act.put,Drawn.La,Drawn.Lb,Drawn.Lc]
  refine Drawn.tk 5 (some 17) rfl rfl (by assumption) ?_
  try simp only [Act.put,Drawn.La,Drawn.Lb,Drawn.Lc]
  refine Drawn.tk 6 (some 18) rfl rfl (by assumption) ?_
  try simp only [Act.put,Drawn.La,Drawn.Lb,Drawn.Lc]
  refine Drawn.tk 7 (some 19) rfl rfl (by assumption) ?_
  try simp only [Act.put,Drawn.La,Drawn.Lb,Drawn.Lc]
  refine Drawn.tk 8 (some 20) rfl rfl (by assumption) ?_
  try simp only [Act.put,Drawn.La,Drawn.Lb,Drawn.Lc]
  refine Drawn.tk 9 (some 21) rfl rfl (by assumption) ?_
  try simp only [Act.put,Drawn.La,Drawn.Lb,Drawn.Lc]
  refine Drawn.tk 10 (some 22) rfl rfl (by assumption) ?_
  try simp only [Act.put,Drawn.La,Drawn.Lb,Drawn.Lc]
  refine wpAnyH_ready (rs:=[11]) (by kernel_rfl) (by simp) ?_
  refine AllReadyH.cons rfl (fun K hK=>?_) AllReadyH.nil
  go_simp
  refine (mustT _).mono ?_
  rintro e w3 ⟨rfl,rfl⟩
  go_wp2_with fail
  refine hK.out _ _ (by (try dsimp only);refine ⟨?_,?_⟩ <;> go_simp) (fun hHeld=>?_)
  clear hK K
  try simp only [Act.put,Drawn.La,Drawn.Lb,Drawn.Lc]
  refine wpAnyH_done (by kernel_rfl) ?_ _
  go_wp2_with fail
  refine wp_region_held_drew (S:=fun w'=>w'.cell? ⟨P.cb,11,none⟩ = some (.int .i64 fr.at_) ∧ w'.cell? ⟨P.cb,7,none⟩ = some (.slice (some ⟨ib,io,none⟩) m.code.length icap) ∧ w'.cell? ⟨ib,io + fr.at_ * 6,none⟩ = some (.int .i64 20) ∧ w'.cell? ⟨ib,io + fr.at_ * 6 + 1,none⟩ = some (.int .i64 a) ∧ w'.cell? ⟨ib,io + fr.at_ * 6 + 2,none⟩ = some (.int .i64 b) ∧ w'.cell? ⟨ib,io + fr.at_ * 6 + 3,none⟩ = some (.int .i64 c) ∧ w'.cell? ⟨ib,io + fr.at_ * 6 + 4,none⟩ = some (.int .i64 n) ∧ w'.cell? ⟨ib,io + fr.at_ * 6 + 5,none⟩ = some (.slice aa args.length acap)) (by kernel_rfl) (by (try dsimp only);refine ⟨?_,?_,?_,?_,?_,?_,?_,?_⟩ <;> go_simp) (fun hHeld=>?_)
  refine Drawn.tk 0 (some 24) rfl rfl (by assumption) ?_
  try simp only [Act.put,Drawn.La,Drawn.Lb,Drawn.Lc]
  refine Drawn.tk 1 (some 25) rfl rfl (by assumption) ?_
  try simp only [Act.put,Drawn.La,Drawn.Lb,Drawn.Lc]
  refine Drawn.tk 2 (some 26) rfl rfl (by assumption) ?_
  try simp only [Act.put,Drawn.La,Drawn.Lb,Drawn.Lc]
  refine Drawn.tk 3 (some 27) rfl rfl (by assumption) ?_
  try simp only [Act.put,Drawn.La,Drawn.Lb,Drawn.Lc]
  refine Drawn.tk 4 (some 28) rfl rfl (by assumption) ?_
  try simp only [Act.put,Drawn.La,Drawn.Lb,Drawn.Lc]
  refine Drawn.tk 5 (some 29) rfl rfl (by assumption) ?_
  try simp only [Act.put,Drawn.La,Drawn.Lb,Drawn.Lc]
  refine Drawn.tk 6 (some 30) rfl rfl (by assumption) ?_
  try simp only [Act.put,Drawn.La,Drawn.Lb,Drawn.Lc]
  refine Drawn.tk 7 (some 31) rfl rfl (by assumption) ?_
  try simp only [Act.put,Drawn.La,Drawn.Lb,Drawn.Lc]
  refine Drawn.tk 8 (some 32) rfl rfl (by assumption) ?_
  try simp only [Act.put,Drawn.La,Drawn.Lb,Drawn.Lc]
  refine Drawn.tk 9 (some 33) rfl rfl (by assumption) ?_
  try simp only [Act.put,Drawn.La,Drawn.Lb,Drawn.Lc]
  refine Drawn.tk 10 (some 34) rfl rfl (by assumption) ?_
  try simp only [Act.put,Drawn.La,Drawn.Lb,Drawn.Lc]
  refine wpAnyH_ready (rs:=[11]) (by kernel_rfl) (by simp) ?_
  refine AllReadyH.cons rfl (fun K hK=>?_) AllReadyH.nil
  go_simp
  refine hK.out _ _ (by (try dsimp only);refine ⟨?_,?_,?_,?_,?_,?_,?_,?_⟩ <;> go_simp) (fun hHeld=>?_)
  clear hK K
  try simp only [Act.put,Drawn.La,Drawn.Lb,Drawn.Lc]
  refine wpAnyH_ready (rs:=[12]) (by kernel_rfl) (by simp) ?_
  refine AllReadyH.cons rfl (fun K hK=>?_) AllReadyH.nil
  go_simp
  refine hK.out _ _ (by (try dsimp only);refine ⟨?_,?_,?_,?_,?_,?_,?_,?_⟩ <;> go_simp) (fun hHeld=>?_)
  clear hK K
  try simp only [Act.put,Drawn.La,Drawn.Lb,Drawn.Lc]
  refine wpAnyH_done (by kernel_rfl) ?_ _
  generalize hWW : World.drew _ = W
  replace hWW:=Lib.hid hWW
  have k0 : W.cell? ⟨w2.heap.size,0,none⟩ = some (.int .i64 (20)):=by rw [← hWW.out];go_simp
  have k1 : W.cell? ⟨w2.heap.size,1,none⟩ = some (.int .i64 a):=by rw [← hWW.out];go_simp
  have k2 : W.cell? ⟨w2.heap.size,2,none⟩ = some (.int .i64 b):=by rw [← hWW.out];go_simp
  have k3 : W.cell? ⟨w2.heap.size,3,none⟩ = some (.int .i64 c):=by rw [← hWW.out];go_simp
  have k4 : W.cell? ⟨w2.heap.size,4,none⟩ = some (.int .i64 n):=by rw [← hWW.out];go_simp
  have k5 : W.cell? ⟨w2.heap.size,5,none⟩ = some (.slice aa args.length acap):=by rw [← hWW.out];go_simp
  have hbW : Below w2.heap.size w2 W:=by rw [← hWW.out];exact Rd.byB
  have hzW : w2.heap.size < W.heap.size:=cell_lt k0
  have SW:=S2.out.below hbW
  have s0:=kept hbW hrw r0
  have s1:=kept hbW hrw r1
  have sf0:=frz_kept hbW hrw rf0
  have sf1:=frz_kept hbW hrw rf1
  have e0:=SW.c0
  have e11:=SW.c11
  have ef11:=SW.fz 11 (by decide)
  have hcbW:=SW.cbw
  have hrW : w.heap.size < W.heap.size:=by omega
  have G:=Lib.hid (GW.out.trans (Gr.of_below hbW))
  replace SW:=Lib.hid SW
  clear hWW r0 r1 rf0 rf1 z0 z11 z7 u0 u1 u2 u3 u4 u5 GW hbW S2
  have e2:=SW.out.c2
  have e3:=SW.out.c3
  go_wp2_with fail
  refine bodyPost_ret (v:=.tuple #[.agg #[.int .i64 0,.int .i64 0],.bool true]) (by simp [results,Try.results124,go_sem] <;> go_simp) rfl ?_
  exact ⟨rfl,fr.stk,Gr.upon HS.out G.out SW.out (Nat.le_refl _) nr _ _⟩
set_option maxRecDepth 100000 in
set_option maxHeartbeats 2000000 in
theorem do20n (S : ST E w L P m d h fr vs) (hbig : fr.stk.length ≤ 1000) (hatb : fr.at_ ≤ 100000) (hs : h.steps < E.fuel) (hfu : E.fuel ≤ 60000) (a b c n : Int) (args : List Int) (hi : m.code[fr.at_]? = some ⟨20, a, b, c, n, args⟩) (hrk : (m.ret.kind == 0) = false) (hn : fr.stk = []) :
    Calls Try.prog 124 #[.pointer (some ⟨P.cb,0,none⟩)] w (DoR E L P m d vs fr w (.stop 6 (stepped h))):=by
  have HS:=Lib.hid S
  have hcb:=S.cbw
  have hat : fr.at_ < m.code.length:=(List.getElem?_eq_some_iff.1 hi).1
  obtain ⟨ica,icap,hvc,i1,i2,iel⟩:=id S.M.co
  obtain ⟨ib,io,rfl,hib,hie⟩:=iel fr.at_ hat
  have hx : m.code[fr.at_] = ⟨20,a,b,c,n,args⟩:=by rw [List.getElem?_eq_getElem hat] at hi;exact Option.some.inj hi
  rw [hx] at hie
  obtain ⟨x0,x1,x2,x3,x4,_,va,x5,hva⟩:=hie
  obtain ⟨aa,acap,rfl,_⟩:=hva
  simp only at x0 x1 x2 x3 x4
  have c7:=S.c7
  rw [hvc] at c7
  have c0:=S.c0
  have c11:=S.c11
  have nr:=S.fo_new (Nat.le_refl _)
  have nrO : ¬ own E L w.heap.size:=fun hk=>nr (.inl hk)
  have nib : ¬ fo E L P vs ib:=fun hk=>by have:=(S.fo_lo hk).1;omega
  have nibO : ¬ own E L ib:=fun hk=>nib (.inl hk)
  have hibw : ib < w.heap.size:=by have:=S.base;omega
  have hati : (fr.at_ : Int) < m.code.length:=by omega
  have hatd : decide ((fr.at_ : Int) < m.code.length) = true:=by simpa using hati
  have hwr : IntKind.i64.wrap ((fr.at_ : Int) + 1) = (fr.at_ : Int) + 1:=by rw [Num.wrap_i64,wrap64_id (by unfold Ok;omega)]
  have HCO:=Lib.hid hvc
  clear S iel hi hx hvc i1
  go_enter Try.func124,Try.ntmps124
  go_wp2_with (go_at_call 178;refine (stepOk (HS.out.below (by exact Rd.byB)).H hs hfu).mono ?_;rintro e w2 ⟨rfl,H2,K2⟩;have S2:=(HS.out.below (w':=w.alloc (.cells #[.int .i64 0,.int .i64 0] 118)) (by exact Rd.byB)).heap K2 same_own H2;have r0:=K2.cell (c:=w.heap.size) (o:=0) (v:=.int .i64 0) (by go_simp) nrO;have r1:=K2.cell (c:=w.heap.size) (o:=1) (v:=.int .i64 0) (by go_simp) nrO;have rf0:=K2.frz (c:=w.heap.size) (o:=0) (b:=false) (by go_simp) (by simp) nrO;have rf1:=K2.frz (c:=w.heap.size) (o:=1) (b:=false) (by go_simp) (by simp) nrO;have z0:=S2.c0;have z11:=S2.c11;have z7:=S2.c7;rw [HCO.out] at z7;have u0:=K2.cell (c:=ib) (o:=io + fr.at_ * 6) (v:=.int .i64 (20)) (by go_simp) nibO;have u1:=K2.cell (c:=ib) (o:=io + fr.at_ * 6 + 1) (v:=.int .i64 a) (by go_simp) nibO;have u2:=K2.cell (c:=ib) (o:=io + fr.at_ * 6 + 2) (v:=.int .i64 b) (by go_simp) nibO;have u3:=K2.cell (c:=ib) (o:=io + fr.at_ * 6 + 3) (v:=.int .i64 c) (by go_simp) nibO;have u4:=K2.cell (c:=ib) (o:=io + fr.at_ * 6 + 4) (v:=.int .i64 n) (by go_simp) nibO;have u5:=K2.cell (c:=ib) (o:=io + fr.at_ * 6 + 5) (v:=.slice aa args.length acap) (by go_simp) nibO;have GW:=Lib.hid (show Gr E L P vs w L vs w2 from ⟨(Kp.of_below (B:=w.heap.size) (X:=fo E L P vs) (w':=w.alloc (.cells #[.int .i64 0,.int .i64 0] 118)) (by exact Rd.byB) (Nat.le_refl _)).trans K2 (fun y hy=>.inl (.inl hy)),fun _ q=>.inl q,fun _ q=>.inl q⟩);have nf2:=S2.fo_new (Nat.le_refl _);have hcb2:=S2.cbw;have hrw:=cell_lt r0;have hib2:=cell_lt u0;replace S2:=Lib.hid S2;clear H2 K2 c7 c0 c11 x0 x1 x2 x3 x4 x5)
  refine wp_region_held_drew (S:=fun w'=>w'.cell? ⟨P.cb,11,none⟩ = some (.int .i64 fr.at_) ∧ w'.cell? ⟨P.cb,7,none⟩ = some (.slice (some ⟨ib,io,none⟩) m.code.length icap)) (by kernel_rfl) (by (try dsimp only);refine ⟨?_,?_⟩ <;> go_simp) (fun hHeld=>?_)
  refine Drawn.tk 0 (some 12) rfl rfl (by assumption) ?_
  try simp only [Act.put,Drawn.La,Drawn.Lb,Drawn.Lc]
  refine Drawn.tk 1 (some 13) rfl rfl (by assumption) ?_
  try simp only [Act.put,Drawn.La,Drawn.Lb,Drawn.Lc]
  refine Drawn.tk 2 (some 14) rfl rfl (by assumption) ?_
  try simp only [Act.put,Drawn.La,Drawn.Lb,Drawn.Lc]
  refine Drawn.tk 3 (some 15) rfl rfl (by assumption) ?_
  try simp only [Act.put,Drawn.La,Drawn.Lb,Drawn.Lc]
  refine Drawn.tk 4 (some 16) rfl rfl (by assumption) ?_
  try simp only [Act.put,Drawn.La,Drawn.Lb,Drawn.Lc]
  refine Drawn.tk 5 (some 17) rfl rfl (by assumption) ?_
  try simp only [Act.put,Drawn.La,Drawn.Lb,Drawn.Lc]
  refine Drawn.tk 6 (some 18) rfl rfl (by assumption) ?_
  try simp only [Act.put,Drawn.La,Drawn.Lb,Drawn.Lc]
  refine Drawn.tk 7 (some 19) rfl rfl (by assumption) ?_
  try simp only [Act.put,Drawn.La,Drawn.Lb,Drawn.Lc]
  refine Drawn.tk 8 (some 20) rfl rfl (by assumption) ?_
  try simp only [Act.put,Drawn.La,Drawn.Lb,Drawn.Lc]
  refine Drawn.tk 9 (some 21) rfl rfl (by assumption) ?_
  try simp only [Act.put,Drawn.La,Drawn.Lb,Drawn.Lc]
  refine Drawn.tk 10 (some 22) rfl rfl (by assumption) ?_
  try simp only [Act.put,Drawn.La,Drawn.Lb,Drawn.Lc]
  refine wpAnyH_ready (rs:=[11]) (by kernel_rfl) (by simp) ?_
  refine AllReadyH.cons rfl (fun K hK=>?_) AllReadyH.nil
  go_simp
  refine (mustT _).mono ?_
  rintro e w3 ⟨rfl,rfl⟩
  go_wp2_with fail
  refine hK.out _ _ (by (try dsimp only);refine ⟨?_,?_⟩ <;> go_simp) (fun hHeld=>?_)
  clear hK K
  try simp only [Act.put,Drawn.La,Drawn.Lb,Drawn.Lc]
  refine wpAnyH_done (by kernel_rfl) ?_ _
  go_wp2_with fail
  refine wp_region_held_drew (S:=fun w'=>w'.cell? ⟨P.cb,11,none⟩ = some (.int .i64 fr.at_) ∧ w'.cell? ⟨P.cb,7,none⟩ = some (.slice (some ⟨ib,io,none⟩) m.code.length icap) ∧ w'.cell? ⟨ib,io + fr.at_ * 6,none⟩ = some (.int .i64 20) ∧ w'.cell? ⟨ib,io + fr.at_ * 6 + 1,none⟩ = some (.int .i64 a) ∧ w'.cell? ⟨ib,io + fr.at_ * 6 + 2,none⟩ = some (.int .i64 b) ∧ w'.cell? ⟨ib,io + fr.at_ * 6 + 3,none⟩ = some (.int .i64 c) ∧ w'.cell? ⟨ib,io + fr.at_ * 6 + 4,none⟩ = some (.int .i64 n) ∧ w'.cell? ⟨ib,io + fr.at_ * 6 + 5,none⟩ = some (.slice aa args.length acap)) (by kernel_rfl) (by (try dsimp only);refine ⟨?_,?_,?_,?_,?_,?_,?_,?_⟩ <;> go_simp) (fun hHeld=>?_)
  refine Drawn.tk 0 (some 24) rfl rfl (by assumption) ?_
  try simp only [Act.put,Drawn.La,Drawn.Lb,Drawn.Lc]
  refine Drawn.tk 1 (some 25) rfl rfl (by assumption) ?_
  try simp only [Act.put,Drawn.La,Drawn.Lb,Drawn.Lc]
  refine Drawn.tk 2 (some 26) rfl rfl (by assumption) ?_
  try simp only [Act.put,Drawn.La,Drawn.Lb,Drawn.Lc]
  refine Drawn.tk 3 (some 27) rfl rfl (by assumption) ?_
  try simp only [Act.put,Drawn.La,Drawn.Lb,Drawn.Lc]
  refine Drawn.tk 4 (some 28) rfl rfl (by assumption) ?_
  try simp only [Act.put,Drawn.La,Drawn.Lb,Drawn.Lc]
  refine Drawn.tk 5 (some 29) rfl rfl (by assumption) ?_
  try simp only [Act.put,Drawn.La,Drawn.Lb,Drawn.Lc]
  refine Drawn.tk 6 (some 30) rfl rfl (by assumption) ?_
  try simp only [Act.put,Drawn.La,Drawn.Lb,Drawn.Lc]
  refine Drawn.tk 7 (some 31) rfl rfl (by assumption) ?_
  try simp only [Act.put,Drawn.La,Drawn.Lb,Drawn.Lc]
  refine Drawn.tk 8 (some 32) rfl rfl (by assumption) ?_
  try simp only [Act.put,Drawn.La,Drawn.Lb,Drawn.Lc]
  refine Drawn.tk 9 (some 33) rfl rfl (by assumption) ?_
  try simp only [Act.put,Drawn.La,Drawn.Lb,Drawn.Lc]
  refine Drawn.tk 10 (some 34) rfl rfl (by assumption) ?_
  try simp only [Act.put,Drawn.La,Drawn.Lb,Drawn.Lc]
  refine wpAnyH_ready (rs:=[11]) (by kernel_rfl) (by simp) ?_
  refine AllReadyH.cons rfl (fun K hK=>?_) AllReadyH.nil
  go_simp
  refine hK.out _ _ (by (try dsimp only);refine ⟨?_,?_,?_,?_,?_,?_,?_,?_⟩ <;> go_simp) (fun hHeld=>?_)
  clear hK K
  try simp only [Act.put,Drawn.La,Drawn.Lb,Drawn.Lc]
  refine wpAnyH_ready (rs:=[12]) (by kernel_rfl) (by simp) ?_
  refine AllReadyH.cons rfl (fun K hK=>?_) AllReadyH.nil
  go_simp
  refine hK.out _ _ (by (try dsimp only);refine ⟨?_,?_,?_,?_,?_,?_,?_,?_⟩ <;> go_simp) (fun hHeld=>?_)
  clear hK K
  try simp only [Act.put,Drawn.La,Drawn.Lb,Drawn.Lc]
  refine wpAnyH_done (by kernel_rfl) ?_ _
  generalize hWW : World.drew _ = W
  replace hWW:=Lib.hid hWW
  have k0 : W.cell? ⟨w2.heap.size,0,none⟩ = some (.int .i64 (20)):=by rw [← hWW.out];go_simp
  have k1 : W.cell? ⟨w2.heap.size,1,none⟩ = some (.int .i64 a):=by rw [← hWW.out];go_simp
  have k2 : W.cell? ⟨w2.heap.size,2,none⟩ = some (.int .i64 b):=by rw [← hWW.out];go_simp
  have k3 : W.cell? ⟨w2.heap.size,3,none⟩ = some (.int .i64 c):=by rw [← hWW.out];go_simp
  have k4 : W.cell? ⟨w2.heap.size,4,none⟩ = some (.int .i64 n):=by rw [← hWW.out];go_simp
  have k5 : W.cell? ⟨w2.heap.size,5,none⟩ = some (.slice aa args.length acap):=by rw [← hWW.out];go_simp
  have hbW : Below w2.heap.size w2 W:=by rw [← hWW.out];exact Rd.byB
  have hzW : w2.heap.size < W.heap.size:=cell_lt k0
  have SW:=S2.out.below hbW
  have s0:=kept hbW hrw r0
  have s1:=kept hbW hrw r1
  have sf0:=frz_kept hbW hrw rf0
  have sf1:=frz_kept hbW hrw rf1
  have e0:=SW.c0
  have e11:=SW.c11
  have ef11:=SW.fz 11 (by decide)
  have hcbW:=SW.cbw
  have hrW : w.heap.size < W.heap.size:=by omega
  have G:=Lib.hid (GW.out.trans (Gr.of_below hbW))
  replace SW:=Lib.hid SW
  clear hWW r0 r1 rf0 rf1 z0 z11 z7 u0 u1 u2 u3 u4 u5 GW hbW S2
  have e2:=SW.out.c2
  have e3:=SW.out.c3
  go_wp2_with fail
  go_at_call 179
  refine (anyNo (SW.out.below (by exact Rd.byB)) hn).mono ?_
  rintro e w4 ⟨rfl,hb4⟩
  have HB4 : Below W.heap.size W w4:=Below.trans (by exact Rd.byB) (hb4.mono Rd.byL)
  unfold pan
  refine And.intro rfl ?_
  exact ⟨Pan.one _,((G.out.trans (Gr.of_below HB4)).lft (SW.out.below HB4)).stop⟩
set_option maxRecDepth 100000 in
set_option maxHeartbeats 2000000 in
theorem do20t (S : ST E w L P m d h fr vs) (hbig : fr.stk.length ≤ 1000) (hatb : fr.at_ ≤ 100000) (hs : h.steps < E.fuel) (hfu : E.fuel ≤ 60000) (a b c n : Int) (args : List Int) (hi : m.code[fr.at_]? = some ⟨20, a, b, c, n, args⟩) (hrk : (m.ret.kind == 0) = false) (hn : fr.stk ≠ []) (hm : Hier.may E.f.classes = true) (h3 : (top fr.stk).kind = 3 → (top fr.stk).n < h.objs.length) (hof : ofT E.f.classes (stepped h) (top fr.stk) m.ret = true) :
    Calls Try.prog 124 #[.pointer (some ⟨P.cb,0,none⟩)] w (DoR E L P m d vs fr w (.back (top fr.stk) (stepped h))):=by
  obtain ⟨⟨tk,tn⟩,ht⟩ : ∃ t,Hid (top fr.stk = t):=⟨_,Lib.hid rfl⟩
  rw [ht.out] at hof h3
  simp only at h3
  rw [ht.out]
  have HS:=Lib.hid S
  have hcb:=S.cbw
  have hat : fr.at_ < m.code.length:=(List.getElem?_eq_some_iff.1 hi).1
  obtain ⟨ica,icap,hvc,i1,i2,iel⟩:=id S.M.co
  obtain ⟨ib,io,rfl,hib,hie⟩:=iel fr.at_ hat
  have hx : m.code[fr.at_] = ⟨20,a,b,c,n,args⟩:=by rw [List.getElem?_eq_getElem hat] at hi;exact Option.some.inj hi
  rw [hx] at hie
  obtain ⟨x0,x1,x2,x3,x4,_,va,x5,hva⟩:=hie
  obtain ⟨aa,acap,rfl,_⟩:=hva
  simp only at x0 x1 x2 x3 x4
  have c7:=S.c7
  rw [hvc] at c7
  have c0:=S.c0
  have c11:=S.c11
  have nr:=S.fo_new (Nat.le_refl _)
  have nrO : ¬ own E L w.heap.size:=fun hk=>nr (.inl hk)
  have nib : ¬ fo E L P vs ib:=fun hk=>by have:=(S.fo_lo hk).1;omega
  have nibO : ¬ own E L ib:=fun hk=>nib (.inl hk)
  have hibw : ib < w.heap.size:=by have:=S.base;omega
  have hati : (fr.at_ : Int) < m.code.length:=by omega
  have hatd : decide ((fr.at_ : Int) < m.code.length) = true:=by simpa using hati
  have hwr : IntKind.i64.wrap ((fr.at_ : Int) + 1) = (fr.at_ : Int) + 1:=by rw [Num.wrap_i64,wrap64_id (by unfold Ok;omega)]
  have HCO:=Lib.hid hvc
  clear S iel hi hx hvc i1
  go_enter Try.func124,Try.ntmps124
  go_wp2_with (go_at_call 178;refine (stepOk (HS.out.below (by exact Rd.byB)).H hs hfu).mono ?_;rintro e w2 ⟨rfl,H2,K2⟩;have S2:=(HS.out.below (w':=w.alloc (.cells #[.int .i64 0,.int .i64 0] 118)) (by exact Rd.byB)).heap K2 same_own H2;have r0:=K2.cell (c:=w.heap.size) (o:=0) (v:=.int .i64 0) (by go_simp) nrO;have r1:=K2.cell (c:=w.heap.size) (o:=1) (v:=.int .i64 0) (by go_simp) nrO;have rf0:=K2.frz (c:=w.heap.size) (o:=0) (b:=false) (by go_simp) (by simp) nrO;have rf1:=K2.frz (c:=w.heap.size) (o:=1) (b:=false) (by go_simp) (by simp) nrO;have z0:=S2.c0;have z11:=S2.c11;have z7:=S2.c7;rw [HCO.out] at z7;have u0:=K2.cell (c:=ib) (o:=io + fr.at_ * 6) (v:=.int .i64 (20)) (by go_simp) nibO;have u1:=K2.cell (c:=ib) (o:=io + fr.at_ * 6 + 1) (v:=.int .i64 a) (by go_simp) nibO;have u2:=K2.cell (c:=ib) (o:=io + fr.at_ * 6 + 2) (v:=.int .i64 b) (by go_simp) nibO;have u3:=K2.cell (c:=ib) (o:=io + fr.at_ * 6 + 3) (v:=.int .i64 c) (by go_simp) nibO;have u4:=K2.cell (c:=ib) (o:=io + fr.at_ * 6 + 4) (v:=.int .i64 n) (by go_simp) nibO;have u5:=K2.cell (c:=ib) (o:=io + fr.at_ * 6 + 5) (v:=.slice aa args.length acap) (by go_simp) nibO;have GW:=Lib.hid (show Gr E L P vs w L vs w2 from ⟨(Kp.of_below (B:=w.heap.size) (X:=fo E L P vs) (w':=w.alloc (.cells #[.int .i64 0,.int .i64 0] 118)) (by exact Rd.byB) (Nat.le_refl _)).trans K2 (fun y hy=>.inl (.inl hy)),fun _ q=>.inl q,fun _ q=>.inl q⟩);have nf2:=S2.fo_new (Nat.le_refl _);have hcb2:=S2.cbw;have hrw:=cell_lt r0;have hib2:=cell_lt u0;replace S2:=Lib.hid S2;clear H2 K2 c7 c0 c11 x0 x1 x2 x3 x4 x5)
  refine wp_region_held_drew (S:=fun w'=>w'.cell? ⟨P.cb,11,none⟩ = some (.int .i64 fr.at_) ∧ w'.cell? ⟨P.cb,7,none⟩ = some (.slice (some ⟨ib,io,none⟩) m.code.length icap)) (by kernel_rfl) (by (try dsimp only);refine ⟨?_,?_⟩ <;> go_simp) (fun hHeld=>?_)
  refine Drawn.tk 0 (some 12) rfl rfl (by assumption) ?_
  try simp only [Act.put,Drawn.La,Drawn.Lb,Drawn.Lc]
  refine Drawn.tk 1 (some 13) rfl rfl (by assumption) ?_
  try simp only [Act.put,Drawn.La,Drawn.Lb,Drawn.Lc]
  refine Drawn.tk 2 (some 14) rfl rfl (by assumption) ?_
  try simp only [Act.put,Drawn.La,Drawn.Lb,Drawn.Lc]
  refine Drawn.tk 3 (some 15) rfl rfl (by assumption) ?_
  try simp only [Act.put,Drawn.La,Drawn.Lb,Drawn.Lc]
  refine Drawn.tk 4 (some 16) rfl rfl (by assumption) ?_
  try simp only [Act.put,Drawn.La,Drawn.Lb,Drawn.Lc]
  refine Drawn.tk 5 (some 17) rfl rfl (by assumption) ?_
  try simp only [Act.put,Drawn.La,Drawn.Lb,Drawn.Lc]
  refine Drawn.tk 6 (some 18) rfl rfl (by assumption) ?_
  try simp only [Act.put,Drawn.La,Drawn.Lb,Drawn.Lc]
  refine Drawn.tk 7 (some 19) rfl rfl (by assumption) ?_
  try simp only [Act.put,Drawn.La,Drawn.Lb,Drawn.Lc]
  refine Drawn.tk 8 (some 20) rfl rfl (by assumption) ?_
  try simp only [Act.put,Drawn.La,Drawn.Lb,Drawn.Lc]
  refine Drawn.tk 9 (some 21) rfl rfl (by assumption) ?_
  try simp only [Act.put,Drawn.La,Drawn.Lb,Drawn.Lc]
  refine Drawn.tk 10 (some 22) rfl rfl (by assumption) ?_
  try simp only [Act.put,Drawn.La,Drawn.Lb,Drawn.Lc]
  refine wpAnyH_ready (rs:=[11]) (by kernel_rfl) (by simp) ?_
  refine AllReadyH.cons rfl (fun K hK=>?_) AllReadyH.nil
  go_simp
  refine (mustT _).mono ?_
  rintro e w3 ⟨rfl,rfl⟩
  go_wp2_with fail
  refine hK.out _ _ (by (try dsimp only);refine ⟨?_,?_⟩ <;> go_simp) (fun hHeld=>?_)
  clear hK K
  try simp only [Act.put,Drawn.La,Drawn.Lb,Drawn.Lc]
  refine wpAnyH_done (by kernel_rfl) ?_ _
  go_wp2_with fail
  refine wp_region_held_drew (S:=fun w'=>w'.cell? ⟨P.cb,11,none⟩ = some (.int .i64 fr.at_) ∧ w'.cell? ⟨P.cb,7,none⟩ = some (.slice (some ⟨ib,io,none⟩) m.code.length icap) ∧ w'.cell? ⟨ib,io + fr.at_ * 6,none⟩ = some (.int .i64 20) ∧ w'.cell? ⟨ib,io + fr.at_ * 6 + 1,none⟩ = some (.int .i64 a) ∧ w'.cell? ⟨ib,io + fr.at_ * 6 + 2,none⟩ = some (.int .i64 b) ∧ w'.cell? ⟨ib,io + fr.at_ * 6 + 3,none⟩ = some (.int .i64 c) ∧ w'.cell? ⟨ib,io + fr.at_ * 6 + 4,none⟩ = some (.int .i64 n) ∧ w'.cell? ⟨ib,io + fr.at_ * 6 + 5,none⟩ = some (.slice aa args.length acap)) (by kernel_rfl) (by (try dsimp only);refine ⟨?_,?_,?_,?_,?_,?_,?_,?_⟩ <;> go_simp) (fun hHeld=>?_)
  refine Drawn.tk 0 (some 24) rfl rfl (by assumption) ?_
  try simp only [Act.put,Drawn.La,Drawn.Lb,Drawn.Lc]
  refine Drawn.tk 1 (some 25) rfl rfl (by assumption) ?_
  try simp only [Act.put,Drawn.La,Drawn.Lb,Drawn.Lc]
  refine Drawn.tk 2 (some 26) rfl rfl (by assumption) ?_
  try simp only [Act.put,Drawn.La,Drawn.Lb,Drawn.Lc]
  refine Drawn.tk 3 (some 27) rfl rfl (by assumption) ?_
  try simp only [Act.put,Drawn.La,Drawn.Lb,Drawn.Lc]
  refine Drawn.tk 4 (some 28) rfl rfl (by assumption) ?_
  try simp only [Act.put,Drawn.La,Drawn.Lb,Drawn.Lc]
  refine Drawn.tk 5 (some 29) rfl rfl (by assumption) ?_
  try simp only [Act.put,Drawn.La,Drawn.Lb,Drawn.Lc]
  refine Drawn.tk 6 (some 30) rfl rfl (by assumption) ?_
  try simp only [Act.put,Drawn.La,Drawn.Lb,Drawn.Lc]
  refine Drawn.tk 7 (some 31) rfl rfl (by assumption) ?_
  try simp only [Act.put,Drawn.La,Drawn.Lb,Drawn.Lc]
  refine Drawn.tk 8 (some 32) rfl rfl (by assumption) ?_
  try simp only [Act.put,Drawn.La,Drawn.Lb,Drawn.Lc]
  refine Drawn.tk 9 (some 33) rfl rfl (by assumption) ?_
  try simp only [Act.put,Drawn.La,Drawn.Lb,Drawn.Lc]
  refine Drawn.tk 10 (some 34) rfl rfl (by assumption) ?_
  try simp only [Act.put,Drawn.La,Drawn.Lb,Drawn.Lc]
  refine wpAnyH_ready (rs:=[11]) (by kernel_rfl) (by simp) ?_
  refine AllReadyH.cons rfl (fun K hK=>?_) AllReadyH.nil
  go_simp
  refine hK.out _ _ (by (try dsimp only);refine ⟨?_,?_,?_,?_,?_,?_,?_,?_⟩ <;> go_simp) (fun hHeld=>?_)
  clear hK K
  try simp only [Act.put,Drawn.La,Drawn.Lb,Drawn.Lc]
  refine wpAnyH_ready (rs:=[12]) (by kernel_rfl) (by simp) ?_
  refine AllReadyH.cons rfl (fun K hK=>?_) AllReadyH.nil
  go_simp
  refine hK.out _ _ (by (try dsimp only);refine ⟨?_,?_,?_,?_,?_,?_,?_,?_⟩ <;> go_simp) (fun hHeld=>?_)
  clear hK K
  try simp only [Act.put,Drawn.La,Drawn.Lb,Drawn.Lc]
  refine wpAnyH_done (by kernel_rfl) ?_ _
  generalize hWW : World.drew _ = W
  replace hWW:=Lib.hid hWW
  have k0 : W.cell? ⟨w2.heap.size,0,none⟩ = some (.int .i64 (20)):=by rw [← hWW.out];go_simp
  have k1 : W.cell? ⟨w2.heap.size,1,none⟩ = some (.int .i64 a):=by rw [← hWW.out];go_simp
  have k2 : W.cell? ⟨w2.heap.size,2,none⟩ = some (.int .i64 b):=by rw [← hWW.out];go_simp
  have k3 : W.cell? ⟨w2.heap.size,3,none⟩ = some (.int .i64 c):=by rw [← hWW.out];go_simp
  have k4 : W.cell? ⟨w2.heap.size,4,none⟩ = some (.int .i64 n):=by rw [← hWW.out];go_simp
  have k5 : W.cell? ⟨w2.heap.size,5,none⟩ = some (.slice aa args.length acap):=by rw [← hWW.out];go_simp
  have hbW : Below w2.heap.size w2 W:=by rw [← hWW.out];exact Rd.byB
  have hzW : w2.heap.size < W.heap.size:=cell_lt k0
  have SW:=S2.out.below hbW
  have s0:=kept hbW hrw r0
  have s1:=kept hbW hrw r1
  have sf0:=frz_kept hbW hrw rf0
  have sf1:=frz_kept hbW hrw rf1
  have e0:=SW.c0
  have e11:=SW.c11
  have ef11:=SW.fz 11 (by decide)
  have hcbW:=SW.cbw
  have hrW : w.heap.size < W.heap.size:=by omega
  have G:=Lib.hid (GW.out.trans (Gr.of_below hbW))
  replace SW:=Lib.hid SW
  clear hWW r0 r1 rf0 rf1 z0 z11 z7 u0 u1 u2 u3 u4 u5 GW hbW S2
  have e2:=SW.out.c2
  have e3:=SW.out.c3
  go_wp2_with fail
  go_at_call 179
  refine (anyOk (SW.out.below (by exact Rd.byB)) hn hbig).mono ?_
  rw [ht.out]
  unfold vl
  rintro e w4 ⟨rfl,A⟩
  obtain ⟨L4,v4,G4,S4⟩:=A.opn
  have t0:=G4.cell (b:=w.heap.size) (o:=0) (v:=.int .i64 0) nr (by go_simp)
  have t1:=G4.cell (b:=w.heap.size) (o:=1) (v:=.int .i64 0) nr (by go_simp)
  have tf0:=G4.frz (b:=w.heap.size) (o:=0) (x:=false) nr (by first | omega | (simp;done) | (simp;omega)) (by go_simp)
  have tf1:=G4.frz (b:=w.heap.size) (o:=1) (x:=false) nr (by first | omega | (simp;done) | (simp;omega)) (by go_simp)
  have nr4:=G4.nf (by first | omega | (simp;done) | (simp;omega)) nr
  have GB:=Lib.hid ((G.out.trans (Gr.of_below (by exact Rd.byB))).trans G4)
  have hrw4:=cell_lt t0
  have z0:=S4.c0
  have z2:=S4.c2
  have z3:=S4.c3
  have hcb4:=S4.cbw
  replace S4:=Lib.hid S4
  clear A G4 s0 s1 sf0 sf1 k0 k1 k2 k3 k4 k5 e0 e2 e3 e11 ef11
  go_wp2_with fail
  refine wp_region_held_drew (S:=fun w'=>w'.cell? ⟨P.cb,0,none⟩ = some (.pointer (some ⟨E.hb,0,none⟩)) ∧ w'.cell? ⟨P.cb,2,none⟩ = some (.int .i64 m.ret.kind) ∧ w'.cell? ⟨P.cb,3,none⟩ = some (.int .i64 m.ret.cls) ∧ w'.cell? ⟨w4.heap.size,0,none⟩ = some (.int .i64 tk) ∧ w'.cell? ⟨w4.heap.size,1,none⟩ = some (.int .i64 tn)) (by kernel_rfl) (by (try dsimp only);refine ⟨?_,?_,?_,?_,?_⟩ <;> go_simp) (fun hHeld=>?_)
  refine Drawn.tk 0 (some 57) rfl rfl (by assumption) ?_
  try simp only [Act.put,Drawn.La,Drawn.Lb,Drawn.Lc]
  refine Drawn.tk 1 (some 58) rfl rfl (by assumption) ?_
  try simp only [Act.put,Drawn.La,Drawn.Lb,Drawn.Lc]
  refine Drawn.tk 2 (some 59) rfl rfl (by assumption) ?_
  try simp only [Act.put,Drawn.La,Drawn.Lb,Drawn.Lc]
  refine Drawn.tk 3 (some 60) rfl rfl (by assumption) ?_
  try simp only [Act.put,Drawn.La,Drawn.Lb,Drawn.Lc]
  refine Drawn.tk 4 (some 61) rfl rfl (by assumption) ?_
  try simp only [Act.put,Drawn.La,Drawn.Lb,Drawn.Lc]
  refine Drawn.tk 5 (some 62) rfl rfl (by assumption) ?_
  try simp only [Act.put,Drawn.La,Drawn.Lb,Drawn.Lc]
  refine Drawn.tk 6 (some 63) rfl rfl (by assumption) ?_
  try simp only [Act.put,Drawn.La,Drawn.Lb,Drawn.Lc]
  refine Drawn.tk 7 (some 64) rfl rfl (by assumption) ?_
  try simp only [Act.put,Drawn.La,Drawn.Lb,Drawn.Lc]
  refine Drawn.tk 8 (some 65) rfl rfl (by assumption) ?_
  try simp only [Act.put,Drawn.La,Drawn.Lb,Drawn.Lc]
  refine Drawn.tk 9 (some 66) rfl rfl (by assumption) ?_
  try simp only [Act.put,Drawn.La,Drawn.Lb,Drawn.Lc]
  refine wpAnyH_ready (rs:=[10]) (by kernel_rfl) (by simp) ?_
  refine AllReadyH.cons rfl (fun K hK=>?_) AllReadyH.nil
  go_simp
  go_at_call 172
  refine (of E L4 (stepped h) d ⟨tk,tn⟩ m.ret _ (S4.out.below (by exact Rd.byB)).H hm (fun q=>h3 q)).mono ?_
  rw [hof]
  rintro e w5 ⟨rfl,hb5⟩
  have u0 : w5.cell? ⟨P.cb,0,none⟩ = some (.pointer (some ⟨E.hb,0,none⟩)):=kept hb5 (by first | omega | (simp;done) | (simp;omega)) (by go_simp)
  have u1 : w5.cell? ⟨P.cb,2,none⟩ = some (.int .i64 m.ret.kind):=kept hb5 (by first | omega | (simp;done) | (simp;omega)) (by go_simp)
  have u2 : w5.cell? ⟨P.cb,3,none⟩ = some (.int .i64 m.ret.cls):=kept hb5 (by first | omega | (simp;done) | (simp;omega)) (by go_simp)
  have u3 : w5.cell? ⟨w4.heap.size,0,none⟩ = some (.int .i64 tk):=kept hb5 (by first | omega | (simp;done) | (simp;omega)) (by go_simp)
  have u4 : w5.cell? ⟨w4.heap.size,1,none⟩ = some (.int .i64 tn):=kept hb5 (by first | omega | (simp;done) | (simp;omega)) (by go_simp)
  have u5 : w5.cell? ⟨w.heap.size,0,none⟩ = some (.int .i64 0):=kept hb5 (by first | omega | (simp;done) | (simp;omega)) (by go_simp)
  have u6 : w5.cell? ⟨w.heap.size,1,none⟩ = some (.int .i64 0):=kept hb5 (by first | omega | (simp;done) | (simp;omega)) (by go_simp)
  have uf0 : w5.frozen? ⟨w.heap.size,0,none⟩ = false:=frz_kept hb5 (by first | omega | (simp;done) | (simp;omega)) (by go_simp)
  have uf1 : w5.frozen? ⟨w.heap.size,1,none⟩ = false:=frz_kept hb5 (by first | omega | (simp;done) | (simp;omega)) (by go_simp)
  have HB5 : Below w4.heap.size w4 w5:=Below.trans (by exact Rd.byB) (hb5.mono Rd.byL)
  have GC:=Lib.hid (GB.out.trans (Gr.of_below HB5))
  have S5:=Lib.hid (S4.out.below HB5)
  have hrw5 : w.heap.size < w5.heap.size:=cell_lt u5
  clear t0 t1 tf0 tf1 z0 z2 z3 hb5 HB5
  go_wp2_with fail
  refine hK.out _ _ (by (try dsimp only);refine ⟨?_,?_,?_,?_,?_⟩ <;> go_simp) (fun hHeld=>?_)
  clear hK K
  try simp only [Act.put,Drawn.La,Drawn.Lb,Drawn.Lc]
  refine wpAnyH_ready (rs:=[11]) (by kernel_rfl) (by simp) ?_
  refine AllReadyH.cons rfl (fun K hK=>?_) AllReadyH.nil
  go_simp
  go_at_call 171
  refine (mustT _).mono ?_
  rintro e w6 ⟨rfl,rfl⟩
  go_wp2_with fail
  refine hK.out _ _ (by (try dsimp only);refine ⟨?_,?_,?_,?_,?_⟩ <;> go_simp) (fun hHeld=>?_)
  clear hK K
  try simp only [Act.put,Drawn.La,Drawn.Lb,Drawn.Lc]
  refine wpAnyH_done (by kernel_rfl) ?_ _
  go_wp2_with fail
  refine bodyPost_ret (v:=.tuple #[.agg #[.int .i64 tk,.int .i64 tn],.bool true]) (by simp [results,Try.results124,go_sem] <;> go_simp) rfl ?_
  exact ⟨rfl,fr.stk.dropLast,Gr.upon HS.out GC.out S5.out (Nat.le_refl _) nr4 _ _⟩
set_option maxRecDepth 100000 in
set_option maxHeartbeats 2000000 in
theorem do20f (S : ST E w L P m d h fr vs) (hbig : fr.stk.length ≤ 1000) (hatb : fr.at_ ≤ 100000) (hs : h.steps < E.fuel) (hfu : E.fuel ≤ 60000) (a b c n : Int) (args : List Int) (hi : m.code[fr.at_]? = some ⟨20, a, b, c, n, args⟩) (hrk : (m.ret.kind == 0) = false) (hn : fr.stk ≠ []) (hm : Hier.may E.f.classes = true) (h3 : (top fr.stk).kind = 3 → (top fr.stk).n < h.objs.length) (hof : ofT E.f.classes (stepped h) (top fr.stk) m.ret = false) :
    Calls Try.prog 124 #[.pointer (some ⟨P.cb,0,none⟩)] w (DoR E L P m d vs fr w (.stop 6 (stepped h))):=by
  obtain ⟨⟨tk,tn⟩,ht⟩ : ∃ t,Hid (top fr.stk = t):=⟨_,Lib.hid rfl⟩
  rw [ht.out] at hof h3
  simp only at h3
  have HS:=Lib.hid S
  have hcb:=S.cbw
  have hat : fr.at_ < m.code.length:=(List.getElem?_eq_some_iff.1 hi).1
  obtain ⟨ica,icap,hvc,i1,i2,iel⟩:=id S.M.co
  obtain ⟨ib,io,rfl,hib,hie⟩:=iel fr.at_ hat
  have hx : m.code[fr.at_] = ⟨20,a,b,c,n,args⟩:=by rw [List.getElem?_eq_getElem hat] at hi;exact Option.some.inj hi
  rw [hx] at hie
  obtain ⟨x0,x1,x2,x3,x4,_,va,x5,hva⟩:=hie
  obtain ⟨aa,acap,rfl,_⟩:=hva
  simp only at x0 x1 x2 x3 x4
  have c7:=S.c7
  rw [hvc] at c7
  have c0:=S.c0
  have c11:=S.c11
  have nr:=S.fo_new (Nat.le_refl _)
  have nrO : ¬ own E L w.heap.size:=fun hk=>nr (.inl hk)
  have nib : ¬ fo E L P vs ib:=fun hk=>by have:=(S.fo_lo hk).1;omega
  have nibO : ¬ own E L ib:=fun hk=>nib (.inl hk)
  have hibw : ib < w.heap.size:=by have:=S.base;omega
  have hati : (fr.at_ : Int) < m.code.length:=by omega
  have hatd : decide ((fr.at_ : Int) < m.code.length) = true:=by simpa using hati
  have hwr : IntKind.i64.wrap ((fr.at_ : Int) + 1) = (fr.at_ : Int) + 1:=by rw [Num.wrap_i64,wrap64_id (by unfold Ok;omega)]
  have HCO:=Lib.hid hvc
  clear S iel hi hx hvc i1
  go_enter Try.func124,Try.ntmps124
  go_wp2_with (go_at_call 178;refine (stepOk (HS.out.below (by exact Rd.byB)).H hs hfu).mono ?_;rintro e w2 ⟨rfl,H2,K2⟩;have S2:=(HS.out.below (w':=w.alloc (.cells #[.int .i64 0,.int .i64 0] 118)) (by exact Rd.byB)).heap K2 same_own H2;have r0:=K2.cell (c:=w.heap.size) (o:=0) (v:=.int .i64 0) (by go_simp) nrO;have r1:=K2.cell (c:=w.heap.size) (o:=1) (v:=.int .i64 0) (by go_simp) nrO;have rf0:=K2.frz (c:=w.heap.size) (o:=0) (b:=false) (by go_simp) (by simp) nrO;have rf1:=K2.frz (c:=w.heap.size) (o:=1) (b:=false) (by go_simp) (by simp) nrO;have z0:=S2.c0;have z11:=S2.c11;have z7:=S2.c7;rw [HCO.out] at z7;have u0:=K2.cell (c:=ib) (o:=io + fr.at_ * 6) (v:=.int .i64 (20)) (by go_simp) nibO;have u1:=K2.cell (c:=ib) (o:=io + fr.at_ * 6 + 1) (v:=.int .i64 a) (by go_simp) nibO;have u2:=K2.cell (c:=ib) (o:=io + fr.at_ * 6 + 2) (v:=.int .i64 b) (by go_simp) nibO;have u3:=K2.cell (c:=ib) (o:=io + fr.at_ * 6 + 3) (v:=.int .i64 c) (by go_simp) nibO;have u4:=K2.cell (c:=ib) (o:=io + fr.at_ * 6 + 4) (v:=.int .i64 n) (by go_simp) nibO;have u5:=K2.cell (c:=ib) (o:=io + fr.at_ * 6 + 5) (v:=.slice aa args.length acap) (by go_simp) nibO;have GW:=Lib.hid (show Gr E L P vs w L vs w2 from ⟨(Kp.of_below (B:=w.heap.size) (X:=fo E L P vs) (w':=w.alloc (.cells #[.int .i64 0,.int .i64 0] 118)) (by exact Rd.byB) (Nat.le_refl _)).trans K2 (fun y hy=>.inl (.inl hy)),fun _ q=>.inl q,fun _ q=>.inl q⟩);have nf2:=S2.fo_new (Nat.le_refl _);have hcb2:=S2.cbw;have hrw:=cell_lt r0;have hib2:=cell_lt u0;replace S2:=Lib.hid S2;clear H2 K2 c7 c0 c11 x0 x1 x2 x3 x4 x5)
  refine wp_region_held_drew (S:=fun w'=>w'.cell? ⟨P.cb,11,none⟩ = some (.int .i64 fr.at_) ∧ w'.cell? ⟨P.cb,7,none⟩ = some (.slice (some ⟨ib,io,none⟩) m.code.length icap)) (by kernel_rfl) (by (try dsimp only);refine ⟨?_,?_⟩ <;> go_simp) (fun hHeld=>?_)
  refine Drawn.tk 0 (some 12) rfl rfl (by assumption) ?_
  try simp only [Act.put,Drawn.La,Drawn.Lb,Drawn.Lc]
  refine Drawn.tk 1 (some 13) rfl rfl (by assumption) ?_
  try simp only [Act.put,Drawn.La,Drawn.Lb,Drawn.Lc]
  refine Drawn.tk 2 (some 14) rfl rfl (by assumption) ?_
  try simp only [Act.put,Drawn.La,Drawn.Lb,Drawn.Lc]
  refine Drawn.tk 3 (some 15) rfl rfl (by assumption) ?_
  try simp only [Act.put,Drawn.La,Drawn.Lb,Drawn.Lc]
  refine Drawn.tk 4 (some 16) rfl rfl (by assumption) ?_
  try simp only [Act.put,Drawn.La,Drawn.Lb,Drawn.Lc]
  refine Drawn.tk 5 (some 17) rfl rfl (by assumption) ?_
  try simp only [Act.put,Drawn.La,Drawn.Lb,Drawn.Lc]
  refine Drawn.tk 6 (some 18) rfl rfl (by assumption) ?_
  try simp only [Act.put,Drawn.La,Drawn.Lb,Drawn.Lc]
  refine Drawn.tk 7 (some 19) rfl rfl (by assumption) ?_
  try simp only [Act.put,Drawn.La,Drawn.Lb,Drawn.Lc]
  refine Drawn.tk 8 (some 20) rfl rfl (by assumption) ?_
  try simp only [Act.put,Drawn.La,Drawn.Lb,Drawn.Lc]
  refine Drawn.tk 9 (some 21) rfl rfl (by assumption) ?_
  try simp only [Act.put,Drawn.La,Drawn.Lb,Drawn.Lc]
  refine Drawn.tk 10 (some 22) rfl rfl (by assumption) ?_
  try simp only [Act.put,Drawn.La,Drawn.Lb,Drawn.Lc]
  refine wpAnyH_ready (rs:=[11]) (by kernel_rfl) (by simp) ?_
  refine AllReadyH.cons rfl (fun K hK=>?_) AllReadyH.nil
  go_simp
  refine (mustT _).mono ?_
  rintro e w3 ⟨rfl,rfl⟩
  go_wp2_with fail
  refine hK.out _ _ (by (try dsimp only);refine ⟨?_,?_⟩ <;> go_simp) (fun hHeld=>?_)
  clear hK K
  try simp only [Act.put,Drawn.La,Drawn.Lb,Drawn.Lc]
  refine wpAnyH_done (by kernel_rfl) ?_ _
  go_wp2_with fail
  refine wp_region_held_drew (S:=fun w'=>w'.cell? ⟨P.cb,11,none⟩ = some (.int .i64 fr.at_) ∧ w'.cell? ⟨P.cb,7,none⟩ = some (.slice (some ⟨ib,io,none⟩) m.code.length icap) ∧ w'.cell? ⟨ib,io + fr.at_ * 6,none⟩ = some (.int .i64 20) ∧ w'.cell? ⟨ib,io + fr.at_ * 6 + 1,none⟩ = some (.int .i64 a) ∧ w'.cell? ⟨ib,io + fr.at_ * 6 + 2,none⟩ = some (.int .i64 b) ∧ w'.cell? ⟨ib,io + fr.at_ * 6 + 3,none⟩ = some (.int .i64 c) ∧ w'.cell? ⟨ib,io + fr.at_ * 6 + 4,none⟩ = some (.int .i64 n) ∧ w'.cell? ⟨ib,io + fr.at_ * 6 + 5,none⟩ = some (.slice aa args.length acap)) (by kernel_rfl) (by (try dsimp only);refine ⟨?_,?_,?_,?_,?_,?_,?_,?_⟩ <;> go_simp) (fun hHeld=>?_)
  refine Drawn.tk 0 (some 24) rfl rfl (by assumption) ?_
  try simp only [Act.put,Drawn.La,Drawn.Lb,Drawn.Lc]
  refine Drawn.tk 1 (some 25) rfl rfl (by assumption) ?_
  try simp only [Act.put,Drawn.La,Drawn.Lb,Drawn.Lc]
  refine Drawn.tk 2 (some 26) rfl rfl (by assumption) ?_
  try simp only [Act.put,Drawn.La,Drawn.Lb,Drawn.Lc]
  refine Drawn.tk 3 (some 27) rfl rfl (by assumption) ?_
  try simp only [Act.put,Drawn.La,Drawn.Lb,Drawn.Lc]
  refine Drawn.tk 4 (some 28) rfl rfl (by assumption) ?_
  try simp only [Act.put,Drawn.La,Drawn.Lb,Drawn.Lc]
  refine Drawn.tk 5 (some 29) rfl rfl (by assumption) ?_
  try simp only [Act.put,Drawn.La,Drawn.Lb,Drawn.Lc]
  refine Drawn.tk 6 (some 30) rfl rfl (by assumption) ?_
  try simp only [Act.put,Drawn.La,Drawn.Lb,Drawn.Lc]
  refine Drawn.tk 7 (some 31) rfl rfl (by assumption) ?_
  try simp only [Act.put,Drawn.La,Drawn.Lb,Drawn.Lc]
  refine Drawn.tk 8 (some 32) rfl rfl (by assumption) ?_
  try simp only [Act.put,Drawn.La,Drawn.Lb,Drawn.Lc]
  refine Drawn.tk 9 (some 33) rfl rfl (by assumption) ?_
  try simp only [Act.put,Drawn.La,Drawn.Lb,Drawn.Lc]
  refine Drawn.tk 10 (some 34) rfl rfl (by assumption) ?_
  try simp only [Act.put,Drawn.La,Drawn.Lb,Drawn.Lc]
  refine wpAnyH_ready (rs:=[11]) (by kernel_rfl) (by simp) ?_
  refine AllReadyH.cons rfl (fun K hK=>?_) AllReadyH.nil
  go_simp
  refine hK.out _ _ (by (try dsimp only);refine ⟨?_,?_,?_,?_,?_,?_,?_,?_⟩ <;> go_simp) (fun hHeld=>?_)
  clear hK K
  try simp only [Act.put,Drawn.La,Drawn.Lb,Drawn.Lc]
  refine wpAnyH_ready (rs:=[12]) (by kernel_rfl) (by simp) ?_
  refine AllReadyH.cons rfl (fun K hK=>?_) AllReadyH.nil
  go_simp
  refine hK.out _ _ (by (try dsimp only);refine ⟨?_,?_,?_,?_,?_,?_,?_,?_⟩ <;> go_simp) (fun hHeld=>?_)
  clear hK K
  try simp only [Act.put,Drawn.La,Drawn.Lb,Drawn.Lc]
  refine wpAnyH_done (by kernel_rfl) ?_ _
  generalize hWW : World.drew _ = W
  replace hWW:=Lib.hid hWW
  have k0 : W.cell? ⟨w2.heap.size,0,none⟩ = some (.int .i64 (20)):=by rw [← hWW.out];go_simp
  have k1 : W.cell? ⟨w2.heap.size,1,none⟩ = some (.int .i64 a):=by rw [← hWW.out];go_simp
  have k2 : W.cell? ⟨w2.heap.size,2,none⟩ = some (.int .i64 b):=by rw [← hWW.out];go_simp
  have k3 : W.cell? ⟨w2.heap.size,3,none⟩ = some (.int .i64 c):=by rw [← hWW.out];go_simp
  have k4 : W.cell? ⟨w2.heap.size,4,none⟩ = some (.int .i64 n):=by rw [← hWW.out];go_simp
  have k5 : W.cell? ⟨w2.heap.size,5,none⟩ = some (.slice aa args.length acap):=by rw [← hWW.out];go_simp
  have hbW : Below w2.heap.size w2 W:=by rw [← hWW.out];exact Rd.byB
  have hzW : w2.heap.size < W.heap.size:=cell_lt k0
  have SW:=S2.out.below hbW
  have s0:=kept hbW hrw r0
  have s1:=kept hbW hrw r1
  have sf0:=frz_kept hbW hrw rf0
  have sf1:=frz_kept hbW hrw rf1
  have e0:=SW.c0
  have e11:=SW.c11
  have ef11:=SW.fz 11 (by decide)
  have hcbW:=SW.cbw
  have hrW : w.heap.size < W.heap.size:=by omega
  have G:=Lib.hid (GW.out.trans (Gr.of_below hbW))
  replace SW:=Lib.hid SW
  clear hWW r0 r1 rf0 rf1 z0 z11 z7 u0 u1 u2 u3 u4 u5 GW hbW S2
  have e2:=SW.out.c2
  have e3:=SW.out.c3
  go_wp2_with fail
  go_at_call 179
  refine (anyOk (SW.out.below (by exact Rd.byB)) hn hbig).mono ?_
  rw [ht.out]
  unfold vl
  rintro e w4 ⟨rfl,A⟩
  obtain ⟨L4,v4,G4,S4⟩:=A.opn
  have t0:=G4.cell (b:=w.heap.size) (o:=0) (v:=.int .i64 0) nr (by go_simp)
  have t1:=G4.cell (b:=w.heap.size) (o:=1) (v:=.int .i64 0) nr (by go_simp)
  have tf0:=G4.frz (b:=w.heap.size) (o:=0) (x:=false) nr (by first | omega | (simp;done) | (simp;omega)) (by go_simp)
  have tf1:=G4.frz (b:=w.heap.size) (o:=1) (x:=false) nr (by first | omega | (simp;done) | (simp;omega)) (by go_simp)
  have nr4:=G4.nf (by first | omega | (simp;done) | (simp;omega)) nr
  have GB:=Lib.hid ((G.out.trans (Gr.of_below (by exact Rd.byB))).trans G4)
  have hrw4:=cell_lt t0
  have z0:=S4.c0
  have z2:=S4.c2
  have z3:=S4.c3
  have hcb4:=S4.cbw
  replace S4:=Lib.hid S4
  clear A G4 s0 s1 sf0 sf1 k0 k1 k2 k3 k4 k5 e0 e2 e3 e11 ef11
  go_wp2_with fail
  refine wp_region_held_drew (S:=fun w'=>w'.cell? ⟨P.cb,0,none⟩ = some (.pointer (some ⟨E.hb,0,none⟩)) ∧ w'.cell? ⟨P.cb,2,none⟩ = some (.int .i64 m.ret.kind) ∧ w'.cell? ⟨P.cb,3,none⟩ = some (.int .i64 m.ret.cls) ∧ w'.cell? ⟨w4.heap.size,0,none⟩ = some (.int .i64 tk) ∧ w'.cell? ⟨w4.heap.size,1,none⟩ = some (.int .i64 tn)) (by kernel_rfl) (by (try dsimp only);refine ⟨?_,?_,?_,?_,?_⟩ <;> go_simp) (fun hHeld=>?_)
  refine Drawn.tk 0 (some 57) rfl rfl (by assumption) ?_
  try simp only [Act.put,Drawn.La,Drawn.Lb,Drawn.Lc]
  refine Drawn.tk 1 (some 58) rfl rfl (by assumption) ?_
  try simp only [Act.put,Drawn.La,Drawn.Lb,Drawn.Lc]
  refine Drawn.tk 2 (some 59) rfl rfl (by assumption) ?_
  try simp only [Act.put,Drawn.La,Drawn.Lb,Drawn.Lc]
  refine Drawn.tk 3 (some 60) rfl rfl (by assumption) ?_
  try simp only [Act.put,Drawn.La,Drawn.Lb,Drawn.Lc]
  refine Drawn.tk 4 (some 61) rfl rfl (by assumption) ?_
  try simp only [Act.put,Drawn.La,Drawn.Lb,Drawn.Lc]
  refine Drawn.tk 5 (some 62) rfl rfl (by assumption) ?_
  try simp only [Act.put,Drawn.La,Drawn.Lb,Drawn.Lc]
  refine Drawn.tk 6 (some 63) rfl rfl (by assumption) ?_
  try simp only [Act.put,Drawn.La,Drawn.Lb,Drawn.Lc]
  refine Drawn.tk 7 (some 64) rfl rfl (by assumption) ?_
  try simp only [Act.put,Drawn.La,Drawn.Lb,Drawn.Lc]
  refine Drawn.tk 8 (some 65) rfl rfl (by assumption) ?_
  try simp only [Act.put,Drawn.La,Drawn.Lb,Drawn.Lc]
  refine Drawn.tk 9 (some 66) rfl rfl (by assumption) ?_
  try simp only [Act.put,Drawn.La,Drawn.Lb,Drawn.Lc]
  refine wpAnyH_ready (rs:=[10]) (by kernel_rfl) (by simp) ?_
  refine AllReadyH.cons rfl (fun K hK=>?_) AllReadyH.nil
  go_simp
  go_at_call 172
  refine (of E L4 (stepped h) d ⟨tk,tn⟩ m.ret _ (S4.out.below (by exact Rd.byB)).H hm (fun q=>h3 q)).mono ?_
  rw [hof]
  rintro e w5 ⟨rfl,hb5⟩
  have u0 : w5.cell? ⟨P.cb,0,none⟩ = some (.pointer (some ⟨E.hb,0,none⟩)):=kept hb5 (by first | omega | (simp;done) | (simp;omega)) (by go_simp)
  have u1 : w5.cell? ⟨P.cb,2,none⟩ = some (.int .i64 m.ret.kind):=kept hb5 (by first | omega | (simp;done) | (simp;omega)) (by go_simp)
  have u2 : w5.cell? ⟨P.cb,3,none⟩ = some (.int .i64 m.ret.cls):=kept hb5 (by first | omega | (simp;done) | (simp;omega)) (by go_simp)
  have u3 : w5.cell? ⟨w4.heap.size,0,none⟩ = some (.int .i64 tk):=kept hb5 (by first | omega | (simp;done) | (simp;omega)) (by go_simp)
  have u4 : w5.cell? ⟨w4.heap.size,1,none⟩ = some (.int .i64 tn):=kept hb5 (by first | omega | (simp;done) | (simp;omega)) (by go_simp)
  have u5 : w5.cell? ⟨w.heap.size,0,none⟩ = some (.int .i64 0):=kept hb5 (by first | omega | (simp;done) | (simp;omega)) (by go_simp)
  have u6 : w5.cell? ⟨w.heap.size,1,none⟩ = some (.int .i64 0):=kept hb5 (by first | omega | (simp;done) | (simp;omega)) (by go_simp)
  have uf0 : w5.frozen? ⟨w.heap.size,0,none⟩ = false:=frz_kept hb5 (by first | omega | (simp;done) | (simp;omega)) (by go_simp)
  have uf1 : w5.frozen? ⟨w.heap.size,1,none⟩ = false:=frz_kept hb5 (by first | omega | (simp;done) | (simp;omega)) (by go_simp)
  have HB5 : Below w4.heap.size w4 w5:=Below.trans (by exact Rd.byB) (hb5.mono Rd.byL)
  have GC:=Lib.hid (GB.out.trans (Gr.of_below HB5))
  have S5:=Lib.hid (S4.out.below HB5)
  have hrw5 : w.heap.size < w5.heap.size:=cell_lt u5
  clear t0 t1 tf0 tf1 z0 z2 z3 hb5 HB5
  go_wp2_with fail
  refine hK.out _ _ (by (try dsimp only);refine ⟨?_,?_,?_,?_,?_⟩ <;> go_simp) (fun hHeld=>?_)
  clear hK K
  try simp only [Act.put,Drawn.La,Drawn.Lb,Drawn.Lc]
  refine wpAnyH_ready (rs:=[11]) (by kernel_rfl) (by simp) ?_
  refine AllReadyH.cons rfl (fun K hK=>?_) AllReadyH.nil
  go_simp
  go_at_call 171
  refine (mustF _).mono ?_
  rintro e w6 ⟨rfl,rfl⟩
  go_wp2_with fail
  refine And.intro rfl ?_
  exact ⟨Pan.one _,(GC.out.lft S5.out).stop⟩
set_option maxRecDepth 100000 in
set_option maxHeartbeats 2000000 in
theorem dopl (S : ST E w L P m d h fr vs) (hbig : fr.stk.length ≤ 1000) (hatb : fr.at_ ≤ 100000) (hs : h.steps < E.fuel) (hfu : E.fuel ≤ 60000) (op a b c n : Int) (args : List Int) (hi : m.code[fr.at_]? = some ⟨op, a, b, c, n, args⟩) (FS : FiS E.f) (MS : MeS E.f m) (HO : HpOk E.f.classes E.input E.fuel (stepped h)) (hf : SfOk m h.objs.length fr) (hl : fr.stk.length ≤ 40) (hin : E.input.length ≤ 1000) (hI : InS E.f m ⟨op, a, b, c, n, args⟩) (q20 : (op == 20) = false) (q11 : (op == 11) = false) (q12 : (op == 12) = false) (q13 : (op == 13) = false) (q19 : (op == 19) = false) (q21 : (op == 21) = false) :
    Calls Try.prog 124 #[.pointer (some ⟨P.cb,0,none⟩)] w (DoR E L P m d vs fr w (oA (sstep E.f E.input m ⟨op,a,b,c,n,args⟩ fr (stepped h)))):=by
  have hop:=Lib.hid (show op ≠ 11 ∧ op ≠ 12 ∧ op ≠ 13 ∧ op ≠ 19 ∧ op ≠ 20 ∧ op ≠ 21 from ⟨by simpa using q11,by simpa using q12,by simpa using q13,by simpa using q19,by simpa using q20,by simpa using q21⟩)
  have hnx:=sstep_nx (fr:=fr) (h:=stepped h) (f:=E.f) (input:=E.input) (m:=m) (i:=⟨op,a,b,c,n,args⟩) hop.out
  obtain ⟨ac,hac⟩ : ∃ x,Hid (sstep E.f E.input m ⟨op,a,b,c,n,args⟩ fr (stepped h) = x):=⟨_,Lib.hid rfl⟩
  rw [hac.out] at hnx ⊢
  have HS:=Lib.hid S
  have hcb:=S.cbw
  have hat : fr.at_ < m.code.length:=(List.getElem?_eq_some_iff.1 hi).1
  obtain ⟨ica,icap,hvc,i1,i2,iel⟩:=id S.M.co
  obtain ⟨ib,io,rfl,hib,hie⟩:=iel fr.at_ hat
  have hx : m.code[fr.at_] = ⟨op,a,b,c,n,args⟩:=by rw [List.getElem?_eq_getElem hat] at hi;exact Option.some.inj hi
  rw [hx] at hie
  obtain ⟨x0,x1,x2,x3,x4,_,va,x5,hva⟩:=hie
  obtain ⟨aa,acap,rfl,_⟩:=hva
  simp only at x0 x1 x2 x3 x4
  have c7:=S.c7
  rw [hvc] at c7
  have c0:=S.c0
  have c11:=S.c11
  have nr:=S.fo_new (Nat.le_refl _)
  have nrO : ¬ own E L w.heap.size:=fun hk=>nr (.inl hk)
  have nib : ¬ fo E L P vs ib:=fun hk=>by have:=(S.fo_lo hk).1;omega
  have nibO : ¬ own E L ib:=fun hk=>nib (.inl hk)
  have hibw : ib < w.heap.size:=by have:=S.base;omega
  have hati : (fr.at_ : Int) < m.code.length:=by omega
  have hatd : decide ((fr.at_ : Int) < m.code.length) = true:=by simpa using hati
  have hwr : IntKind.i64.wrap ((fr.at_ : Int) + 1) = (fr.at_ : Int) + 1:=by rw [Num.wrap_i64,wrap64_id (by unfold Ok;omega)]
  have HCO:=Lib.hid hvc
  clear S iel hi hx hvc i1
  go_enter Try.func124,Try.ntmps124
  go_wp2_with (go_at_call 178;refine (stepOk (HS.out.below (by exact Rd.byB)).H hs hfu).mono ?_;rintro e w2 ⟨rfl,H2,K2⟩;have S2:=(HS.out.below (w':=w.alloc (.cells #[.int .i64 0,.int .i64 0] 118)) (by exact Rd.byB)).heap K2 same_own H2;have r0:=K2.cell (c:=w.heap.size) (o:=0) (v:=.int .i64 0) (by go_simp) nrO;have r1:=K2.cell (c:=w.heap.size) (o:=1) (v:=.int .i64 0) (by go_simp) nrO;have rf0:=K2.frz (c:=w.heap.size) (o:=0) (b:=false) (by go_simp) (by simp) nrO;have rf1:=K2.frz (c:=w.heap.size) (o:=1) (b:=false) (by go_simp) (by simp) nrO;have z0:=S2.c0;have z11:=S2.c11;have z7:=S2.c7;rw [HCO.out] at z7;have u0:=K2.cell (c:=ib) (o:=io + fr.at_ * 6) (v:=.int .i64 (op)) (by go_simp) nibO;have u1:=K2.cell (c:=ib) (o:=io + fr.at_ * 6 + 1) (v:=.int .i64 a) (by go_simp) nibO;have u2:=K2.cell (c:=ib) (o:=io + fr.at_ * 6 + 2) (v:=.int .i64 b) (by go_simp) nibO;have u3:=K2.cell (c:=ib) (o:=io + fr.at_ * 6 + 3) (v:=.int .i64 c) (by go_simp) nibO;have u4:=K2.cell (c:=ib) (o:=io + fr.at_ * 6 + 4) (v:=.int .i64 n) (by go_simp) nibO;have u5:=K2.cell (c:=ib) (o:=io + fr.at_ * 6 + 5) (v:=.slice aa args.length acap) (by go_simp) nibO;have GW:=Lib.hid (show Gr E L P vs w L vs w2 from ⟨(Kp.of_below (B:=w.heap.size) (X:=fo E L P vs) (w':=w.alloc (.cells #[.int .i64 0,.int .i64 0] 118)) (by exact Rd.byB) (Nat.le_refl _)).trans K2 (fun y hy=>.inl (.inl hy)),fun _ q=>.inl q,fun _ q=>.inl q⟩);have nf2:=S2.fo_new (Nat.le_refl _);have hcb2:=S2.cbw;have hrw:=cell_lt r0;have hib2:=cell_lt u0;replace S2:=Lib.hid S2;clear H2 K2 c7 c0 c11 x0 x1 x2 x3 x4 x5)
  refine wp_region_held_drew (S:=fun w'=>w'.cell? ⟨P.cb,11,none⟩ = some (.int .i64 fr.at_) ∧ w'.cell? ⟨P.cb,7,none⟩ = some (.slice (some ⟨ib,io,none⟩) m.code.length icap)) (by kernel_rfl) (by (try dsimp only);refine ⟨?_,?_⟩ <;> go_simp) (fun hHeld=>?_)
  refine Drawn.tk 0 (some 12) rfl rfl (by assumption) ?_
  try simp only [Act.put,Drawn.La,Drawn.Lb,Drawn.Lc]
  refine Drawn.tk 1 (some 13) rfl rfl (by assumption) ?_
  try simp only [Act.put,Drawn.La,Drawn.Lb,Drawn.Lc]
  refine Drawn.tk 2 (some 14) rfl rfl (by assumption) ?_
  try simp only [Act.put,Drawn.La,Drawn.Lb,Drawn.Lc]
  refine Drawn.tk 3 (some 15) rfl rfl (by assumption) ?_
  try simp only [Act.put,Drawn.La,Drawn.Lb,Drawn.Lc]
  refine Drawn.tk 4 (some 16) rfl rfl (by assumption) ?_
  try simp only [Act.put,Drawn.La,Drawn.Lb,Drawn.Lc]
  refine Drawn.tk 5 (some 17) rfl rfl (by assumption) ?_
  try simp only [Act.put,Drawn.La,Drawn.Lb,Drawn.Lc]
  refine Drawn.tk 6 (some 18) rfl rfl (by assumption) ?_
  try simp only [Act.put,Drawn.La,Drawn.Lb,Drawn.Lc]
  refine Drawn.tk 7 (some 19) rfl rfl (by assumption) ?_
  try simp only [Act.put,Drawn.La,Drawn.Lb,Drawn.Lc]
  refine Drawn.tk 8 (some 20) rfl rfl (by assumption) ?_
  try simp only [Act.put,Drawn.La,Drawn.Lb,Drawn.Lc]
  refine Drawn.tk 9 (some 21) rfl rfl (by assumption) ?_
  try simp only [Act.put,Drawn.La,Drawn.Lb,Drawn.Lc]
  refine Drawn.tk 10 (some 22) rfl rfl (by assumption) ?_
  try simp only [Act.put,Drawn.La,Drawn.Lb,Drawn.Lc]
  refine wpAnyH_ready (rs:=[11]) (by kernel_rfl) (by simp) ?_
  refine AllReadyH.cons rfl (fun K hK=>?_) AllReadyH.nil
  go_simp
  refine (mustT _).mono ?_
  rintro e w3 ⟨rfl,rfl⟩
  go_wp2_with fail
  refine hK.out _ _ (by (try dsimp only);refine ⟨?_,?_⟩ <;> go_simp) (fun hHeld=>?_)
  clear hK K
  try simp only [Act.put,Drawn.La,Drawn.Lb,Drawn.Lc]
  refine wpAnyH_done (by kernel_rfl) ?_ _
  go_wp2_with fail
  refine wp_region_held_drew (S:=fun w'=>w'.cell? ⟨P.cb,11,none⟩ = some (.int .i64 fr.at_) ∧ w'.cell? ⟨P.cb,7,none⟩ = some (.slice (some ⟨ib,io,none⟩) m.code.length icap) ∧ w'.cell? ⟨ib,io + fr.at_ * 6,none⟩ = some (.int .i64 op) ∧ w'.cell? ⟨ib,io + fr.at_ * 6 + 1,none⟩ = some (.int .i64 a) ∧ w'.cell? ⟨ib,io + fr.at_ * 6 + 2,none⟩ = some (.int .i64 b) ∧ w'.cell? ⟨ib,io + fr.at_ * 6 + 3,none⟩ = some (.int .i64 c) ∧ w'.cell? ⟨ib,io + fr.at_ * 6 + 4,none⟩ = some (.int .i64 n) ∧ w'.cell? ⟨ib,io + fr.at_ * 6 + 5,none⟩ = some (.slice aa args.length acap)) (by kernel_rfl) (by (try dsimp only);refine ⟨?_,?_,?_,?_,?_,?_,?_,?_⟩ <;> go_simp) (fun hHeld=>?_)
  refine Drawn.tk 0 (some 24) rfl rfl (by assumption) ?_
  try simp only [Act.put,Drawn.La,Drawn.Lb,Drawn.Lc]
  refine Drawn.tk 1 (some 25) rfl rfl (by assumption) ?_
  try simp only [Act.put,Drawn.La,Drawn.Lb,Drawn.Lc]
  refine Drawn.tk 2 (some 26) rfl rfl (by assumption) ?_
  try simp only [Act.put,Drawn.La,Drawn.Lb,Drawn.Lc]
  refine Drawn.tk 3 (some 27) rfl rfl (by assumption) ?_
  try simp only [Act.put,Drawn.La,Drawn.Lb,Drawn.Lc]
  refine Drawn.tk 4 (some 28) rfl rfl (by assumption) ?_
  try simp only [Act.put,Drawn.La,Drawn.Lb,Drawn.Lc]
  refine Drawn.tk 5 (some 29) rfl rfl (by assumption) ?_
  try simp only [Act.put,Drawn.La,Drawn.Lb,Drawn.Lc]
  refine Drawn.tk 6 (some 30) rfl rfl (by assumption) ?_
  try simp only [Act.put,Drawn.La,Drawn.Lb,Drawn.Lc]
  refine Drawn.tk 7 (some 31) rfl rfl (by assumption) ?_
  try simp only [Act.put,Drawn.La,Drawn.Lb,Drawn.Lc]
  refine Drawn.tk 8 (some 32) rfl rfl (by assumption) ?_
  try simp only [Act.put,Drawn.La,Drawn.Lb,Drawn.Lc]
  refine Drawn.tk 9 (some 33) rfl rfl (by assumption) ?_
  try simp only [Act.put,Drawn.La,Drawn.Lb,Drawn.Lc]
  refine Drawn.tk 10 (some 34) rfl rfl (by assumption) ?_
  try simp only [Act.put,Drawn.La,Drawn.Lb,Drawn.Lc]
  refine wpAnyH_ready (rs:=[11]) (by kernel_rfl) (by simp) ?_
  refine AllReadyH.cons rfl (fun K hK=>?_) AllReadyH.nil
  go_simp
  refine hK.out _ _ (by (try dsimp only);refine ⟨?_,?_,?_,?_,?_,?_,?_,?_⟩ <;> go_simp) (fun hHeld=>?_)
  clear hK K
  try simp only [Act.put,Drawn.La,Drawn.Lb,Drawn.Lc]
  refine wpAnyH_ready (rs:=[12]) (by kernel_rfl) (by simp) ?_
  refine AllReadyH.cons rfl (fun K hK=>?_) AllReadyH.nil
  go_simp
  refine hK.out _ _ (by (try dsimp only);refine ⟨?_,?_,?_,?_,?_,?_,?_,?_⟩ <;> go_simp) (fun hHeld=>?_)
  clear hK K
  try simp only [Act.put,Drawn.La,Drawn.Lb,Drawn.Lc]
  refine wpAnyH_done (by kernel_rfl) ?_ _
  generalize hWW : World.drew _ = W
  replace hWW:=Lib.hid hWW
  have k0 : W.cell? ⟨w2.heap.size,0,none⟩ = some (.int .i64 (op)):=by rw [← hWW.out];go_simp
  have k1 : W.cell? ⟨w2.heap.size,1,none⟩ = some (.int .i64 a):=by rw [← hWW.out];go_simp
  have k2 : W.cell? ⟨w2.heap.size,2,none⟩ = some (.int .i64 b):=by rw [← hWW.out];go_simp
  have k3 : W.cell? ⟨w2.heap.size,3,none⟩ = some (.int .i64 c):=by rw [← hWW.out];go_simp
  have k4 : W.cell? ⟨w2.heap.size,4,none⟩ = some (.int .i64 n):=by rw [← hWW.out];go_simp
  have k5 : W.cell? ⟨w2.heap.size,5,none⟩ = some (.slice aa args.length acap):=by rw [← hWW.out];go_simp
  have hbW : Below w2.heap.size w2 W:=by rw [← hWW.out];exact Rd.byB
  have hzW : w2.heap.size < W.heap.size:=cell_lt k0
  have SW:=S2.out.below hbW
  have s0:=kept hbW hrw r0
  have s1:=kept hbW hrw r1
  have sf0:=frz_kept hbW hrw rf0
  have sf1:=frz_kept hbW hrw rf1
  have e0:=SW.c0
  have e11:=SW.c11
  have ef11:=SW.fz 11 (by decide)
  have hcbW:=SW.cbw
  have hrW : w.heap.size < W.heap.size:=by omega
  have G:=Lib.hid (GW.out.trans (Gr.of_below hbW))
  replace SW:=Lib.hid SW
  clear hWW r0 r1 rf0 rf1 z0 z11 z7 u0 u1 u2 u3 u4 u5 GW hbW S2
  go_wp2_with fail
  go_at_call 184
  refine (plain FS MS (SW.out.below (by exact Rd.byB)) HO hf hl hfu hin ⟨op,a,b,c,n,args⟩ hI hop.out _ _ _).mono ?_
  rw [hac.out]
  rintro e w4 R
  cases ac with
  | go fr' h' =>
    obtain ⟨l',s',a'⟩:=fr'
    have ha' : a' = fr.at_ + 1:=hnx
    subst ha'
    obtain ⟨rfl,A⟩:=R
    obtain ⟨L4,v4,G4,S4⟩:=(LftF.before (w:=W) (by exact Rd.byB) A).opn
    have t0:=G4.cell (b:=w.heap.size) (o:=0) (v:=.int .i64 0) nr (by go_simp)
    have t1:=G4.cell (b:=w.heap.size) (o:=1) (v:=.int .i64 0) nr (by go_simp)
    have tf0:=G4.frz (b:=w.heap.size) (o:=0) (x:=false) nr (by first | omega | (simp;done) | (simp;omega)) (by go_simp)
    have tf1:=G4.frz (b:=w.heap.size) (o:=1) (x:=false) nr (by first | omega | (simp;done) | (simp;omega)) (by go_simp)
    have nr4:=G4.nf (by first | omega | (simp;done) | (simp;omega)) nr
    have GB:=Lib.hid (G.out.trans G4)
    have hrw4:=cell_lt t0
    replace S4:=Lib.hid S4
    clear A G4 s0 s1 sf0 sf1 k0 k1 k2 k3 k4 k5 e0 e11 ef11
    have e11':=S4.out.c11
    have ef11':=S4.out.fz 11 (by decide)
    have hcb':=S4.out.cbw
    go_wp2_with fail
    refine bodyPost_ret (v:=.tuple #[.agg #[.int .i64 0,.int .i64 0],.bool false]) (by simp [results,Try.results124,go_sem] <;> go_simp) rfl ?_
    obtain ⟨L8,v8,G8,S8⟩:=(S4.out.setAt (fr.at_ + 1)).opn
    exact ⟨rfl,Gr.upon HS.out (GB.out.trans G8) S8 (Nat.le_refl _) (G8.nf hrw4 nr4) _ _⟩
  | back v h'=>exact hnx.elim
  | call k x y z=>exact hnx.elim
  | thrown o h' =>
    obtain ⟨⟨older,hol,rfl⟩,st,A⟩:=R
    refine And.intro rfl ?_
    exact ⟨⟨older,hol,rfl⟩,st,G.out.comp (LftF.before (w:=W) (by exact Rd.byB) A)⟩
  | stop c2 h' =>
    obtain ⟨⟨older,hol,rfl⟩,A⟩:=R
    refine And.intro rfl ?_
    refine ⟨⟨older,hol,rfl⟩,G.out.compS ?_⟩
    obtain ⟨L5,K5,N5,H5⟩:=A
    exact ⟨L5,(Kp.of_below (B:=W.heap.size) (by exact Rd.byB) (Nat.le_refl _)).trans K5 (fun y hy=>.inl hy),fun k hk=>(N5 k hk).imp id (fun q=>Nat.le_trans (Below.size (B:=W.heap.size) (by exact Rd.byB)) q),H5⟩
end
end Hpw
end Go.Proofs.Ytncmhenfgbcihab
namespace Go.Proofs.Ytncmhenfgbcihab
open Go.RowKit
set_option linter.unusedSimpArgs false
set_option linter.unusedVariables false
namespace Hpw
open Num Rd D Run Mem HierW
section
variable {E : Ev} {w w' w1 w2 : World} {L L' L1 : Lay} {h h' h1 h2 : Hp} {d : Nat} {P : PS} {m : Me} {fr fr' fr1 : Sf} {vs vs1 : Value}
set_option maxRecDepth 100000 in
set_option maxHeartbeats 2000000 in
theorem doFuel (S : ST E w L P m d h fr vs) (hfu : E.fuel ≤ 60000) (hs : E.fuel ≤ h.steps) :
    Calls Try.prog 124 #[.pointer (some ⟨P.cb,0,none⟩)] w (DoR E L P m d vs fr w (.stop 0 h)):=by
  have HS:=Lib.hid S
  have hcb:=S.cbw
  have c0:=S.c0
  clear S
  go_enter Try.func124,Try.ntmps124
  go_wp2_with fail
  go_at_call 178
  refine (stepFull (HS.out.below (by exact Rd.byB)).H hs).mono ?_
  rintro e w2 ⟨rfl,hb2⟩
  have HB2 : Below w.heap.size w w2:=Below.trans (by exact Rd.byB) (hb2.mono Rd.byL)
  unfold pan
  refine And.intro rfl ?_
  exact ⟨Pan.one _,((Gr.of_below HB2).lft (HS.out.below HB2)).stop⟩
set_option maxRecDepth 100000 in
set_option maxHeartbeats 2000000 in
theorem doEnd (S : ST E w L P m d h fr vs) (hfu : E.fuel ≤ 60000) (hs : h.steps < E.fuel) (hi : m.code[fr.at_]? = none) :
    Calls Try.prog 124 #[.pointer (some ⟨P.cb,0,none⟩)] w (DoR E L P m d vs fr w (.stop 6 (stepped h))):=by
  have HS:=Lib.hid S
  have hcb:=S.cbw
  have hat : m.code.length ≤ fr.at_:=List.getElem?_eq_none_iff.1 hi
  obtain ⟨ica,icap,hvc,i1,i2,iel⟩:=id S.M.co
  have c7:=S.c7
  rw [hvc] at c7
  have c0:=S.c0
  have c11:=S.c11
  have nr:=S.fo_new (Nat.le_refl _)
  have nrO : ¬ own E L w.heap.size:=fun hk=>nr (.inl hk)
  have hatd : decide ((fr.at_ : Int) < m.code.length) = false:=by simpa using hat
  have HCO:=Lib.hid hvc
  clear S iel hi hvc i1 i2
  go_enter Try.func124,Try.ntmps124
  go_wp2_with (go_at_call 178;refine (stepOk (HS.out.below (by exact Rd.byB)).H hs hfu).mono ?_;rintro e w2 ⟨rfl,H2,K2⟩;have S2:=(HS.out.below (w':=w.alloc (.cells #[.int .i64 0,.int .i64 0] 118)) (by exact Rd.byB)).heap K2 same_own H2;have r0:=K2.cell (c:=w.heap.size) (o:=0) (v:=.int .i64 0) (by go_simp) nrO;have r1:=K2.cell (c:=w.heap.size) (o:=1) (v:=.int .i64 0) (by go_simp) nrO;have rf0:=K2.frz (c:=w.heap.size) (o:=0) (b:=false) (by go_simp) (by simp) nrO;have rf1:=K2.frz (c:=w.heap.size) (o:=1) (b:=false) (by go_simp) (by simp) nrO;have z0:=S2.c0;have z11:=S2.c11;have z7:=S2.c7;rw [HCO.out] at z7;have GW:=Lib.hid (show Gr E L P vs w L vs w2 from ⟨(Kp.of_below (B:=w.heap.size) (X:=fo E L P vs) (w':=w.alloc (.cells #[.int .i64 0,.int .i64 0] 118)) (by exact Rd.byB) (Nat.le_refl _)).trans K2 (fun y hy=>.inl (.inl hy)),fun _ q=>.inl q,fun _ q=>.inl q⟩);have nf2:=S2.fo_new (Nat.le_refl _);have hcb2:=S2.cbw;have hrw:=cell_lt r0;replace S2:=Lib.hid S2;clear H2 K2 c7 c0 c11)
  refine wp_region_held_drew (S:=fun w'=>w'.cell? ⟨P.cb,11,none⟩ = some (.int .i64 fr.at_) ∧ w'.cell? ⟨P.cb,7,none⟩ = some (.slice ica m.code.length icap)) (by kernel_rfl) (by (try dsimp only);refine ⟨?_,?_⟩ <;> go_simp) (fun hHeld=>?_)
  refine Drawn.tk 0 (some 12) rfl rfl (by assumption) ?_
  try simp only [Act.put,Drawn.La,Drawn.Lb,Drawn.Lc]
  refine Drawn.tk 1 (some 13) rfl rfl (by assumption) ?_
  try simp only [Act.put,Drawn.La,Drawn.Lb,Drawn.Lc]
  refine Drawn.tk 2 (some 14) rfl rfl (by assumption) ?_
  try simp only [Act.put,Drawn.La,Drawn.Lb,Drawn.Lc]
  refine Drawn.tk 3 (some 15) rfl rfl (by assumption) ?_
  try simp only [Act.put,Drawn.La,Drawn.Lb,Drawn.Lc]
  refine Drawn.tk 4 (some 16) rfl rfl (by assumption) ?_
  try simp only [Act.put,Drawn.La,Drawn.Lb,Drawn.Lc]
  refine Drawn.tk 5 (some 17) rfl rfl (by assumption) ?_
  try simp only [Act.put,Drawn.La,Drawn.Lb,Drawn.Lc]
  refine Drawn.tk 6 (some 18) rfl rfl (by assumption) ?_
  try simp only [Act.put,Drawn.La,Drawn.Lb,Drawn.Lc]
  refine Drawn.tk 7 (some 19) rfl rfl (by assumption) ?_
  try simp only [Act.put,Drawn.La,Drawn.Lb,Drawn.Lc]
  refine Drawn.tk 8 (some 20) rfl rfl (by assumption) ?_
  try simp only [Act.put,Drawn.La,Drawn.Lb,Drawn.Lc]
  refine Drawn.tk 9 (some 21) rfl rfl (by assumption) ?_
  try simp only [Act.put,Drawn.La,Drawn.Lb,Drawn.Lc]
  refine Drawn.tk 10 (some 22) rfl rfl (by assumption) ?_
  try simp only [Act.put,Drawn.La,Drawn.Lb,Drawn.Lc]
  refine wpAnyH_ready (rs:=[11]) (by kernel_rfl) (by simp) ?_
  refine AllReadyH.cons rfl (fun K hK=>?_) AllReadyH.nil
  go_simp
  have hati : ¬ (fr.at_ : Int) < m.code.length:=by omega
  have hatn : ¬ fr.at_ < m.code.length:=by omega
  try simp only [hati,hatn,decide_false]
  refine (mustF _).mono ?_
  rintro e w3 ⟨rfl,rfl⟩
  go_wp2_with fail
  refine And.intro rfl ?_
  exact ⟨Pan.one _,((GW.out.trans (Gr.of_below (by exact Rd.byB))).lft (S2.out.below (by exact Rd.byB))).stop⟩
end
end Hpw
end Go.Proofs.Ytncmhenfgbcihab
namespace Go.Proofs.Ytncmhenfgbcihab
open Go.RowKit
set_option linter.unusedSimpArgs false
set_option linter.unusedVariables false
namespace Hpw
open Num Rd D Run Mem HierW
def InvR (E : Ev) (L : Lay) (d : Nat) (w : World) (r : Res Vl) (e : Ending) (w' : World) : Prop:=match r with
  | .ok v h=>e = .returned (vl v) ∧ Lft E L d w w' h
  | .thrown o h=>Pan (thrownV o) e ∧ Lft E L d w w' h
  | .stop c h=>Pan (stopV c) e ∧ Lft E L d w w' h
def InvOk (E : Ev) (d g : Nat) (h : Hp) : Prop:=∀ (k : Nat) (args : List Vl) (h1 : Hp),k < E.f.methods.length → HpOk E.f.classes E.input E.fuel h1 → h1.steps = h.steps → (∀ v ∈ args,VtOk h1.objs.length v) → args.length = (meAt E.f k).params.length →
  ∀ (L : Lay) (W : World) (mv va : Value) (X : Nat → Prop),PH E W L h1 d → VMe W E.B mv (meAt E.f k) → VS W X va args → (∀ j,own E L j → X j) → Calls Try.prog 64 #[.pointer (some ⟨E.hb,0,none⟩),mv,va] W (InvR E L d W (call SM E.f E.input E.fuel g d (meAt E.f k) args h1))
section
variable {E : Ev} {w w' w1 w2 : World} {L L' L1 : Lay} {h h' h1 h2 : Hp} {d : Nat} {P : PS} {m m2 : Me} {fr fr' fr1 : Sf} {vs vs1 : Value}
theorem callA_ok0 {v : Vl} (hk : m2.ret.kind = 0) : oA (callA m m2 fr (.ok v h)) = .go ⟨fr.loc,fr.stk,fr.at_ + 1⟩ h:=by
  simp [callA,sresume,hk,oA,on]
theorem callA_ok1 {v : Vl} (hk : m2.ret.kind ≠ 0) : oA (callA m m2 fr (.ok v h)) = oA (push m fr fr.stk v h):=by
  simp only [callA,sresume,if_neg hk,push]
  split <;> rename_i q
  · split at q
    · cases q
    · rename_i q2;rw [if_neg q2]
  · split at q
    · rename_i q2;rw [if_pos q2];cases q;rfl
    · cases q
theorem vcells_repP : ∀ n : Nat,vcells (List.replicate n Vl.nil) = List.replicate (n * 2) (.int .i64 0):=by
  intro n
  induction n with
  | zero=>rfl
  | succ n ih=>rw [show (n + 1) * 2 = n * 2 + 1 + 1 by omega,List.replicate_succ,List.replicate_succ,List.replicate_succ,← ih];rfl
theorem mkValsP (n : Nat) (hn : n ≤ 1000) (w : World) : ∃ w',(Instr.makeSlice 114 (.int .i64 (n : Int)) (.int .i64 (n : Int))).run Try.prog w = .ok (.slice (some ⟨w.heap.size,0,none⟩) n n) w' ∧ Blk w' w.heap.size (vcells (List.replicate n Vl.nil)) ∧ Below w.heap.size w w' ∧ w.heap.size < w'.heap.size:=by
  obtain ⟨i,hi,hz,h1,h2⟩:=info_parts info_valP
  obtain ⟨w',hrun,hown,hg⟩:=run_make_full (P:=Try.prog) (w:=w) w.heap.size 114 118 i (.agg #[.int .i64 0,.int .i64 0]) 2 Try.underlying114 hi hz h1 .i64 .i64 n (by rw [h2];omega) (by unfold maxLen;omega) (Nat.le_refl _)
  refine ⟨w',hrun,fun j hj=>?_,?_,(World.ownsRow.lt hown _ rfl).2⟩
  · have hj2 : (madeCells (Value.agg #[.int .i64 0, .int .i64 0]).cells (n * 2)).toList[j]? = some ((vcells (List.replicate n Vl.nil))[j]) := by
      have hl : j < n * 2:=by rw [vcells_len,List.length_replicate] at hj;exact hj
      have e2 : (vcells (List.replicate n Vl.nil))[j] = .int .i64 0:=by
        have:=vcells_repP n
        simp only [this,List.getElem_replicate]
      rw [e2]
      have e3 : (j % 2 = 0) ∨ (j % 2 = 1):=by omega
      rcases e3 with e3 | e3 <;> simp [madeCells,Value.cells,hl,e3]
    exact ⟨row_cell hown hj2,row_free hown⟩
  · exact (Kp.of_grown (X:=fun _=>False) hg (fun k e=>by cases e)).below (Nat.le_refl _) (fun _ e=>e.elim)
theorem rowStep (l : List Vl) (k q : Nat) (hq : q < l.length) : (List.replicate (k + 1) Vl.nil ++ l.drop (q + 1)).set k (l.getD q Vl.nil) = List.replicate k Vl.nil ++ l.drop q:=by
  rw [List.set_append_left _ _ (by simp),List.replicate_succ',List.set_append_right _ _ (by simp)]
  simp only [List.length_replicate,Nat.sub_self,List.set_cons_zero,List.append_assoc]
  rw [List.drop_eq_getElem_cons hq]
  simp [List.getD_eq_getElem?_getD,hq]
theorem top_take (l : List Vl) (q : Nat) (hq : q < l.length) : l.take (q + 1) ≠ [] ∧ top (l.take (q + 1)) = l.getD q Vl.nil ∧ (l.take (q + 1)).dropLast = l.take q:=by
  have e : l.take (q + 1) = l.take q ++ [l.getD q Vl.nil]:=by
    rw [List.take_add_one,List.getD_eq_getElem?_getD,List.getElem?_eq_getElem hq];rfl
  refine ⟨by rw [e];simp,?_,by rw [e,List.dropLast_concat]⟩
  rw [e];unfold top;simp
def CalRel (E : Ev) (L : Lay) (P : PS) (m : Me) (d : Nat) (h : Hp) (fr : Sf) (vs : Value) (w : World) (N k : Nat) (mv : List Value) (wr : World) : Prop :=
  ∃ L1 vs1,Gr E L P vs w L1 vs1 wr ∧ ST E wr L1 P m d h ⟨fr.loc,fr.stk.take (fr.stk.length + k - N),fr.at_⟩ vs1 ∧ Blk wr w.heap.size mv ∧ Blk wr (w.heap.size + 1) (vcells (List.replicate k Vl.nil ++ fr.stk.drop (fr.stk.length + k - N))) ∧ ¬ fo E L1 P vs1 w.heap.size ∧ ¬ fo E L1 P vs1 (w.heap.size + 1) ∧ w.heap.size + 1 < wr.heap.size
end
end Hpw
end Go.Proofs.Ytncmhenfgbcihab
namespace Go.Proofs.Ytncmhenfgbcihab
open Go.RowKit
set_option linter.unusedSimpArgs false
set_option linter.unusedVariables false
namespace Hpw
open Num Rd D Run Mem HierW
section
variable {E : Ev} {w w' w1 w2 : World} {L L' L1 : Lay} {h h' h1 h2 : Hp} {d : Nat} {P : PS} {m m2 : Me} {fr fr' fr1 : Sf} {vs vs1 : Value}
theorem Gr.over (G : Gr E L P vs w L1 vs1 w1) {b : Nat} (h1 : w.heap.size ≤ b) (i j : Nat) (x y : Value) : Gr E L P vs w L1 vs1 ((w1.setCell ⟨b,i,none⟩ x).setCell ⟨b,j,none⟩ y):=⟨(G.kp.setCell (p:=⟨b,i,none⟩) (.inr h1) x).setCell (p:=⟨b,j,none⟩) (.inr h1) y,G.ow,G.st⟩
set_option maxRecDepth 100000 in
set_option maxHeartbeats 4000000 in
theorem calledP (S : ST E w L P m d h fr vs) (HO : HpOk E.f.classes E.input E.fuel h) (hf : SfOk m h.objs.length fr) (hl : fr.stk.length ≤ 40) (k : Nat) (hk : k < E.f.methods.length) (hm2 : meAt E.f k = m2) (h4 : m2.params.length ≤ 4) (g : Nat) (HI : InvOk E d g h) (hmany : E.f.methods.length ≤ 8) :
    Calls Try.prog 182 #[.pointer (some ⟨P.cb,0,none⟩),.int .i64 (k : Int)] w (PlR E L P m d vs fr (.tuple #[]) w (if fr.stk.length < m2.params.length then .stop 6 h else oA (callA m m2 ⟨fr.loc,fr.stk.take (fr.stk.length - m2.params.length),fr.at_⟩ (call SM E.f E.input E.fuel g d m2 (fr.stk.drop (fr.stk.length - m2.params.length)) h)))):=by
  obtain ⟨act,hact⟩ : ∃ act,Hid ((if fr.stk.length < m2.params.length then .stop 6 h else oA (callA m m2 ⟨fr.loc,fr.stk.take (fr.stk.length - m2.params.length),fr.at_⟩ (call SM E.f E.input E.fuel g d m2 (fr.stk.drop (fr.stk.length - m2.params.length)) h))) = act):=⟨_,Lib.hid rfl⟩
  rw [hact.out]
  have HS:=Lib.hid S
  have HIV:=Lib.hid HI
  have hcb:=S.cbw
  have hB:=S.base
  have nf:=S.fo_new (Nat.le_refl _)
  have c0:=S.c0
  have c1:=S.H.c1
  have hhb:=S.H.hbw
  obtain ⟨ma,mcap,hvm,q1,q2,mel⟩:=S.H.mes
  obtain ⟨mb,mo,rfl,hmb,hme⟩:=mel k hk
  have em : E.f.methods[k] = m2:=by rw [← hm2];unfold meAt;rw [List.getD_eq_getElem?_getD,List.getElem?_eq_getElem hk];rfl
  rw [em] at hme
  obtain ⟨vp,vc,vh,x0,x1,x2,x3,x4,x5,x6,x7,oks,sps,sco,shs⟩:=hme
  have hVM : VMe w E.B (.agg #[vp,.int .i64 m2.ret.kind,.int .i64 m2.ret.cls,.int .i64 m2.stack,.int .i64 m2.locals,.int .i64 m2.regs,vc,vh]) m2:=⟨vp,vc,vh,rfl,oks,sps,sco,shs⟩
  obtain ⟨pa,pcap,rfl,p1,p2,pel⟩:=id sps
  obtain ⟨ca,ccap,rfl,p3,p4,pel2⟩:=id sco
  obtain ⟨ha,hcap,rfl,p5,p6,pel3⟩:=id shs
  rw [hvm] at c1
  have hbm:=Nat.lt_of_lt_of_le hmb hB
  have hkl : (k : Int) < E.f.methods.length:=by omega
  have HVM:=Lib.hid hVM
  obtain ⟨w2,hrun,hblk,hbel,hlt⟩:=mkValsP m2.params.length (by omega) (w.alloc (.cells #[.slice pa m2.params.length pcap,.int .i64 m2.ret.kind,.int .i64 m2.ret.cls,.int .i64 m2.stack,.int .i64 m2.locals,.int .i64 m2.regs,.slice ca m2.code.length ccap,.slice ha m2.handlers.length hcap] 55))
  have hs : (w.alloc (.cells #[.slice pa m2.params.length pcap,.int .i64 m2.ret.kind,.int .i64 m2.ret.cls,.int .i64 m2.stack,.int .i64 m2.locals,.int .i64 m2.regs,.slice ca m2.code.length ccap,.slice ha m2.handlers.length hcap] 55)).heap.size = w.heap.size + 1:=by simp
  rw [hs] at hblk hlt hrun hbel
  have hbk0 : Blk w2 w.heap.size [.slice pa m2.params.length pcap,.int .i64 m2.ret.kind,.int .i64 m2.ret.cls,.int .i64 m2.stack,.int .i64 m2.locals,.int .i64 m2.regs,.slice ca m2.code.length ccap,.slice ha m2.handlers.length hcap]:=(Blk.made w [.slice pa m2.params.length pcap,.int .i64 m2.ret.kind,.int .i64 m2.ret.cls,.int .i64 m2.stack,.int .i64 m2.locals,.int .i64 m2.regs,.slice ca m2.code.length ccap,.slice ha m2.handlers.length hcap] 55).next (Kp.of_below (X:=fun _=>False) hbel (Nat.le_of_eq hs)) (fun e=>e)
  have hb2 : Below w.heap.size w w2:=Below.trans (by exact Rd.byB) (hbel.mono (by omega))
  have CR0 : Hid (CalRel E L P m d h fr vs w m2.params.length m2.params.length [.slice pa m2.params.length pcap,.int .i64 m2.ret.kind,.int .i64 m2.ret.cls,.int .i64 m2.stack,.int .i64 m2.locals,.int .i64 m2.regs,.slice ca m2.code.length ccap,.slice ha m2.handlers.length hcap] w2):=by
    refine ⟨L,vs,Gr.of_below hb2,?_,hbk0,?_,nf,S.fo_new (Nat.le_succ _),hlt⟩
    · rw [Nat.add_sub_cancel,List.take_length];exact S.below hb2
    · rw [Nat.add_sub_cancel,List.drop_length,List.append_nil];exact hblk
  have hwr : IntKind.i64.wrap ((m2.params.length : Int) - 1) = (m2.params.length : Int) - 1:=by rw [Num.wrap_i64,wrap64_id (by unfold Ok;omega)]
  clear S HI q1 q2 mel em oks sps sco shs hVM p1 p2 pel p3 p4 pel2 p5 p6 pel3 hblk hbel hbk0 hs
  go_enter Try.func182,Try.ntmps182
  go_wp2_with fail
  go_loopw [6] (fun i wr=>∃ k' : Nat,i = .int .i64 ((k' : Int) - 1) ∧ k' ≤ m2.params.length ∧ m2.params.length ≤ fr.stk.length + k' ∧ CalRel E L P m d h fr vs w m2.params.length k' [.slice pa m2.params.length pcap,.int .i64 m2.ret.kind,.int .i64 m2.ret.cls,.int .i64 m2.stack,.int .i64 m2.locals,.int .i64 m2.regs,.slice ca m2.code.length ccap,.slice ha m2.handlers.length hcap] wr) (fun i _=>(intOf i + 1).toNat)
  case atStart=>exact ⟨m2.params.length,by first | rfl | go_num,Nat.le_refl _,by omega,CR0.out⟩
  case round =>
    obtain ⟨k',rfl,hkn,hkl2,L1,v1,G1,S1,B0,B1,nf0,nf1,hsz⟩:=hrel
    have BB0:=Lib.hid B0
    have BB1:=Lib.hid B1
    have GG1:=Lib.hid G1
    clear CR0 B0 B1 G1 hwr c0 c1 x0 x1 x2 x3 x4 x5 x6 x7
    have z0:=S1.c0
    have hcb1:=S1.cbw
    cases k' with
    | zero =>
      have ek : (((0 : Nat) : Int) - 1) = -1:=rfl
      rw [ek]
      obtain ⟨q,hq⟩ : ∃ q,Hid (fr.stk.length - m2.params.length = q):=⟨_,Lib.hid rfl⟩
      have hq' : fr.stk.length - m2.params.length = q:=hq.out
      have hq0 : fr.stk.length + 0 - m2.params.length = q:=hq'
      have hbb:=BB1.out
      rw [hq0] at S1 hbb
      rw [List.replicate_zero,List.nil_append] at hbb
      have hlen : (fr.stk.drop q).length = m2.params.length:=by rw [List.length_drop];omega
      have hV:=VS.of_blk (X:=Hpw.fo E L1 P v1) (cap:=m2.params.length) hbb nf1 (by omega) (by omega)
      rw [hlen] at hV
      have HIK:=HIV.out k (fr.stk.drop q) h hk HO rfl (fun v hv=>hf.stk v (List.mem_of_mem_drop hv)) (by rw [hm2];exact hlen)
      rw [hm2] at HIK
      obtain ⟨r,hr⟩ : ∃ r,Hid (call SM E.f E.input E.fuel g d m2 (fr.stk.drop q) h = r):=⟨_,Lib.hid rfl⟩
      rw [hr.out] at HIK
      have EA : Hid (act = oA (callA m m2 ⟨fr.loc,fr.stk.take q,fr.at_⟩ r)):=by
        show _ = _
        rw [← hact.out,if_neg (by omega),hq',hr.out]
      have hEB1:=S1.base
      have hsz0 : w.heap.size < wr.heap.size:=by omega
      have hbw1:=HS.out.bel GG1.out.kp
      have HK:=Lib.hid HIK
      have HV:=Lib.hid hV
      have HBW:=Lib.hid hbw1
      have b0:=(BB0.out 0 (by simp)).1
      have b1:=(BB0.out 1 (by simp)).1
      have b2:=(BB0.out 2 (by simp)).1
      have b3:=(BB0.out 3 (by simp)).1
      have b4:=(BB0.out 4 (by simp)).1
      have b5:=(BB0.out 5 (by simp)).1
      have b6:=(BB0.out 6 (by simp)).1
      have b7:=(BB0.out 7 (by simp)).1
      simp only [List.getElem_cons_zero,List.getElem_cons_succ] at b0
      simp only [List.getElem_cons_zero,List.getElem_cons_succ] at b1
      simp only [List.getElem_cons_zero,List.getElem_cons_succ] at b2
      simp only [List.getElem_cons_zero,List.getElem_cons_succ] at b3
      simp only [List.getElem_cons_zero,List.getElem_cons_succ] at b4
      simp only [List.getElem_cons_zero,List.getElem_cons_succ] at b5
      simp only [List.getElem_cons_zero,List.getElem_cons_succ] at b6
      simp only [List.getElem_cons_zero,List.getElem_cons_succ] at b7
      have nf7:=S1.fo_new (Nat.le_refl _)
      replace S1:=Lib.hid S1
      clear HIK hV hbw1 hq hq' hq0 hbb hlen BB1 HIV
      go_wp2_with fail
      refine wp_region_held_drew (S:=fun w'=>w'.cell? ⟨P.cb,0,none⟩ = some (.pointer (some ⟨E.hb,0,none⟩)) ∧ w'.cell? ⟨w.heap.size,0,none⟩ = some (.slice pa m2.params.length pcap) ∧ w'.cell? ⟨w.heap.size,1,none⟩ = some (.int .i64 m2.ret.kind) ∧ w'.cell? ⟨w.heap.size,2,none⟩ = some (.int .i64 m2.ret.cls) ∧ w'.cell? ⟨w.heap.size,3,none⟩ = some (.int .i64 m2.stack) ∧ w'.cell? ⟨w.heap.size,4,none⟩ = some (.int .i64 m2.locals) ∧ w'.cell? ⟨w.heap.size,5,none⟩ = some (.int .i64 m2.regs) ∧ w'.cell? ⟨w.heap.size,6,none⟩ = some (.slice ca m2.code.length ccap) ∧ w'.cell? ⟨w.heap.size,7,none⟩ = some (.slice ha m2.handlers.length hcap)) (by kernel_rfl) (by (try dsimp only);refine ⟨?_,?_,?_,?_,?_,?_,?_,?_,?_⟩ <;> go_simp) (fun hHeld=>?_)
      refine Drawn.tk 0 (some 35) rfl rfl (by assumption) ?_
      try simp only [Act.put,Drawn.La,Drawn.Lb,Drawn.Lc]
      refine Drawn.tk 1 (some 36) rfl rfl (by assumption) ?_
      try simp only [Act.put,Drawn.La,Drawn.Lb,Drawn.Lc]
      refine Drawn.tk 2 (some 37) rfl rfl (by assumption) ?_
      try simp only [Act.put,Drawn.La,Drawn.Lb,Drawn.Lc]
      refine Drawn.tk 3 (some 38) rfl rfl (by assumption) ?_
      try simp only [Act.put,Drawn.La,Drawn.Lb,Drawn.Lc]
      refine Drawn.tk 4 (some 39) rfl rfl (by assumption) ?_
      try simp only [Act.put,Drawn.La,Drawn.Lb,Drawn.Lc]
      refine Drawn.tk 5 (some 40) rfl rfl (by assumption) ?_
      try simp only [Act.put,Drawn.La,Drawn.Lb,Drawn.Lc]
      refine wpAnyH_ready (rs:=[6,7]) (by kernel_rfl) (by simp) ?_
      refine AllReadyH.cons rfl (fun K hK=>?_) (AllReadyH.cons rfl (fun K hK=>?_) AllReadyH.nil)
      · go_simp
        go_at_call 64
        refine (HK.out L1 _ _ _ (Hpw.fo E L1 P v1) (S1.out.below (by exact Rd.byB)).H (HVM.out.mono (HBW.out.trans (Below.mono (B:=wr.heap.size) (by exact Rd.byB) hEB1)) (Nat.le_refl _)) (HV.out.next (Kp.of_below (B:=wr.heap.size) (X:=fun _=>False) (by exact Rd.byB) (Nat.le_refl _)) (fun _ _ e=>e.elim) (fun _ _ e=>e)) (fun _ e=>.inl e)).mono ?_
        rintro e w5 R
        cases r with
        | thrown o h2 =>
          obtain ⟨⟨older,hol,rfl⟩,A⟩:=R
          obtain ⟨L5,G5,S5⟩:=Gr.of_heap A (S1.out.below (by exact Rd.byB))
          refine And.intro rfl ?_
          rw [EA.out]
          exact ⟨⟨older,hol,rfl⟩,_,((GG1.out.trans (Gr.of_below (by exact Rd.byB))).trans G5).lft S5⟩
        | stop c2 h2 =>
          obtain ⟨⟨older,hol,rfl⟩,A⟩:=R
          obtain ⟨L5,G5,S5⟩:=Gr.of_heap A (S1.out.below (by exact Rd.byB))
          refine And.intro rfl ?_
          rw [EA.out]
          exact ⟨⟨older,hol,rfl⟩,(((GG1.out.trans (Gr.of_below (by exact Rd.byB))).trans G5).lft S5).stop⟩
        | ok v h2 =>
          obtain ⟨vk,vn⟩:=v
          obtain ⟨rfl,A⟩:=R
          obtain ⟨L5,G5,S5⟩:=Gr.of_heap A (S1.out.below (by exact Rd.byB))
          have y9:=S5.c0
          have y0:=G5.cell (b:=w.heap.size) (o:=0) (v:=.slice pa m2.params.length pcap) nf0 (by go_simp)
          have y1:=G5.cell (b:=w.heap.size) (o:=1) (v:=.int .i64 m2.ret.kind) nf0 (by go_simp)
          have y2:=G5.cell (b:=w.heap.size) (o:=2) (v:=.int .i64 m2.ret.cls) nf0 (by go_simp)
          have y3:=G5.cell (b:=w.heap.size) (o:=3) (v:=.int .i64 m2.stack) nf0 (by go_simp)
          have y4:=G5.cell (b:=w.heap.size) (o:=4) (v:=.int .i64 m2.locals) nf0 (by go_simp)
          have y5:=G5.cell (b:=w.heap.size) (o:=5) (v:=.int .i64 m2.regs) nf0 (by go_simp)
          have y6:=G5.cell (b:=w.heap.size) (o:=6) (v:=.slice ca m2.code.length ccap) nf0 (by go_simp)
          have y7:=G5.cell (b:=w.heap.size) (o:=7) (v:=.slice ha m2.handlers.length hcap) nf0 (by go_simp)
          have GC:=Lib.hid ((GG1.out.trans (Gr.of_below (by exact Rd.byB))).trans G5)
          have hcb5:=S5.cbw
          have lt5:=cell_lt y0
          have hB5:=S5.base
          replace S5:=Lib.hid S5
          clear A G5 b0 b1 b2 b3 b4 b5 b6 b7 z0
          unfold vl
          go_wp2_with fail
          refine hK.out _ _ (by (try dsimp only);refine ⟨?_,?_,?_,?_,?_,?_,?_,?_,?_⟩ <;> go_simp) (fun hHeld=>?_)
          clear hK K
          try simp only [Act.put,Drawn.La,Drawn.Lb,Drawn.Lc]
          refine wpAnyH_ready (rs:=[7]) (by kernel_rfl) (by simp) ?_
          refine AllReadyH.cons rfl (fun K hK=>?_) AllReadyH.nil
          go_simp
          refine hK.out _ _ (by (try dsimp only);refine ⟨?_,?_,?_,?_,?_,?_,?_,?_,?_⟩ <;> go_simp) (fun hHeld=>?_)
          clear hK K
          try simp only [Act.put,Drawn.La,Drawn.Lb,Drawn.Lc]
          refine wpAnyH_ready (rs:=[8]) (by kernel_rfl) (by simp) ?_
          refine AllReadyH.cons rfl (fun K hK=>?_) AllReadyH.nil
          go_simp
          refine hK.out _ _ (by (try dsimp only);refine ⟨?_,?_,?_,?_,?_,?_,?_,?_,?_⟩ <;> go_simp) (fun hHeld=>?_)
          clear hK K
          try simp only [Act.put,Drawn.La,Drawn.Lb,Drawn.Lc]
          refine wpAnyH_done (by kernel_rfl) ?_ _
          generalize hWW : World.alloc w5 _ = W
          replace hWW:=Lib.hid hWW
          have u1 : W.cell? ⟨w.heap.size,1,none⟩ = some (.int .i64 m2.ret.kind):=by rw [← hWW.out];go_simp
          have t0 : W.cell? ⟨w5.heap.size,0,none⟩ = some (.int .i64 vk):=by rw [← hWW.out];go_simp
          have t1 : W.cell? ⟨w5.heap.size,1,none⟩ = some (.int .i64 vn):=by rw [← hWW.out];go_simp
          have GD:=Lib.hid (Gr.trans GC.out (Gr.of_below (w1:=W) (by rw [← hWW.out];exact Rd.byB)))
          have SD:=Lib.hid (ST.below (w':=W) S5.out (by rw [← hWW.out];exact Rd.byB))
          clear hWW y0 y1 y2 y3 y4 y5 y6 y7 y9
          by_cases hrk : m2.ret.kind = 0
          · have hrb : (m2.ret.kind == 0) = true:=by simpa using hrk
            go_wp2_with fail
            go_end0
            rw [EA.out,callA_ok0 hrk]
            exact ⟨rfl,GD.out.lft SD.out⟩
          · have hrb : (m2.ret.kind == 0) = false:=by simpa using hrk
            go_wp2_with fail
            go_at_call 185
            refine (put SD.out ⟨vk,vn⟩ (by simp only [List.length_take];omega)).mono ?_
            rintro e w9 (⟨q9,rfl,A⟩ | ⟨q9,rfl,A⟩)
            · go_wp2
              go_end0
              rw [EA.out,callA_ok1 hrk]
              exact plr_yes (fr:=fr) q9 A GD.out
            · unfold pan
              refine And.intro rfl ?_
              rw [EA.out,callA_ok1 hrk]
              exact plr_no (fr:=fr) q9 A GD.out
      · go_simp
        refine hK.out _ _ (by (try dsimp only);refine ⟨?_,?_,?_,?_,?_,?_,?_,?_,?_⟩ <;> go_simp) (fun hHeld=>?_)
        clear hK K
        try simp only [Act.put,Drawn.La,Drawn.Lb,Drawn.Lc]
        refine wpAnyH_ready (rs:=[6]) (by kernel_rfl) (by simp) ?_
        refine AllReadyH.cons rfl (fun K hK=>?_) AllReadyH.nil
        go_simp
        go_at_call 64
        refine (HK.out L1 _ _ _ (Hpw.fo E L1 P v1) (S1.out.below (by exact Rd.byB)).H (HVM.out.mono (HBW.out.trans (Below.mono (B:=wr.heap.size) (by exact Rd.byB) hEB1)) (Nat.le_refl _)) (HV.out.next (Kp.of_below (B:=wr.heap.size) (X:=fun _=>False) (by exact Rd.byB) (Nat.le_refl _)) (fun _ _ e=>e.elim) (fun _ _ e=>e)) (fun _ e=>.inl e)).mono ?_
        rintro e w5 R
        cases r with
        | thrown o h2 =>
          obtain ⟨⟨older,hol,rfl⟩,A⟩:=R
          obtain ⟨L5,G5,S5⟩:=Gr.of_heap A (S1.out.below (by exact Rd.byB))
          refine And.intro rfl ?_
          rw [EA.out]
          exact ⟨⟨older,hol,rfl⟩,_,((GG1.out.trans (Gr.of_below (by exact Rd.byB))).trans G5).lft S5⟩
        | stop c2 h2 =>
          obtain ⟨⟨older,hol,rfl⟩,A⟩:=R
          obtain ⟨L5,G5,S5⟩:=Gr.of_heap A (S1.out.below (by exact Rd.byB))
          refine And.intro rfl ?_
          rw [EA.out]
          exact ⟨⟨older,hol,rfl⟩,(((GG1.out.trans (Gr.of_below (by exact Rd.byB))).trans G5).lft S5).stop⟩
        | ok v h2 =>
          obtain ⟨vk,vn⟩:=v
          obtain ⟨rfl,A⟩:=R
          obtain ⟨L5,G5,S5⟩:=Gr.of_heap A (S1.out.below (by exact Rd.byB))
          have y9:=S5.c0
          have y0:=G5.cell (b:=w.heap.size) (o:=0) (v:=.slice pa m2.params.length pcap) nf0 (by go_simp)
          have y1:=G5.cell (b:=w.heap.size) (o:=1) (v:=.int .i64 m2.ret.kind) nf0 (by go_simp)
          have y2:=G5.cell (b:=w.heap.size) (o:=2) (v:=.int .i64 m2.ret.cls) nf0 (by go_simp)
          have y3:=G5.cell (b:=w.heap.size) (o:=3) (v:=.int .i64 m2.stack) nf0 (by go_simp)
          have y4:=G5.cell (b:=w.heap.size) (o:=4) (v:=.int .i64 m2.locals) nf0 (by go_simp)
          have y5:=G5.cell (b:=w.heap.size) (o:=5) (v:=.int .i64 m2.regs) nf0 (by go_simp)
          have y6:=G5.cell (b:=w.heap.size) (o:=6) (v:=.slice ca m2.code.length ccap) nf0 (by go_simp)
          have y7:=G5.cell (b:=w.heap.size) (o:=7) (v:=.slice ha m2.handlers.length hcap) nf0 (by go_simp)
          have e70:=G5.frz (b:=wr.heap.size) (o:=0) (x:=false) nf7 (by simp) (by go_simp)
          have e71:=G5.frz (b:=wr.heap.size) (o:=1) (x:=false) nf7 (by simp) (by go_simp)
          have e72:=G5.cell (b:=wr.heap.size) (o:=0) (v:=.int .i64 0) nf7 (by go_simp)
          have e73:=G5.cell (b:=wr.heap.size) (o:=1) (v:=.int .i64 0) nf7 (by go_simp)
          have nf75:=G5.nf (by simp) nf7
          have e7c:=cell_lt e72
          have n71 : P.cb ≠ wr.heap.size:=by omega
          have n72 : wr.heap.size ≠ P.cb:=by omega
          have n73 : w.heap.size ≠ wr.heap.size:=by omega
          have n74 : wr.heap.size ≠ w.heap.size:=by omega
          have GC:=Lib.hid ((GG1.out.trans (Gr.of_below (by exact Rd.byB))).trans G5)
          have hcb5:=S5.cbw
          have lt5:=cell_lt y0
          have hB5:=S5.base
          replace S5:=Lib.hid S5
          clear A G5 b0 b1 b2 b3 b4 b5 b6 b7 z0
          unfold vl
          go_wp2_with fail
          refine hK.out _ _ (by (try dsimp only);refine ⟨?_,?_,?_,?_,?_,?_,?_,?_,?_⟩ <;> go_simp) (fun hHeld=>?_)
          clear hK K
          try simp only [Act.put,Drawn.La,Drawn.Lb,Drawn.Lc]
          refine wpAnyH_ready (rs:=[8]) (by kernel_rfl) (by simp) ?_
          refine AllReadyH.cons rfl (fun K hK=>?_) AllReadyH.nil
          go_simp
          refine hK.out _ _ (by (try dsimp only);refine ⟨?_,?_,?_,?_,?_,?_,?_,?_,?_⟩ <;> go_simp) (fun hHeld=>?_)
          clear hK K
          try simp only [Act.put,Drawn.La,Drawn.Lb,Drawn.Lc]
          refine wpAnyH_done (by kernel_rfl) ?_ _
          generalize hWW : (w5.setCell ⟨wr.heap.size,0,none⟩ (.int .i64 vk)).setCell ⟨wr.heap.size,1,none⟩ (.int .i64 vn) = W
          replace hWW:=Lib.hid hWW
          have u1 : W.cell? ⟨w.heap.size,1,none⟩ = some (.int .i64 m2.ret.kind):=by rw [← hWW.out];go_simp
          have t0 : W.cell? ⟨wr.heap.size,0,none⟩ = some (.int .i64 vk):=by rw [← hWW.out];go_simp
          have t1 : W.cell? ⟨wr.heap.size,1,none⟩ = some (.int .i64 vn):=by rw [← hWW.out];go_simp
          have GD:=Lib.hid (Gr.trans (GC.out.over (b:=wr.heap.size) (by omega) 0 1 (.int .i64 vk) (.int .i64 vn)) (Gr.of_below (w1:=W) (by rw [← hWW.out];exact Rd.byB)))
          have SD:=Lib.hid (ST.below (w':=W) ((S5.out.res (b:=wr.heap.size) (by omega) nf75 0 (.int .i64 vk)).res (by omega) nf75 1 (.int .i64 vn)) (by rw [← hWW.out];exact Rd.byB))
          clear hWW y0 y1 y2 y3 y4 y5 y6 y7 y9
          by_cases hrk : m2.ret.kind = 0
          · have hrb : (m2.ret.kind == 0) = true:=by simpa using hrk
            go_wp2_with fail
            go_end0
            rw [EA.out,callA_ok0 hrk]
            exact ⟨rfl,GD.out.lft SD.out⟩
          · have hrb : (m2.ret.kind == 0) = false:=by simpa using hrk
            go_wp2_with fail
            go_at_call 185
            refine (put SD.out ⟨vk,vn⟩ (by simp only [List.length_take];omega)).mono ?_
            rintro e w9 (⟨q9,rfl,A⟩ | ⟨q9,rfl,A⟩)
            · go_wp2
              go_end0
              rw [EA.out,callA_ok1 hrk]
              exact plr_yes (fr:=fr) q9 A GD.out
            · unfold pan
              refine And.intro rfl ?_
              rw [EA.out,callA_ok1 hrk]
              exact plr_no (fr:=fr) q9 A GD.out
    | succ k' =>
      have ek : (((k' + 1 : Nat) : Int) - 1) = (k' : Int):=by omega
      rw [ek]
      by_cases hn : m2.params.length = fr.stk.length + k' + 1
      · have ha0 : fr.stk.length + (k' + 1) - m2.params.length = 0:=by omega
        rw [ha0] at S1
        replace S1:=Lib.hid S1
        go_wp2_with fail
        go_at_call 179
        refine (anyNo S1.out (by simp)).mono ?_
        rintro e w3 ⟨rfl,hb3⟩
        unfold pan
        refine And.intro rfl ?_
        have e6 : act = .stop 6 h:=by rw [← hact.out,if_pos (by omega)]
        rw [e6]
        exact plr_stuck (GG1.out.trans (Gr.of_below hb3)) (S1.out.below hb3)
      · obtain ⟨q,hq⟩ : ∃ q,Hid (fr.stk.length + k' - m2.params.length = q):=⟨_,Lib.hid rfl⟩
        have hq' : fr.stk.length + k' - m2.params.length = q:=hq.out
        have hqs : fr.stk.length + (k' + 1) - m2.params.length = q + 1:=by omega
        have hql : q < fr.stk.length:=by omega
        rw [hqs] at S1
        have hbb:=BB1.out
        rw [hqs] at hbb
        obtain ⟨t1,t2,t3⟩:=top_take fr.stk q hql
        replace S1:=Lib.hid S1
        obtain ⟨⟨tk,tn⟩,ht⟩ : ∃ t,Hid (fr.stk.getD q Vl.nil = t):=⟨_,Lib.hid rfl⟩
        have hbN : (k' : Int) < m2.params.length:=by omega
        have HQ:=Lib.hid hq'
        clear hq hq' hqs
        go_wp2_with fail
        go_at_call 179
        refine (anyOk S1.out t1 (by simp only [List.length_take];omega)).mono ?_
        rw [t2,ht.out]
        unfold vl
        rintro e w3 ⟨rfl,A⟩
        simp only [t3] at A
        obtain ⟨L3,v3,G3,S3⟩:=A.opn
        have hsz0 : w.heap.size < wr.heap.size:=by omega
        have nfa:=G3.nf hsz0 nf0
        have nfb:=G3.nf hsz nf1
        have B0':=BB0.out.next G3.kp nf0
        have B1':=hbb.next G3.kp nf1
        obtain ⟨g0,g1,gf0,gf1⟩:=Blk.getV B1' (i:=k') (by simp;omega)
        have GC:=Lib.hid (GG1.out.trans G3)
        have lt3:=cell_lt g0
        have lt30 : w.heap.size < w3.heap.size:=by omega
        have hB3:=S3.base
        have hset:=Blk.setV B1' (i:=k') (by simp;omega) ⟨tk,tn⟩
        rw [← ht.out,rowStep fr.stk k' q hql,ht.out] at hset
        have hwr2 : IntKind.i64.wrap ((k' : Int) - 1) = (k' : Int) - 1:=by rw [Num.wrap_i64,wrap64_id (by unfold Ok;omega)]
        have HT:=Lib.hid hset
        replace S3:=Lib.hid S3
        have B0h:=Lib.hid B0'
        clear A G3 B1' hset BB0 BB1 hbb z0 hcb1 B0'
        go_wp2_with fail
        go_roundw
        case rel =>
          refine ⟨k',by first | rfl | go_num,by omega,by omega,L3,v3,GC.out.over (by omega) _ _ _ _,?_,((B0h.out.far (by omega) _).far (by omega) _),?_,nfa,nfb,by simp;omega⟩
          · rw [show fr.stk.length + k' - m2.params.length = q from HQ.out]
            exact (S3.out.res (by omega) nfb _ _).res (by omega) nfb _ _
          · rw [show fr.stk.length + k' - m2.params.length = q from HQ.out]
            exact HT.out
        case measure=>first | (simp [intOf];done) | (simp [intOf];omega)
end
end Hpw
end Go.Proofs.Ytncmhenfgbcihab
