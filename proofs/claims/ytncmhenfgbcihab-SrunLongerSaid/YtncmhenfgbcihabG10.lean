/- Parts of the proof: Pt4, Px, Ps, Py, Pz, Qa, Qb, Qc, OuS. -/
import Derived.Test.YtncmhenfgbcihabG09
import Derived.Laws.EntriesVeiled
import Derived.Test.YtncmhenfgbcihabG07
import Derived.Test.YtncmhenfgbcihabG05
namespace Go.Proofs.Ytncmhenfgbcihab
open Go.RowKit
set_option linter.unusedSimpArgs false
set_option linter.unusedVariables false
namespace Hpw
open Num Rd D Run Mem HierW
section
variable {E : Ev} {w w' w1 w2 : World} {L L' L1 : Lay} {h h' h1 h2 : Hp} {d : Nat} {P : PS} {m : Me} {fr fr' fr1 : Sf} {vs vs1 : Value}
theorem outC_callA (m2 : Me) (f : Sf) (r : Res Vl) : outC SM m m2 f r = oA (callA m m2 f r):=by
  cases r with
  | stop e h=>rfl
  | thrown o h=>rfl
  | ok v h =>
    simp only [outC,callA]
    have e : SM.resume m m2 f v = sresume m m2 f v:=rfl
    rw [e]
    cases sresume m m2 f v <;> rfl
theorem outA_nc {f : Fi} {input : List Int} {fuel g d : Nat} {a : Run.Act Sf} (hn : NC a) : outA SM f input fuel g d m a = oA a:=by
  cases a with
  | call k args fr h=>exact hn.elim
  | _=>rfl
theorem act19 {f : Fi} {input : List Int} {fuel g d k : Nat} {b c n : Int} {args : List Int} : outA SM f input fuel g d m (sstep f input m ⟨19,(k : Int),b,c,n,args⟩ fr h) = if fr.stk.length < (meAt f k).params.length then .stop 6 h else oA (callA m (meAt f k) ⟨fr.loc,fr.stk.take (fr.stk.length - (meAt f k).params.length),fr.at_⟩ (call SM f input fuel g d (meAt f k) (fr.stk.drop (fr.stk.length - (meAt f k).params.length)) h)):=by
  by_cases hl : fr.stk.length < (meAt f k).params.length
  · rw [st19n (by rw [Int.toNat_natCast];exact hl),if_pos hl];rfl
  · rw [st19 (by rw [Int.toNat_natCast];exact hl),if_neg hl,Int.toNat_natCast]
    exact outC_callA _ _ _
def NXO (a0 : Nat) : Out Sf → Prop
  | .go fr' _=>fr'.at_ = a0 + 1
  | .back _ _=>False
  | _=>True
theorem callA_nx {m2 : Me} {f : Sf} {r : Res Vl} : NXO f.at_ (oA (callA m m2 f r)):=by
  cases r with
  | stop e h=>trivial
  | thrown o h=>trivial
  | ok v h =>
    simp only [callA,sresume]
    by_cases q : m2.ret.kind = 0
    · simp [q,oA,on,NXO]
    · by_cases q2 : (size (f.stk ++ [v]) : Int) ≤ m.stack
      · simp [q,q2,oA,on,NXO]
      · simp [q,q2,oA,NXO]
set_option maxRecDepth 100000 in
set_option maxHeartbeats 2000000 in
theorem do19 (S : ST E w L P m d h fr vs) (hbig : fr.stk.length ≤ 1000) (hatb : fr.at_ ≤ 100000) (hs : h.steps < E.fuel) (hfu : E.fuel ≤ 60000) (b c n : Int) (args : List Int) (k : Nat) (hi : m.code[fr.at_]? = some ⟨19, (k : Int), b, c, n, args⟩) (HO : HpOk E.f.classes E.input E.fuel (stepped h)) (hf : SfOk m h.objs.length fr) (hl : fr.stk.length ≤ 40) (hk : k < E.f.methods.length) (h4 : (meAt E.f k).params.length ≤ 4) (g : Nat) (HI : InvOk E d g (stepped h)) (hmany : E.f.methods.length ≤ 8) :
    Calls Try.prog 124 #[.pointer (some ⟨P.cb,0,none⟩)] w (DoR E L P m d vs fr w (if fr.stk.length < (meAt E.f k).params.length then .stop 6 (stepped h) else oA (callA m (meAt E.f k) ⟨fr.loc,fr.stk.take (fr.stk.length - (meAt E.f k).params.length),fr.at_⟩ (call SM E.f E.input E.fuel g d (meAt E.f k) (fr.stk.drop (fr.stk.length - (meAt E.f k).params.length)) (stepped h))))):=by
  have HIV:=Lib.hid HI
  clear HI
  obtain ⟨ac,hac⟩ : ∃ x,Hid ((if fr.stk.length < (meAt E.f k).params.length then .stop 6 (stepped h) else oA (callA m (meAt E.f k) ⟨fr.loc,fr.stk.take (fr.stk.length - (meAt E.f k).params.length),fr.at_⟩ (call SM E.f E.input E.fuel g d (meAt E.f k) (fr.stk.drop (fr.stk.length - (meAt E.f k).params.length)) (stepped h)))) = x):=⟨_,Lib.hid rfl⟩
  have hnx : NXO fr.at_ ac:=by
    rw [← hac.out]
    by_cases q : fr.stk.length < (meAt E.f k).params.length
    · rw [if_pos q];trivial
    · rw [if_neg q];exact callA_nx
  rw [hac.out]
  have HS:=Lib.hid S
  have hcb:=S.cbw
  have hat : fr.at_ < m.code.length:=(List.getElem?_eq_some_iff.1 hi).1
  obtain ⟨ica,icap,hvc,i1,i2,iel⟩:=id S.M.co
  obtain ⟨ib,io,rfl,hib,hie⟩:=iel fr.at_ hat
  have hx : m.code[fr.at_] = ⟨19,(k : Int),b,c,n,args⟩:=by rw [List.getElem?_eq_getElem hat] at hi;exact Option.some.inj hi
  rw [hx] at hie
  obtain ⟨x0,x1,x2,x3,x4,_,va,x5,hva⟩:=hie
  obtain ⟨aa,acap,rfl,_⟩:=hva
  simp only at x0 x1 x2 x3 x4
  have c7:=S.c7
  rw [hvc] at c7
  have c0:=S.c0
  have c11:=S.c11
  have nr:=S.fo_new (Nat.le_refl _)
  have nrO : ¬ own E L w.heap.size:=fun hk=>nr (.inl hk)
  have nib : ¬ fo E L P vs ib:=fun hk=>by have:=(S.fo_lo hk).1;omega
  have nibO : ¬ own E L ib:=fun hk=>nib (.inl hk)
  have hibw : ib < w.heap.size:=by have:=S.base;omega
  have hati : (fr.at_ : Int) < m.code.length:=by omega
  have hatd : decide ((fr.at_ : Int) < m.code.length) = true:=by simpa using hati
  have hwr : IntKind.i64.wrap ((fr.at_ : Int) + 1) = (fr.at_ : Int) + 1:=by rw [Num.wrap_i64,wrap64_id (by unfold Ok;omega)]
  have HCO:=Lib.hid hvc
  clear S iel hi hx hvc i1
  go_enter Try.func124,Try.ntmps124
  go_wp2_with (go_at_call 178;refine (stepOk (HS.out.below (by exact Rd.byB)).H hs hfu).mono ?_;rintro e w2 ⟨rfl,H2,K2⟩;have S2:=(HS.out.below (w':=w.alloc (.cells #[.int .i64 0,.int .i64 0] 118)) (by exact Rd.byB)).heap K2 same_own H2;have r0:=K2.cell (c:=w.heap.size) (o:=0) (v:=.int .i64 0) (by go_simp) nrO;have r1:=K2.cell (c:=w.heap.size) (o:=1) (v:=.int .i64 0) (by go_simp) nrO;have rf0:=K2.frz (c:=w.heap.size) (o:=0) (b:=false) (by go_simp) (by simp) nrO;have rf1:=K2.frz (c:=w.heap.size) (o:=1) (b:=false) (by go_simp) (by simp) nrO;have z0:=S2.c0;have z11:=S2.c11;have z7:=S2.c7;rw [HCO.out] at z7;have u0:=K2.cell (c:=ib) (o:=io + fr.at_ * 6) (v:=.int .i64 (19)) (by go_simp) nibO;have u1:=K2.cell (c:=ib) (o:=io + fr.at_ * 6 + 1) (v:=.int .i64 (k : Int)) (by go_simp) nibO;have u2:=K2.cell (c:=ib) (o:=io + fr.at_ * 6 + 2) (v:=.int .i64 b) (by go_simp) nibO;have u3:=K2.cell (c:=ib) (o:=io + fr.at_ * 6 + 3) (v:=.int .i64 c) (by go_simp) nibO;have u4:=K2.cell (c:=ib) (o:=io + fr.at_ * 6 + 4) (v:=.int .i64 n) (by go_simp) nibO;have u5:=K2.cell (c:=ib) (o:=io + fr.at_ * 6 + 5) (v:=.slice aa args.length acap) (by go_simp) nibO;have GW:=Lib.hid (show Gr E L P vs w L vs w2 from ⟨(Kp.of_below (B:=w.heap.size) (X:=fo E L P vs) (w':=w.alloc (.cells #[.int .i64 0,.int .i64 0] 118)) (by exact Rd.byB) (Nat.le_refl _)).trans K2 (fun y hy=>.inl (.inl hy)),fun _ q=>.inl q,fun _ q=>.inl q⟩);have nf2:=S2.fo_new (Nat.le_refl _);have hcb2:=S2.cbw;have hrw:=cell_lt r0;have hib2:=cell_lt u0;replace S2:=Lib.hid S2;clear H2 K2 c7 c0 c11 x0 x1 x2 x3 x4 x5)
  refine wp_region_held_drew (S:=fun w'=>w'.cell? ⟨P.cb,11,none⟩ = some (.int .i64 fr.at_) ∧ w'.cell? ⟨P.cb,7,none⟩ = some (.slice (some ⟨ib,io,none⟩) m.code.length icap)) (by kernel_rfl) (by (try dsimp only);refine ⟨?_,?_⟩ <;> go_simp) (fun hHeld=>?_)
  refine Drawn.tk 0 (some 12) rfl rfl (by assumption) ?_
  try simp only [Act.put,Drawn.La,Drawn.Lb,Drawn.Lc]
  refine Drawn.tk 1 (some 13) rfl rfl (by assumption) ?_
  try simp only [Act.put,Drawn.La,Drawn.Lb,Drawn.Lc]
  refine Drawn.tk 2 (some 14) rfl rfl (by assumption) ?_
  try simp only [Act.put,Drawn.La,Drawn.Lb,Drawn.Lc]
  refine Drawn.tk 3 (some 15) rfl rfl (by assumption) ?_
  try simp only [Act.put,Drawn.La,Drawn.Lb,Drawn.Lc]
  refine Drawn.tk 4 (some 16) rfl rfl (by assumption) ?_
  try simp only [Act.put,Drawn.La,Drawn.Lb,Drawn.Lc]
  refine Drawn.tk 5 (some 17) rfl rfl (by assumption) ?_
  try simp only [Act.put,Drawn.La,Drawn.Lb,Drawn.Lc]
  refine Drawn.tk 6 (some 18) rfl rfl (by assumption) ?_
  try simp only [Act.put,Drawn.La,Drawn.Lb,Drawn.Lc]
  refine Drawn.tk 7 (some 19) rfl rfl (by assumption) ?_
  try simp only [Act.put,Drawn.La,Drawn.Lb,Drawn.Lc]
  refine Drawn.tk 8 (some 20) rfl rfl (by assumption) ?_
  try simp only [Act.put,Drawn.La,Drawn.Lb,Drawn.Lc]
  refine Drawn.tk 9 (some 21) rfl rfl (by assumption) ?_
  try simp only [Act.put,Drawn.La,Drawn.Lb,Drawn.Lc]
  refine Drawn.tk 10 (some 22) rfl rfl (by assumption) ?_
  try simp only [Act.put,Drawn.La,Drawn.Lb,Drawn.Lc]
  refine wpAnyH_ready (rs:=[11]) (by kernel_rfl) (by simp) ?_
  refine AllReadyH.cons rfl (fun K hK=>?_) AllReadyH.nil
  go_simp
  refine (mustT _).mono ?_
  rintro e w3 ⟨rfl,rfl⟩
  go_wp2_with fail
  refine hK.out _ _ (by (try dsimp only);refine ⟨?_,?_⟩ <;> go_simp) (fun hHeld=>?_)
  clear hK K
  try simp only [Act.put,Drawn.La,Drawn.Lb,Drawn.Lc]
  refine wpAnyH_done (by kernel_rfl) ?_ _
  go_wp2_with fail
  refine wp_region_held_drew (S:=fun w'=>w'.cell? ⟨P.cb,11,none⟩ = some (.int .i64 fr.at_) ∧ w'.cell? ⟨P.cb,7,none⟩ = some (.slice (some ⟨ib,io,none⟩) m.code.length icap) ∧ w'.cell? ⟨ib,io + fr.at_ * 6,none⟩ = some (.int .i64 19) ∧ w'.cell? ⟨ib,io + fr.at_ * 6 + 1,none⟩ = some (.int .i64 (k : Int)) ∧ w'.cell? ⟨ib,io + fr.at_ * 6 + 2,none⟩ = some (.int .i64 b) ∧ w'.cell? ⟨ib,io + fr.at_ * 6 + 3,none⟩ = some (.int .i64 c) ∧ w'.cell? ⟨ib,io + fr.at_ * 6 + 4,none⟩ = some (.int .i64 n) ∧ w'.cell? ⟨ib,io + fr.at_ * 6 + 5,none⟩ = some (.slice aa args.length acap)) (by kernel_rfl) (by (try dsimp only);refine ⟨?_,?_,?_,?_,?_,?_,?_,?_⟩ <;> go_simp) (fun hHeld=>?_)
  refine Drawn.tk 0 (some 24) rfl rfl (by assumption) ?_
  try simp only [Act.put,Drawn.La,Drawn.Lb,Drawn.Lc]
  refine Drawn.tk 1 (some 25) rfl rfl (by assumption) ?_
  try simp only [Act.put,Drawn.La,Drawn.Lb,Drawn.Lc]
  refine Drawn.tk 2 (some 26) rfl rfl (by assumption) ?_
  try simp only [Act.put,Drawn.La,Drawn.Lb,Drawn.Lc]
  refine Drawn.tk 3 (some 27) rfl rfl (by assumption) ?_
  try simp only [Act.put,Drawn.La,Drawn.Lb,Drawn.Lc]
  refine Drawn.tk 4 (some 28) rfl rfl (by assumption) ?_
  try simp only [Act.put,Drawn.La,Drawn.Lb,Drawn.Lc]
  refine Drawn.tk 5 (some 29) rfl rfl (by assumption) ?_
  try simp only [Act.put,Drawn.La,Drawn.Lb,Drawn.Lc]
  refine Drawn.tk 6 (some 30) rfl rfl (by assumption) ?_
  try simp only [Act.put,Drawn.La,Drawn.Lb,Drawn.Lc]
  refine Drawn.tk 7 (some 31) rfl rfl (by assumption) ?_
  try simp only [Act.put,Drawn.La,Drawn.Lb,Drawn.Lc]
  refine Drawn.tk 8 (some 32) rfl rfl (by assumption) ?_
  try simp only [Act.put,Drawn.La,Drawn.Lb,Drawn.Lc]
  refine Drawn.tk 9 (some 33) rfl rfl (by assumption) ?_
  try simp only [Act.put,Drawn.La,Drawn.Lb,Drawn.Lc]
  refine Drawn.tk 10 (some 34) rfl rfl (by assumption) ?_
  try simp only [Act.put,Drawn.La,Drawn.Lb,Drawn.Lc]
  refine wpAnyH_ready (rs:=[11]) (by kernel_rfl) (by simp) ?_
  refine AllReadyH.cons rfl (fun K hK=>?_) AllReadyH.nil
  go_simp
  refine hK.out _ _ (by (try dsimp only);refine ⟨?_,?_,?_,?_,?_,?_,?_,?_⟩ <;> go_simp) (fun hHeld=>?_)
  clear hK K
  try simp only [Act.put,Drawn.La,Drawn.Lb,Drawn.Lc]
  refine wpAnyH_ready (rs:=[12]) (by kernel_rfl) (by simp) ?_
  refine AllReadyH.cons rfl (fun K hK=>?_) AllReadyH.nil
  go_simp
  refine hK.out _ _ (by (try dsimp only);refine ⟨?_,?_,?_,?_,?_,?_,?_,?_⟩ <;> go_simp) (fun hHeld=>?_)
  clear hK K
  try simp only [Act.put,Drawn.La,Drawn.Lb,Drawn.Lc]
  refine wpAnyH_done (by kernel_rfl) ?_ _
  generalize hWW : World.drew _ = W
  replace hWW:=Lib.hid hWW
  have k0 : W.cell? ⟨w2.heap.size,0,none⟩ = some (.int .i64 (19)):=by rw [← hWW.out];go_simp
  have k1 : W.cell? ⟨w2.heap.size,1,none⟩ = some (.int .i64 (k : Int)):=by rw [← hWW.out];go_simp
  have k2 : W.cell? ⟨w2.heap.size,2,none⟩ = some (.int .i64 b):=by rw [← hWW.out];go_simp
  have k3 : W.cell? ⟨w2.heap.size,3,none⟩ = some (.int .i64 c):=by rw [← hWW.out];go_simp
  have k4 : W.cell? ⟨w2.heap.size,4,none⟩ = some (.int .i64 n):=by rw [← hWW.out];go_simp
  have k5 : W.cell? ⟨w2.heap.size,5,none⟩ = some (.slice aa args.length acap):=by rw [← hWW.out];go_simp
  have hbW : Below w2.heap.size w2 W:=by rw [← hWW.out];exact Rd.byB
  have hzW : w2.heap.size < W.heap.size:=cell_lt k0
  have SW:=S2.out.below hbW
  have s0:=kept hbW hrw r0
  have s1:=kept hbW hrw r1
  have sf0:=frz_kept hbW hrw rf0
  have sf1:=frz_kept hbW hrw rf1
  have e0:=SW.c0
  have e11:=SW.c11
  have ef11:=SW.fz 11 (by decide)
  have hcbW:=SW.cbw
  have hrW : w.heap.size < W.heap.size:=by omega
  have G:=Lib.hid (GW.out.trans (Gr.of_below hbW))
  replace SW:=Lib.hid SW
  clear hWW r0 r1 rf0 rf1 z0 z11 z7 u0 u1 u2 u3 u4 u5 GW hbW S2
  go_wp2_with fail
  go_at_call 182
  refine (calledP (SW.out.below (by exact Rd.byB)) HO hf hl k hk rfl h4 g HIV.out hmany).mono ?_
  rw [hac.out]
  rintro e w4 R
  cases ac with
  | go fr' h' =>
    obtain ⟨l',s',a'⟩:=fr'
    have ha' : a' = fr.at_ + 1:=hnx
    subst ha'
    obtain ⟨rfl,A⟩:=R
    obtain ⟨L4,v4,G4,S4⟩:=(LftF.before (w:=W) (by exact Rd.byB) A).opn
    have t0:=G4.cell (b:=w.heap.size) (o:=0) (v:=.int .i64 0) nr (by go_simp)
    have t1:=G4.cell (b:=w.heap.size) (o:=1) (v:=.int .i64 0) nr (by go_simp)
    have tf0:=G4.frz (b:=w.heap.size) (o:=0) (x:=false) nr (by first | omega | (simp;omega)) (by go_simp)
    have tf1:=G4.frz (b:=w.heap.size) (o:=1) (x:=false) nr (by first | omega | (simp;omega)) (by go_simp)
    have nr4:=G4.nf (by first | omega | (simp;omega)) nr
    have GB:=Lib.hid (G.out.trans G4)
    have hrw4:=cell_lt t0
    replace S4:=Lib.hid S4
    clear A G4 s0 s1 sf0 sf1 k0 k1 k2 k3 k4 k5 e0 e11 ef11
    have e11':=S4.out.c11
    have ef11':=S4.out.fz 11 (by decide)
    have hcb':=S4.out.cbw
    go_wp2_with fail
    refine bodyPost_ret (v:=.tuple #[.agg #[.int .i64 0,.int .i64 0],.bool false]) (by simp [results,Try.results124,go_sem] <;> go_simp) rfl ?_
    obtain ⟨L8,v8,G8,S8⟩:=(S4.out.setAt (fr.at_ + 1)).opn
    exact ⟨rfl,Gr.upon HS.out (GB.out.trans G8) S8 (Nat.le_refl _) (G8.nf hrw4 nr4) _ _⟩
  | back v h'=>exact hnx.elim
  | thrown o h' =>
    obtain ⟨⟨older,hol,rfl⟩,st,A⟩:=R
    refine And.intro rfl ?_
    exact ⟨⟨older,hol,rfl⟩,st,G.out.comp (LftF.before (w:=W) (by exact Rd.byB) A)⟩
  | stop c2 h' =>
    obtain ⟨⟨older,hol,rfl⟩,A⟩:=R
    refine And.intro rfl ?_
    refine ⟨⟨older,hol,rfl⟩,G.out.compS ?_⟩
    obtain ⟨L5,K5,N5,H5⟩:=A
    exact ⟨L5,(Kp.of_below (B:=W.heap.size) (by exact Rd.byB) (Nat.le_refl _)).trans K5 (fun y hy=>.inl hy),fun k hk=>(N5 k hk).imp id (fun q=>Nat.le_trans (Below.size (B:=W.heap.size) (by exact Rd.byB)) q),H5⟩
theorem top_mem2 {l : List Vl} (h : l ≠ []) : top l ∈ l:=by
  unfold top
  rw [List.getLast?_eq_some_getLast h]
  exact List.getLast_mem h
theorem doP (FS : FiS E.f) (hm : m ∈ E.f.methods) (S : ST E w L P m d h fr vs) (HO : HpOk E.f.classes E.input E.fuel h) (hf : SfOk m h.objs.length fr) (hl : fr.stk.length ≤ 40) (hfu : E.fuel ≤ 60000) (hin : E.input.length ≤ 1000) (g : Nat) (HI : InvOk E d g (stepped h)) :
    Calls Try.prog 124 #[.pointer (some ⟨P.cb,0,none⟩)] w (DoR E L P m d vs fr w (outS SM E.f E.input E.fuel g d m fr h)):=by
  have MS:=FS.mes m hm
  unfold outS
  by_cases q : E.fuel ≤ h.steps
  · rw [if_pos q];exact doFuel S hfu q
  rw [if_neg q]
  have hs : h.steps < E.fuel:=by omega
  have ea : SM.at_ fr = fr.at_:=rfl
  rw [ea]
  cases hi : m.code[fr.at_]? with
  | none=>exact doEnd S hfu hs hi
  | some i =>
    have hI:=MS.ins i (List.mem_of_getElem? hi)
    have hat : fr.at_ < m.code.length:=(List.getElem?_eq_some_iff.1 hi).1
    have hatb : fr.at_ ≤ 100000:=by have:=MS.code;omega
    have hbig : fr.stk.length ≤ 1000:=by omega
    show Calls _ _ _ _ (DoR E L P m d vs fr w (outA SM E.f E.input E.fuel g d m (sstep E.f E.input m i fr (stepped h))))
    have HO1 : HpOk E.f.classes E.input E.fuel (stepped h):=⟨HO.many,HO.obs,HO.out,Nat.le_succ_of_le HO.outs,HO.used,hs⟩
    have vo : ∀ v ∈ fr.stk,v.kind = 3 → v.n < h.objs.length:=fun v hv e=>((hf.stk v hv).1.2.2.2 e).2
    obtain ⟨op,a,b,c,n,args⟩:=i
    by_cases q11 : op = 11
    · subst q11
      rw [st11];exact do11 S hbig hatb hs hfu a b c n args hi (hI.jump (.inl rfl)).1
    by_cases q12 : op = 12
    · subst q12
      have ha:=(hI.jump (.inr (.inl rfl))).1
      by_cases hn : fr.stk = []
      · rw [st12n hn];exact do12n S hbig hatb hs hfu a b c n args hi hn
      · rw [st12 hn];unfold kindly
        by_cases hk : (top fr.stk).kind = 1
        · rw [if_pos hk]
          cases hh : Num.holds b (top fr.stk).n
          · exact do12f S hbig hatb hs hfu a b c n args hi hn hk ha hh
          · exact do12t S hbig hatb hs hfu a b c n args hi hn hk ha hh
        · rw [if_neg hk];exact do12b S hbig hatb hs hfu a b c n args hi hn hk
    by_cases q13 : op = 13
    · subst q13
      have ha:=(hI.jump (.inr (.inr rfl))).1
      by_cases hn : fr.stk = []
      · rw [st13n hn];exact do13n S hbig hatb hs hfu a b c n args hi hn
      · rw [st13 hn];unfold kindly
        by_cases hk : (top fr.stk).kind = 3
        · rw [if_pos hk]
          by_cases hh : (top fr.stk).n < 0
          · rw [if_pos hh];exact do13t S hbig hatb hs hfu a b c n args hi hn hk ha hh
          · rw [if_neg hh];exact do13f S hbig hatb hs hfu a b c n args hi hn hk ha hh
        · rw [if_neg hk];exact do13b S hbig hatb hs hfu a b c n args hi hn hk
    by_cases q19 : op = 19
    · subst q19
      obtain ⟨ha,hk⟩:=hI.meth rfl
      simp only at ha hk
      obtain ⟨k,rfl⟩:=Int.eq_ofNat_of_zero_le ha
      have hk' : k < E.f.methods.length:=by omega
      rw [act19]
      exact do19 S hbig hatb hs hfu b c n args k hi HO1 hf hl hk' (FS.mes _ (meAt_mem hk')).params.1 g HI FS.many.2
    by_cases q20 : op = 20
    · subst q20
      rw [outA_nc (sstep_nc (by simp))]
      have e20 : sstep E.f E.input m ⟨20,a,b,c,n,args⟩ fr (stepped h) = s20 E.f.classes m fr (stepped h):=by simp [sstep]
      rw [e20]
      unfold s20
      by_cases hr : m.ret.kind = 0
      · rw [if_pos hr];exact do20v S hbig hatb hs hfu a b c n args hi (by simpa using hr)
      · rw [if_neg hr]
        have hrb : (m.ret.kind == 0) = false:=by simpa using hr
        by_cases hn : fr.stk = []
        · rw [show pop1 fr (stepped h) _ = Run.Act.stop 6 (stepped h) from by unfold pop1;simp [hn]]
          exact do20n S hbig hatb hs hfu a b c n args hi hrb hn
        · have hmem:=top_mem2 hn
          cases ho : ofT E.f.classes (stepped h) (top fr.stk) m.ret
          · have e : pop1 fr (stepped h) (fun v x=>if ofT E.f.classes (stepped h) v m.ret = true then .back v (stepped h) else .stop 6 (stepped h)) = .stop 6 (stepped h):=by unfold pop1;simp [hn,ho]
            rw [e]
            exact do20f S hbig hatb hs hfu a b c n args hi hrb hn FS.may (vo _ hmem) ho
          · have e : pop1 fr (stepped h) (fun v x=>if ofT E.f.classes (stepped h) v m.ret = true then .back v (stepped h) else .stop 6 (stepped h)) = .back (top fr.stk) (stepped h):=by unfold pop1;simp [hn,ho]
            rw [e]
            exact do20t S hbig hatb hs hfu a b c n args hi hrb hn FS.may (vo _ hmem) ho
    by_cases q21 : op = 21
    · subst q21
      rw [outA_nc (sstep_nc (by simp))]
      have e21 : sstep E.f E.input m ⟨21,a,b,c,n,args⟩ fr (stepped h) = s21 E.f.classes fr (stepped h):=by simp [sstep]
      rw [e21]
      unfold s21
      by_cases hn : fr.stk = []
      · rw [show pop1 fr (stepped h) _ = Run.Act.stop 6 (stepped h) from by unfold pop1;simp [hn]]
        exact do21n S hbig hatb hs hfu a b c n args hi hn
      · have e : pop1 fr (stepped h) (fun v x=>(Run.throw E.f.classes v (stepped h)).act fun (_ : Unit) h=>.stop 6 h) = (Run.throw E.f.classes (top fr.stk) (stepped h)).act fun (_ : Unit) h=>.stop 6 h:=by unfold pop1;simp [hn]
        rw [e]
        exact do21o S hbig hatb hs hfu a b c n args hi hn FS.may
    rw [outA_nc (sstep_nc q19)]
    exact dopl S hbig hatb hs hfu op a b c n args hi FS MS HO1 hf hl hin hI (by simpa using q20) (by simpa using q11) (by simpa using q12) (by simpa using q13) (by simpa using q19) (by simpa using q21)
end
end Hpw
end Go.Proofs.Ytncmhenfgbcihab
namespace Go.Proofs.Ytncmhenfgbcihab
open Go.RowKit
set_option linter.unusedSimpArgs false
set_option linter.unusedVariables false
namespace Hpw
open Num Rd D Run Mem HierW
theorem mkSlots (n : Nat) (hn : n ≤ 1000) (w : World) : ∃ w',(Instr.makeSlice 208 (.int .i64 (n : Int)) (.int .i64 (n : Int))).run Try.prog w = .ok (.slice (some ⟨w.heap.size,0,none⟩) n n) w' ∧ Blk w' w.heap.size (vcells (List.replicate n Vl.nil)) ∧ Below w.heap.size w w' ∧ w.heap.size < w'.heap.size:=by
  obtain ⟨i,hi,hz,h1,h2⟩:=info_parts info_valP
  obtain ⟨w',hrun,hown,hg⟩:=run_make_full (P:=Try.prog) (w:=w) w.heap.size 208 118 i (.agg #[.int .i64 0,.int .i64 0]) 2 Try.underlying208 hi hz h1 .i64 .i64 n (by rw [h2];omega) (by unfold maxLen;omega) (Nat.le_refl _)
  refine ⟨w',hrun,fun j hj=>?_,?_,(World.ownsRow.lt hown _ rfl).2⟩
  · have hj2 : (madeCells (Value.agg #[.int .i64 0, .int .i64 0]).cells (n * 2)).toList[j]? = some ((vcells (List.replicate n Vl.nil))[j]) := by
      have hl : j < n * 2:=by rw [vcells_len,List.length_replicate] at hj;exact hj
      have e2 : (vcells (List.replicate n Vl.nil))[j] = .int .i64 0:=by
        have:=vcells_repP n
        simp only [this,List.getElem_replicate]
      rw [e2]
      have e3 : (j % 2 = 0) ∨ (j % 2 = 1):=by omega
      rcases e3 with e3 | e3 <;> simp [madeCells,Value.cells,hl,e3]
    exact ⟨row_cell hown hj2,row_free hown⟩
  · exact (Kp.of_grown (X:=fun _=>False) hg (fun k e=>by cases e)).below (Nat.le_refl _) (fun _ e=>e.elim)
section
variable {E : Ev} {w w' w1 w2 : World} {L L' L1 : Lay} {h h' h1 h2 : Hp} {d : Nat} {P : PS} {m m2 : Me} {fr fr' fr1 : Sf} {vs vs1 : Value}
theorem stores_app2 : ∀ (a b : List Vl) (l : List Vl) (k : Nat),stores l k (a ++ b) = stores (stores l k a) (k + size a) b:=by
  intro a
  induction a with
  | nil=>intro b l k;simp [stores,size]
  | cons v a ih=>intro b l k;simp only [List.cons_append,stores,size];rw [ih,Nat.add_assoc]
theorem stores_takeP {args : List Vl} {i : Nat} (hi : i < args.length) (l : List Vl) : stores l 0 (args.take (i + 1)) = Run.store (stores l 0 (args.take i)) (size (args.take i)) args[i]:=by
  rw [List.take_succ_eq_append_getElem hi,stores_app2]
  simp [stores]
theorem size_take_leP {args : List Vl} (i : Nat) : size (args.take i) ≤ size args:=by
  have:=size_app (args.take i) (args.drop i)
  rw [List.take_append_drop] at this
  omega
theorem ST.newLoc (S : ST E w L P m d h fr vs) {l : List Vl} (hl : l.length = fr.loc.length) (K : Kp (· = P.lb) w w') (B : Blk w' P.lb (vcells l)) : ST E w' L P m d h ⟨l,fr.stk,fr.at_⟩ vs:=by
  refine ⟨S.H.keep K (fun k e=>by subst e;exact ⟨S.lo.2,S.far.2.1⟩),S.M.mono (K.below S.base (fun k e=>by subst e;exact S.lo.2)),?_,B,Nat.lt_of_lt_of_le S.lbw K.size,row_keep S.stk K (fun g hg e=>S.ne.2.2 (e ▸ hg)),S.lo,S.far,S.ne⟩
  have:=S.blk.next K S.ne.1
  unfold fcs at this ⊢
  rw [hl]
  exact this
theorem stNew (H : PH E w2 L h d) (vp vc vh : Value) (lb : Nat) (M : Mi E w2 ⟨w2.heap.size, lb, vp, vc, vh⟩ m) (hB : Blk w2 lb (vcells (List.replicate m.locals.toNat Vl.nil))) (hlb : lb < w2.heap.size) (hlo : E.B ≤ lb) (hfar : ∀ k, own E L k → k < lb) (T : TypeId) :
    ST E (w2.alloc (.cells #[.pointer (some ⟨E.hb,0,none⟩),vp,.int .i64 m.ret.kind,.int .i64 m.ret.cls,.int .i64 m.stack,.int .i64 m.locals,.int .i64 m.regs,vc,vh,.slice (some ⟨lb,0,none⟩) m.locals.toNat m.locals.toNat,.slice none 0 0,.int .i64 0] T)) L ⟨w2.heap.size,lb,vp,vc,vh⟩ m d h ⟨List.replicate m.locals.toNat Vl.nil,[],0⟩ (.slice none 0 0):=by
  have hfc : fcs E ⟨w2.heap.size,lb,vp,vc,vh⟩ m ⟨List.replicate m.locals.toNat Vl.nil,[],0⟩ (.slice none 0 0) = [.pointer (some ⟨E.hb,0,none⟩),vp,.int .i64 m.ret.kind,.int .i64 m.ret.cls,.int .i64 m.stack,.int .i64 m.locals,.int .i64 m.regs,vc,vh,.slice (some ⟨lb,0,none⟩) m.locals.toNat m.locals.toNat,.slice none 0 0,.int .i64 0]:=by simp [fcs,mcs]
  have hbe : Below w2.heap.size w2 (w2.alloc (.cells #[.pointer (some ⟨E.hb,0,none⟩),vp,.int .i64 m.ret.kind,.int .i64 m.ret.cls,.int .i64 m.stack,.int .i64 m.locals,.int .i64 m.regs,vc,vh,.slice (some ⟨lb,0,none⟩) m.locals.toNat m.locals.toNat,.slice none 0 0,.int .i64 0] T)):=by exact Rd.byB
  refine ⟨H.below hbe,M.mono (hbe.mono (by omega)),?_,hB.alloc _,by show lb < _;simp;omega,World.ownsRow_nil _ _ _ _,⟨by show E.B ≤ w2.heap.size;omega,hlo⟩,⟨fun hk=>?_,fun hk=>?_,fun g hg=>by cases hg⟩,⟨by show w2.heap.size ≠ lb;omega,by simp [Value.ownBlock],by simp [Value.ownBlock]⟩⟩
  · rw [hfc];exact Blk.made w2 _ T
  · have:=hfar _ hk;simp only at this;omega
  · have:=hfar _ hk;simp only at this;omega
set_option maxRecDepth 100000 in
set_option maxHeartbeats 4000000 in
theorem beginP (H : PH E w L h d) (X : Nat → Prop) {va mv : Value} (args : List Vl) (hVM : VMe w E.B mv m) (ha : VS w X va args) (hl4 : args.length ≤ 4) (hml : m.locals < 61) (hsz : (size args : Int) ≤ m.locals) (hv : ∀ v ∈ args, VtOk h.objs.length v)
    (b3 b4 b5 : Nat) (c3 : w.cell? ⟨b3,0,none⟩ = some (.pointer (some ⟨E.hb,0,none⟩))) (c5 : w.cell? ⟨b5,0,none⟩ = some va)
    (vp vc vh : Value) (hmv : mv = .agg #[vp,.int .i64 m.ret.kind,.int .i64 m.ret.cls,.int .i64 m.stack,.int .i64 m.locals,.int .i64 m.regs,vc,vh]) (B4 : Blk w b4 [vp,.int .i64 m.ret.kind,.int .i64 m.ret.cls,.int .i64 m.stack,.int .i64 m.locals,.int .i64 m.regs,vc,vh]) :
    Calls Try.prog 121 #[.pointer (some ⟨b3,0,none⟩),.pointer (some ⟨b4,0,none⟩),.pointer (some ⟨b5,0,none⟩)] w fun e w'=>∃ P : PS,e = .returned (frV P.cb) ∧ Below w.heap.size w w' ∧ ST E w' L P m d h (senter m args) (.slice none 0 0) ∧ w.heap.size ≤ P.cb ∧ w.heap.size ≤ P.lb:=by
  have HH:=Lib.hid H
  have HA:=Lib.hid ha
  have HV:=Lib.hid hv
  have hEB : E.B ≤ w.heap.size:=by have:=H.base;omega
  obtain ⟨vp',vc',vh',hmv',oks,sps,sco,shs⟩:=hVM
  obtain ⟨rfl,rfl,rfl⟩ : vp = vp' ∧ vc = vc' ∧ vh = vh':=by
    rw [hmv] at hmv'
    simp at hmv'
    exact ⟨hmv'.1,hmv'.2.1,hmv'.2.2⟩
  obtain ⟨pa,pcap,rfl,p1,p2,_⟩:=id sps
  obtain ⟨ca,ccap,rfl,p3,p4,_⟩:=id sco
  obtain ⟨ha',hcap,rfl,p5,p6,_⟩:=id shs
  obtain ⟨ax,acap,rfl,a1,a2⟩:=ha.len
  have M0:=Lib.hid sps
  have M1:=Lib.hid sco
  have M2:=Lib.hid shs
  have m0:=(B4 0 (by simp)).1
  have m1:=(B4 1 (by simp)).1
  have m2:=(B4 2 (by simp)).1
  have m3:=(B4 3 (by simp)).1
  have m4:=(B4 4 (by simp)).1
  have m5:=(B4 5 (by simp)).1
  have m6:=(B4 6 (by simp)).1
  have m7:=(B4 7 (by simp)).1
  simp only [List.getElem_cons_zero,List.getElem_cons_succ] at m0 m1 m2 m3 m4 m5 m6 m7
  have l3:=cell_lt c3
  have l4:=cell_lt m0
  have l5:=cell_lt c5
  clear H hv ha hmv hmv' sps sco shs B4
  go_enter Try.func121,Try.ntmps121
  go_wp2_with fail
  generalize hW1 : World.alloc w _ = W1
  replace hW1:=Lib.hid hW1
  have s1 : W1.heap.size = w.heap.size + 1:=by rw [← hW1.out];simp
  have hb1 : Below w.heap.size w W1:=by rw [← hW1.out];exact Rd.byB
  have f0 : W1.frozen? ⟨w.heap.size,0,none⟩ = false:=by rw [← hW1.out];go_simp
  have v0 : W1.cell? ⟨w.heap.size,0,none⟩ = some Value.nilFunc:=by rw [← hW1.out];go_simp
  have f1 : W1.frozen? ⟨w.heap.size,1,none⟩ = false:=by rw [← hW1.out];go_simp
  have v1 : W1.cell? ⟨w.heap.size,1,none⟩ = some Value.nilFunc:=by rw [← hW1.out];go_simp
  have f2 : W1.frozen? ⟨w.heap.size,2,none⟩ = false:=by rw [← hW1.out];go_simp
  have v2 : W1.cell? ⟨w.heap.size,2,none⟩ = some Value.nilFunc:=by rw [← hW1.out];go_simp
  clear hW1
  have q3:=kept hb1 l3 c3
  have q5:=kept hb1 l5 c5
  have r0:=kept hb1 l4 m0
  have r1:=kept hb1 l4 m1
  have r2:=kept hb1 l4 m2
  have r3:=kept hb1 l4 m3
  have r4:=kept hb1 l4 m4
  have r5:=kept hb1 l4 m5
  have r6:=kept hb1 l4 m6
  have r7:=kept hb1 l4 m7
  have hlo : ((m.locals.toNat : Nat) : Int) = m.locals:=by omega
  obtain ⟨w2,hrun,hblk,hbel,hlt⟩:=mkSlots m.locals.toNat (by omega) W1.drew
  rw [hlo] at hrun
  have e1 : W1.drew.heap.size = W1.heap.size:=rfl
  rw [e1] at hblk hlt hbel hrun
  have hb2 : Below W1.heap.size W1 w2:=Below.trans (by exact Rd.byB) hbel
  have B2:=Lib.hid hblk
  have t3:=kept hb2 (cell_lt q3) q3
  have t5:=kept hb2 (cell_lt q5) q5
  have t10:=kept hb2 (cell_lt r0) r0
  have t11:=kept hb2 (cell_lt r1) r1
  have t12:=kept hb2 (cell_lt r2) r2
  have t13:=kept hb2 (cell_lt r3) r3
  have t14:=kept hb2 (cell_lt r4) r4
  have t15:=kept hb2 (cell_lt r5) r5
  have t16:=kept hb2 (cell_lt r6) r6
  have t17:=kept hb2 (cell_lt r7) r7
  have g0:=frz_kept hb2 (by omega) f0
  have u0:=kept hb2 (by omega) v0
  have g1:=frz_kept hb2 (by omega) f1
  have u1:=kept hb2 (by omega) v1
  have g2:=frz_kept hb2 (by omega) f2
  have u2:=kept hb2 (by omega) v2
  have HB1:=Lib.hid hb1
  have HB2:=Lib.hid hb2
  have l31:=cell_lt q3
  have l41:=cell_lt r0
  have l32:=cell_lt t3
  have l42:=cell_lt t10
  have l52:=cell_lt t5
  clear hblk hbel hb1 hb2 e1 m0 m1 m2 m3 m4 m5 m6 m7 c3 c5
  go_region
  generalize hWW : World.alloc w2 _ = W
  have hbW : Below w2.heap.size w2 W:=by rw [← hWW];exact Rd.byB
  have s2:=HB2.out.size
  have hb02 : Below w.heap.size w w2:=HB1.out.trans (HB2.out.mono (by omega))
  have hcbW : w2.heap.size < W.heap.size:=by rw [← hWW];simp
  obtain ⟨P,hP⟩ : ∃ P : PS,Hid (P = ⟨w2.heap.size,w.heap.size + 1,.slice pa m.params.length pcap,.slice ca m.code.length ccap,.slice ha' m.handlers.length hcap⟩):=⟨_,Lib.hid rfl⟩
  have SN : ST E W L P m d h ⟨List.replicate m.locals.toNat Vl.nil,[],0⟩ (.slice none 0 0):=by
    have hB2:=B2.out
    rw [s1] at hB2
    rw [hP.out,← hWW]
    exact stNew (HH.out.below hb02) _ _ _ (w.heap.size + 1) (Mi.mono (w:=w) ⟨M0.out,M1.out,M2.out,oks⟩ (hb02.mono hEB)) hB2 (by omega) (by omega) (fun k hk=>by have:=own_lo HH.out hk;omega) _
  have hPc : P.cb = w2.heap.size:=by rw [hP.out]
  have hPl : P.lb = w.heap.size + 1:=by rw [hP.out]
  clear hP hWW q3 q5 r0 r1 r2 r3 r4 r5 r6 r7 B2 hrun
  have d0:=frz_kept hbW (by omega) g0
  have d1:=frz_kept hbW (by omega) g1
  have d2:=frz_kept hbW (by omega) g2
  have e0:=kept hbW (by omega) u0
  have e1:=kept hbW (by omega) u1
  have e2:=kept hbW (by omega) u2
  have x5:=kept hbW l52 t5
  have HBW:=Lib.hid (hb02.trans (hbW.mono (by omega)))
  have SN0:=Lib.hid SN
  have VA:=Lib.hid (HA.out.next (Kp.of_below (X:=fun _=>False) HBW.out (Nat.le_refl _)) (fun _ _ e=>e.elim) (X':=fun k=>w.heap.size ≤ k) (fun b hb e=>by omega))
  have HW0 : w.heap.size < W.heap.size:=by omega
  have hbWs : w2.heap.size + 1 ≤ W.heap.size:=by omega
  have hcbge : w.heap.size + 1 < w2.heap.size:=by omega
  have lbw : l5 = l5:=rfl
  clear lbw t3 t5 t10 t11 t12 t13 t14 t15 t16 t17 g0 g1 g2 u0 u1 u2 f0 f1 f2 v0 v1 v2 hbW hb02 HB1 HB2 l31 l41 l32 l42 l52 SN hlt s1 hcbW s2
  rw [← hPc,← hPl]
  have hp1 : w.heap.size < P.lb:=by omega
  have hp2 : P.lb < P.cb:=by omega
  have hp3 : w.heap.size < P.cb:=by omega
  clear hPc hPl hcbge hbWs
  go_wp2_with fail
  have hmf : ∀ (fn : Fn) (first cap : Array Value) (w : World),(Instr.makeFunc fn first cap).run Try.prog w = .ok (.func fn first cap) w:=fun _ _ _ _=>rfl
  have hst:=Lib.hid (fun n (hn : n ≤ args.length)=>(stores_ok (n:=h.objs.length) (args.take n) (List.replicate m.locals.toNat Vl.nil) 0 (fresh_ok _ _) (fun v hv=>HV.out v (List.mem_of_mem_take hv)) (by have:=size_take_leP (args:=args) n;simp;omega)))
  go_loopw [5,17] (fun a i wr=>∃ n : Nat,i = .int .i64 n ∧ a = .int .i64 (size (args.take n) : Nat) ∧ n ≤ args.length ∧ Hid (Kp (· = P.lb) W wr) ∧ Hid (ST E wr L P m d h ⟨stores (List.replicate m.locals.toNat Vl.nil) 0 (args.take n),[],0⟩ (.slice none 0 0))) (fun _ i _=>args.length - (intOf i).toNat)
  case atStart=>exact ⟨0,rfl,by simp [size],Nat.zero_le _,Lib.hid (Kp.refl _ _),by simpa [stores] using SN0⟩
  case round =>
    obtain ⟨n,rfl,rfl,hn,KL,SL⟩:=hrel
    by_cases hlt : n < args.length
    · obtain ⟨ab,ao,acap',heq,hc1,hc2,hab,hnx,hel⟩:=VA.out.form (by omega)
      simp only [Value.slice.injEq] at heq
      obtain ⟨rfl,_,rfl⟩:=heq
      have hn1 : (n : Int) < args.length:=by omega
      obtain ⟨z0,z1⟩:=hel n hlt
      have hane : ab ≠ P.lb:=fun e=>hnx (by omega)
      have y0:=KL.out.cell z0 (fun e=>hane e)
      have y1:=KL.out.cell z1 (fun e=>hane e)
      obtain ⟨v,hv⟩:=at_of hlt
      rw [hv.out] at y0 y1
      have hfit : size (args.take n) + width v ≤ m.locals.toNat:=by
        have h1:=size_take args n hlt
        have h2:=size_take_leP (args:=args) (n + 1)
        rw [hv.out] at h1
        omega
      have hstep : Hid (stores (List.replicate m.locals.toNat Vl.nil) 0 (args.take (n + 1)) = Run.store (stores (List.replicate m.locals.toNat Vl.nil) 0 (args.take n)) (size (args.take n)) v):=by show _ = _;rw [stores_takeP hlt,hv.out]
      have hsum : Hid (size (args.take (n + 1)) = size (args.take n) + width v):=by show _ = _;rw [size_take args n hlt,hv.out]
      obtain ⟨vk,vn⟩:=v
      have c9:=SL.out.c9
      have hcb:=SL.out.cbw
      have hlbw:=SL.out.lbw
      have ln : (stores (List.replicate m.locals.toNat Vl.nil) 0 (args.take n)).length = m.locals.toNat:=by rw [(hst.out n hn).2];simp
      simp only [ln] at c9
      have STP:=Lib.hid (fun (w' : World) (hB : Blk w' P.lb (vcells (stores (List.replicate m.locals.toNat Vl.nil) 0 (args.take n)))) (hb : P.lb < w'.heap.size)=>storeP hB hb (hst.out n hn).1.pair (size (args.take n)) ⟨vk,vn⟩ (by rw [ln];exact hfit) (by rw [ln];omega))
      rw [ln] at STP
      have FB:=Lib.hid SL.out.loc
      have hne1 : P.cb ≠ P.lb:=by omega
      have hwl : wr.heap.size ≠ P.lb:=by omega
      have LN:=Lib.hid ln
      have HFIT:=Lib.hid hfit
      clear hel z0 z1 ln hfit hv
      go_wp2_with fail
      refine wp_region_held_drew (S:=fun w'=>w'.cell? ⟨P.cb,9,none⟩ = some (.slice (some ⟨P.lb,0,none⟩) m.locals.toNat m.locals.toNat) ∧ w'.cell? ⟨wr.heap.size,0,none⟩ = some (.int .i64 vk) ∧ w'.cell? ⟨wr.heap.size,1,none⟩ = some (.int .i64 vn)) (by kernel_rfl) (by (try dsimp only);refine ⟨?_,?_,?_⟩ <;> go_simp) (fun hHeld=>?_)
      refine Drawn.tk 0 (some 21) rfl rfl (by assumption) ?_
      try simp only [Act.put,Drawn.La,Drawn.Lb,Drawn.Lc]
      refine Drawn.tk 1 (some 22) rfl rfl (by assumption) ?_
      try simp only [Act.put,Drawn.La,Drawn.Lb,Drawn.Lc]
      refine Drawn.tk 2 (some 23) rfl rfl (by assumption) ?_
      try simp only [Act.put,Drawn.La,Drawn.Lb,Drawn.Lc]
      refine Drawn.tk 3 (some 24) rfl rfl (by assumption) ?_
      try simp only [Act.put,Drawn.La,Drawn.Lb,Drawn.Lc]
      refine Drawn.tk 4 (some 25) rfl rfl (by assumption) ?_
      try simp only [Act.put,Drawn.La,Drawn.Lb,Drawn.Lc]
      refine Drawn.tk 5 (some 26) rfl rfl (by assumption) ?_
      try simp only [Act.put,Drawn.La,Drawn.Lb,Drawn.Lc]
      refine wpAnyH_ready (rs:=[6]) (by kernel_rfl) (by simp) ?_
      refine AllReadyH.cons rfl (fun K hK=>?_) AllReadyH.nil
      go_simp
      go_at_call 122
      refine (STP.out _ (FB.out.next (Kp.of_below (B:=wr.heap.size) (X:=fun _=>False) (by exact Rd.byB) (Nat.le_refl _)) (fun e=>e)) (by simp;omega)).mono ?_
      rintro e w3 ⟨rfl,B3,K3⟩
      have y9:=K3.cell (c:=P.cb) (o:=9) (v:=.slice (some ⟨P.lb,0,none⟩) m.locals.toNat m.locals.toNat) (by go_simp) hne1
      have y70:=K3.cell (c:=wr.heap.size) (o:=0) (v:=.int .i64 vk) (by go_simp) hwl
      have y71:=K3.cell (c:=wr.heap.size) (o:=1) (v:=.int .i64 vn) (by go_simp) hwl
      have K4:=Lib.hid ((Kp.of_below (w:=wr) (B:=wr.heap.size) (X:=(· = P.lb)) (by exact Rd.byB) (Nat.le_refl _)).trans K3 (fun _ e=>.inl e))
      have B4:=Lib.hid B3
      have l71:=cell_lt y70
      clear K3 B3 y0 y1 c9
      go_wp2_with fail
      refine hK.out _ _ (by (try dsimp only);exact ⟨y9,y70,y71⟩) (fun hHeld=>?_)
      clear hK K
      try simp only [Act.put,Drawn.La,Drawn.Lb,Drawn.Lc]
      refine wpAnyH_done (by kernel_rfl) ?_ _
      go_wp2_with fail
      go_at_call 123
      refine (slotsP ⟨vk,vn⟩ _).mono ?_
      rintro e w4 ⟨rfl,hb4⟩
      have hb4' : Below w3.heap.size w3 w4:=Below.trans (by exact Rd.byB) (hb4.mono Rd.byL)
      have K5:=Lib.hid (K4.out.trans (Kp.of_below (X:=(· = P.lb)) hb4' (Nat.le_refl _)) (fun _ e=>.inl e))
      have B5:=Lib.hid (B4.out.next (Kp.of_below (X:=fun _=>False) hb4' (Nat.le_refl _)) (fun e=>e))
      go_wp2_with fail
      go_roundw
      case rel =>
        refine ⟨n + 1,by go_num,?_,hlt,Lib.hid (KL.out.trans K5.out (fun _ e=>.inl e)),?_⟩
        · rw [hsum.out]
          have hfi:=HFIT.out
          have h2 : wrap64 ((size (args.take n) : Int) + (width ⟨vk,vn⟩ : Nat)) = ((size (args.take n) + width ⟨vk,vn⟩ : Nat) : Int):=by rw [← Int.natCast_add];exact wrap64_id (by unfold Ok;omega)
          first | (simp only [Num.wrap_i64];rw [h2]) | rw [h2]
        · rw [hstep.out]
          exact Lib.hid (SL.out.newLoc (by simp [store_len]) K5.out B5.out)
      case measure=>first | (simp [intOf];done) | (simp [intOf];omega)
    · obtain rfl : n = args.length:=by omega
      rw [List.take_length] at SL
      have hn1 : ¬ (args.length : Int) < args.length:=by omega
      have hwl : w.heap.size ≠ P.lb:=by omega
      have k0:=KL.out.frz d0 HW0 hwl
      have k1:=KL.out.frz d1 HW0 hwl
      have k2:=KL.out.frz d2 HW0 hwl
      have j0:=KL.out.cell e0 hwl
      have j1:=KL.out.cell e1 hwl
      have j2:=KL.out.cell e2 hwl
      have hbf : Below w.heap.size w wr:=HBW.out.trans (KL.out.below (by omega) (fun k e=>by omega))
      have hwr:=cell_lt j0
      have nfr : ¬ fo E L P (.slice none 0 0) w.heap.size:=fun hk=>by
        rcases hk with q | q | q | q
        · have:=own_lo HH.out q;omega
        · omega
        · omega
        · simp [Value.ownBlock] at q
      have SF:=SL
      clear SL d0 d1 d2 e0 e1 e2
      go_wp2_with fail
      refine bodyPost_ret (v:=frV P.cb) (by unfold frV;simp [results,Try.results121,go_sem] <;> go_simp) rfl ?_
      refine ⟨P,rfl,by exact Rd.byB,?_,by omega,by omega⟩
      exact ((SF.out.res (by omega) nfr _ _).res (by omega) nfr _ _).res (by omega) nfr _ _
end
end Hpw
end Go.Proofs.Ytncmhenfgbcihab
namespace Go.Proofs.Ytncmhenfgbcihab
open Go.RowKit
set_option linter.unusedSimpArgs false
set_option linter.unusedVariables false
namespace Hpw
open Num Rd D Run Mem HierW
set_option maxRecDepth 100000 in
theorem assertT (o : Int) (w : World) : (Instr.typeAssert (.iface 198 (.agg #[.int .i64 o])) 20 198 true).run Try.prog w = .ok (.tuple #[.agg #[.int .i64 o],.bool true]) w:=by kernel_rfl
set_option maxRecDepth 100000 in
theorem assertS (c : Int) (w : World) : (Instr.typeAssert (.iface 196 (.agg #[.int .i64 c])) 20 198 true).run Try.prog w = .ok (.tuple #[.agg #[.int .i64 0],.bool false]) w:=by kernel_rfl
set_option maxHeartbeats 1000000 in
theorem tryIdle (p q : Addr) (w : World) : CallsD Try.prog 210 #[.pointer (some p),.pointer (some q)] .returning w fun e u' w'=>e = .returned (.tuple #[]) ∧ u' = .returning ∧ w' = w:=by
  refine callsD_of_wpS Try.func210 rfl fun c₀ cs hu=>?_
  apply wpS_seq
  apply wpS_region
  simp [wpOpsS,go_sem,recoverD,hu,Try.ntmps210,Exit.thenS]
  refine wpS_of_wp ?_
  go_wp2
  all_goals (cases c₀;simp_all [bodyPostS,results,Try.results210])
set_option maxRecDepth 100000 in
set_option maxHeartbeats 1000000 in
theorem tryThrown (n m : Nat) (o : Int) (hnm : n ≠ m) (older : List PanicEntry) (w : World) (h0 : w.cell? ⟨n, 0, none⟩ = some (.int .i64 0)) (hf0 : w.frozen? ⟨n, 0, none⟩ = false) (h1 : w.cell? ⟨m, 0, none⟩ = some (.bool false)) (hf1 : w.frozen? ⟨m, 0, none⟩ = false) :
    CallsD Try.prog 210 #[.pointer (some ⟨n,0,none⟩),.pointer (some ⟨m,0,none⟩)] (.panicking ({ v:=thrownV o,recovered:=false } :: older)) w fun e u' w' =>
      e = .returned (.tuple #[]) ∧ u' = .panicking ({ v:=thrownV o,recovered:=true } :: older) ∧ w' = ((w.setCell ⟨n,0,none⟩ (.int .i64 o)).setCell ⟨m,0,none⟩ (.bool true)).alloc (.cells #[.int .i64 o] 198):=by
  have hta:=assertT o
  have hn:=cell_lt h0
  have hm:=cell_lt h1
  unfold thrownV
  refine callsD_of_wpS Try.func210 rfl fun c₀ cs hu=>?_
  apply wpS_seq
  apply wpS_region
  simp [wpOpsS,go_sem,recoverD,hu,Try.ntmps210,Exit.thenS]
  rw [show (Array.replicate 16 undef : Array Value) = #[undef,undef,undef,undef,undef,undef,undef,undef,undef,undef,undef,undef,undef,undef,undef,undef] from rfl]
  simp only [List.setIfInBounds_toArray,List.set_cons_succ,List.set_cons_zero,List.append_toArray,List.cons_append,List.nil_append]
  refine wpS_of_wp ?_
  go_wp2
  simp [bodyPostS,results,Try.results210]
set_option maxRecDepth 100000 in
set_option maxHeartbeats 1000000 in
theorem tryStop (p q : Addr) (c : Int) (older : List PanicEntry) (w : World) :
    CallsD Try.prog 210 #[.pointer (some p),.pointer (some q)] (.panicking ({ v:=stopV c,recovered:=false } :: older)) w fun e u' w' =>
      e = .panicked [{ v:=stopV c,recovered:=false }] ∧ u' = .panicking ({ v:=stopV c,recovered:=true } :: older) ∧ w' = w.alloc (.cells #[.int .i64 0] 198):=by
  have hta:=assertS c
  unfold stopV
  refine callsD_of_wpS Try.func210 rfl fun c₀ cs hu=>?_
  apply wpS_seq
  apply wpS_region
  simp [wpOpsS,go_sem,recoverD,hu,Try.ntmps210,Exit.thenS]
  rw [show (Array.replicate 16 undef : Array Value) = #[undef,undef,undef,undef,undef,undef,undef,undef,undef,undef,undef,undef,undef,undef,undef,undef] from rfl]
  simp only [List.setIfInBounds_toArray,List.set_cons_succ,List.set_cons_zero,List.append_toArray,List.cons_append,List.nil_append]
  refine wpS_of_wp ?_
  go_wp2
  simp [bodyPostS,results,Try.results210]
theorem drop_all : ∀ (l : List PanicEntry),(∀ x ∈ l,x.goexit = false) → l.dropWhile (fun x=>!x.goexit) = []:=by
  intro l
  induction l with
  | nil=>intro _;rfl
  | cons x l ih =>
    intro h
    rw [List.dropWhile_cons,if_pos (by simp [h x (by simp)])]
    exact ih (fun y hy=>h y (by simp [hy]))
def TryR2 (E : Ev) (L : Lay) (P : PS) (m : Me) (d : Nat) (vs : Value) (fr : Sf) (b12 b13 : Nat) (w0 : World) (a : Out Sf) (e : Ending) (w' : World) : Prop:=match a with
  | .go fr' h=>e = .returned (.tuple #[.int .i64 0,.bool false]) ∧ w'.cell? ⟨b12,0,none⟩ = some (.bool false) ∧ LftF E L P m d vs w0 w' h fr'
  | .back v h=>e = .returned (.tuple #[.int .i64 0,.bool false]) ∧ w'.cell? ⟨b12,0,none⟩ = some (.bool true) ∧ w'.cell? ⟨b13,0,none⟩ = some (.int .i64 v.kind) ∧ w'.cell? ⟨b13,1,none⟩ = some (.int .i64 v.n) ∧ ∃ st,LftF E L P m d vs w0 w' h ⟨fr.loc,st,fr.at_⟩
  | .thrown o h=>e = .returned (.tuple #[.int .i64 o,.bool true]) ∧ w'.cell? ⟨b12,0,none⟩ = some (.bool false) ∧ ∃ st L1 vs1,Gr E L P vs w0 L1 vs1 w' ∧ ST E w' L1 P m d h ⟨fr.loc,st,fr.at_⟩ vs1 ∧ ¬ fo E L1 P vs1 b12
  | .stop c h=>Pan (stopV c) e ∧ LftS E L P d vs w0 w' h
section
variable {E : Ev} {w w' w0 w1 w2 : World} {L L' L1 : Lay} {h h' h1 h2 : Hp} {d : Nat} {P : PS} {m : Me} {fr fr' fr1 : Sf} {vs vs1 : Value}
theorem LftF.upon2 (S : ST E w0 L P m d h' fr' vs) (hb : Below w0.heap.size w0 w) (A : LftF E L P m d vs w w1 h fr) {X : Nat → Prop} (K : Kp X w1 w2) (hX : ∀ k,X k → w0.heap.size ≤ k ∧ k < w.heap.size) : ∃ L1 vs1,Gr E L P vs w0 L1 vs1 w2 ∧ ST E w2 L1 P m d h fr vs1 ∧ ∀ k,w0.heap.size ≤ k → k < w.heap.size → ¬ fo E L1 P vs1 k:=by
  obtain ⟨L1,vs1,G,S1⟩:=A.opn
  have hs:=hb.size
  have hEB:=S.base
  have lo : ∀ k,fo E L P vs k → k < w0.heap.size:=fun k hk=>(S.fo_lo hk).2
  have nf : ∀ k,X k → ¬ fo E L1 P vs1 k:=fun k hk hf=>by
    obtain ⟨x1,x2⟩:=hX k hk
    rcases G.fo hf with q | q
    · have:=lo k q;omega
    · omega
  have K0 : Kp (fo E L P vs) w0 w2:=((Kp.of_below (X:=fo E L P vs) hb (Nat.le_refl _)).trans G.kp (fun y hy=>.inl hy)).trans K (fun y hy=>.inr (hX y hy).1)
  refine ⟨L1,vs1,⟨K0,fun k hk=>(G.ow k hk).imp id (fun q=>by omega),fun k hk=>(G.st k hk).imp id (fun q=>by omega)⟩,?_,fun k l1 l2 hf=>by
    rcases G.fo hf with q | q
    · have:=lo k q;omega
    · omega⟩
  have no : ∀ k,fo E L1 P vs1 k → ¬ X k:=fun k hk hx=>nf k hx hk
  exact ⟨S1.H.keep K (fun k hk=>⟨by have:=(hX k hk).1;omega,fun q=>nf k hk (.inl q)⟩),S1.M.mono (K.below S1.base (fun k hk=>by have:=(hX k hk).1;omega)),S1.blk.next K (no _ (.inr (.inl rfl))),S1.loc.next K (no _ (.inr (.inr (.inl rfl)))),Nat.lt_of_lt_of_le S1.lbw K.size,row_keep S1.stk K (fun g hg=>no g (.inr (.inr (.inr hg)))),S1.lo,S1.far,S1.ne⟩
set_option maxRecDepth 100000 in
set_option maxHeartbeats 4000000 in
theorem tryP (S : ST E w0 L P m d h fr vs) (hb : Below w0.heap.size w0 w) {b11 b12 b13 : Nat} (h12 : w0.heap.size ≤ b12 ∧ b12 < w.heap.size) (h13 : w0.heap.size ≤ b13 ∧ b13 < w.heap.size) (hne : b12 ≠ b13)
    (c11 : w.cell? ⟨b11,0,none⟩ = some (.func (.func 124) #[.pointer (some ⟨P.cb,0,none⟩)] #[])) (c12 : w.cell? ⟨b12,0,none⟩ = some (.bool false)) (f12 : w.frozen? ⟨b12,0,none⟩ = false) (c130 : w.cell? ⟨b13,0,none⟩ = some (.int .i64 0)) (c131 : w.cell? ⟨b13,1,none⟩ = some (.int .i64 0)) (f130 : w.frozen? ⟨b13,0,none⟩ = false) (f131 : w.frozen? ⟨b13,1,none⟩ = false)
    (a : Out Sf) (hdo : ∀ W,Below w.heap.size w W → Calls Try.prog 124 #[.pointer (some ⟨P.cb,0,none⟩)] W (DoR E L P m d vs fr W a)) :
    Calls Try.prog 174 #[.func (.func 175) #[] #[.pointer (some ⟨b11,0,none⟩),.pointer (some ⟨b13,0,none⟩),.pointer (some ⟨b12,0,none⟩)]] w (TryR2 E L P m d vs fr b12 b13 w0 a):=by
  have hmf : ∀ (fn : Fn) (first cap : Array Value) (w : World),(Instr.makeFunc fn first cap).run Try.prog w = .ok (.func fn first cap) w:=fun _ _ _ _=>rfl
  have HS:=Lib.hid S
  have HB:=Lib.hid hb
  have hbs:=hb.size
  have lo : ∀ k,fo E L P vs k → k < w0.heap.size:=fun k hk=>(S.fo_lo hk).2
  have n12 : ¬ fo E L P vs b12:=fun hk=>by have:=lo _ hk;omega
  have n13 : ¬ fo E L P vs b13:=fun hk=>by have:=lo _ hk;omega
  have nr : ¬ fo E L P vs w.heap.size:=fun hk=>by have:=lo _ hk;omega
  have nr2 : ¬ fo E L P vs (w.heap.size + 1):=fun hk=>by have:=lo _ hk;omega
  have h12b:=h12.2
  have h13b:=h13.2
  have l11:=cell_lt c11
  have hDo:=Lib.hid (hdo ((w.alloc (.cells #[.int .i64 0] 2)).alloc (.cells #[.bool false] 4)) (by exact Rd.byB))
  have hBT:=Lib.hid (hb.trans (Below.mono (B:=w.heap.size) (show Below w.heap.size w ((w.alloc (.cells #[.int .i64 0] 2)).alloc (.cells #[.bool false] 4)) from Rd.byB) hbs))
  clear S hb lo hdo
  go_enter_defers Try.func174,Try.ntmps174
  go_wp2_with fail
  refine (cloP n12 n13 (by simp;omega) (by simp;omega) hne (by go_simp) (by go_simp) (by go_simp) (by go_simp) (by go_simp) (by go_simp) (by go_simp) a hDo.out).mono ?_
  rintro e w2 R
  cases a with
  | go fr' h' =>
    obtain ⟨rfl,y12,wd,A,K⟩:=R
    have x0:=A.box (b:=w.heap.size) (o:=0) (v:=.int .i64 0) (by go_simp) nr
    have x1:=A.boxf (b:=w.heap.size) (o:=0) (x:=false) (by go_simp) (by simp;try omega) nr
    have x2:=A.box (b:=w.heap.size + 1) (o:=0) (v:=.bool false) (by go_simp) nr2
    have x3:=A.boxf (b:=w.heap.size + 1) (o:=0) (x:=false) (by go_simp) (by simp) nr2
    have z0:=K.cell x0 (by omega)
    have z1:=K.frz x1 (cell_lt x0) (by omega)
    have z2:=K.cell x2 (by omega)
    have z3:=K.frz x3 (cell_lt x2) (by omega)
    clear x0 x1 x2 x3
    go_wp2_with fail
    refine leaves_cons (f:=210) (args:=#[.pointer (some ⟨w.heap.size,0,none⟩),.pointer (some ⟨w.heap.size + 1,0,none⟩)]) (by simp) (by simp [go_sem]) ?_
    refine (tryIdle _ _ _).mono ?_
    rintro e u' w'' ⟨rfl,rfl,rfl⟩
    have l0:=cell_lt z0
    have l2:=cell_lt z2
    simp [Leaves,settle,results,Try.results174,go_sem,z0,z2,l0,l2]
    refine ⟨rfl,by go_simp,LftF.upon HS.out hBT.out A (X:=fun k=>k = b12 ∨ k = b13 ∨ k = w.heap.size ∨ k = w.heap.size + 1) (((K.mono (fun k hk=>hk.elim .inl (fun e=>.inr (.inl e)))).setCell (p:=⟨w.heap.size,0,none⟩) (.inl (.inr (.inr (.inl rfl)))) _).setCell (p:=⟨w.heap.size + 1,0,none⟩) (.inl (.inr (.inr (.inr rfl)))) _) (fun k hk=>by simp;omega)⟩
  | back v h' =>
    obtain ⟨rfl,y12,y130,y131,wd,st,A,K⟩:=R
    have x0:=A.box (b:=w.heap.size) (o:=0) (v:=.int .i64 0) (by go_simp) nr
    have x1:=A.boxf (b:=w.heap.size) (o:=0) (x:=false) (by go_simp) (by simp;try omega) nr
    have x2:=A.box (b:=w.heap.size + 1) (o:=0) (v:=.bool false) (by go_simp) nr2
    have x3:=A.boxf (b:=w.heap.size + 1) (o:=0) (x:=false) (by go_simp) (by simp) nr2
    have z0:=K.cell x0 (by omega)
    have z1:=K.frz x1 (cell_lt x0) (by omega)
    have z2:=K.cell x2 (by omega)
    have z3:=K.frz x3 (cell_lt x2) (by omega)
    clear x0 x1 x2 x3
    go_wp2_with fail
    refine leaves_cons (f:=210) (args:=#[.pointer (some ⟨w.heap.size,0,none⟩),.pointer (some ⟨w.heap.size + 1,0,none⟩)]) (by simp) (by simp [go_sem]) ?_
    refine (tryIdle _ _ _).mono ?_
    rintro e u' w'' ⟨rfl,rfl,rfl⟩
    have l0:=cell_lt z0
    have l2:=cell_lt z2
    simp [Leaves,settle,results,Try.results174,go_sem,z0,z2,l0,l2]
    refine ⟨rfl,by go_simp,by go_simp,by go_simp,st,LftF.upon HS.out hBT.out A (X:=fun k=>k = b12 ∨ k = b13 ∨ k = w.heap.size ∨ k = w.heap.size + 1) (((K.mono (fun k hk=>hk.elim .inl (fun e=>.inr (.inl e)))).setCell (p:=⟨w.heap.size,0,none⟩) (.inl (.inr (.inr (.inl rfl)))) _).setCell (p:=⟨w.heap.size + 1,0,none⟩) (.inl (.inr (.inr (.inr rfl)))) _) (fun k hk=>by simp;omega)⟩
  | thrown o h' =>
    obtain ⟨⟨older,hol,rfl⟩,y12,st,A⟩:=R
    have x0:=A.box (b:=w.heap.size) (o:=0) (v:=.int .i64 0) (by go_simp) nr
    have x1:=A.boxf (b:=w.heap.size) (o:=0) (x:=false) (by go_simp) (by simp;try omega) nr
    have x2:=A.box (b:=w.heap.size + 1) (o:=0) (v:=.bool false) (by go_simp) nr2
    have x3:=A.boxf (b:=w.heap.size + 1) (o:=0) (x:=false) (by go_simp) (by simp) nr2
    have hdw:=drop_all older hol
    go_wp2_with fail
    refine leaves_cons (f:=210) (args:=#[.pointer (some ⟨w.heap.size,0,none⟩),.pointer (some ⟨w.heap.size + 1,0,none⟩)]) (by simp) (by simp [go_sem]) ?_
    refine (tryThrown w.heap.size (w.heap.size + 1) o (by omega) older _ x0 x1 x2 x3).mono ?_
    rintro e u' w'' ⟨rfl,rfl,rfl⟩
    have l0:=cell_lt x0
    have l2:=cell_lt x2
    have l12:=cell_lt y12
    simp [Leaves,settle,hdw,results,Try.results174,go_sem,x0,x2,l0,l2]
    obtain ⟨L9,v9,G9,S9,N9⟩:=LftF.upon2 HS.out hBT.out A (X:=fun k=>k = w.heap.size ∨ k = w.heap.size + 1) ((((Kp.refl (fun k=>k = w.heap.size ∨ k = w.heap.size + 1) w2).setCell (p:=⟨w.heap.size,0,none⟩) (.inl (.inl rfl)) (.int .i64 o)).setCell (p:=⟨w.heap.size + 1,0,none⟩) (.inl (.inr rfl)) (.bool true)).alloc (.cells #[.int .i64 o] 198)) (fun k hk=>by simp;omega)
    exact ⟨rfl,by go_simp,st,L9,v9,G9,S9,N9 b12 h12.1 (by simp;omega)⟩
  | stop c h' =>
    obtain ⟨⟨older,hol,rfl⟩,A⟩:=R
    go_wp2_with fail
    refine leaves_cons (f:=210) (args:=#[.pointer (some ⟨w.heap.size,0,none⟩),.pointer (some ⟨w.heap.size + 1,0,none⟩)]) (by simp) (by simp [go_sem]) ?_
    refine (tryStop _ _ c older _).mono ?_
    rintro e u' w'' ⟨rfl,rfl,rfl⟩
    simp only [Leaves,raised]
    refine ⟨⟨{ v:=stopV c,recovered:=true } :: older,fun x hx=>?_,rfl⟩,LftS.upon HS.out hBT.out A (X:=fun _=>False) ((Kp.refl _ w2).alloc _) (fun k hk=>hk.elim)⟩
    rcases List.mem_cons.1 hx with e | e
    · subst e;rfl
    · exact hol x e
end
end Hpw
end Go.Proofs.Ytncmhenfgbcihab
namespace Go.Proofs.Ytncmhenfgbcihab
open Go.RowKit
set_option linter.unusedSimpArgs false
set_option linter.unusedVariables false
namespace Hpw
open Num Rd D Run Mem HierW
section
variable {E : Ev} {w w' w1 w2 : World} {L L' L1 : Lay} {h h' h1 h2 : Hp} {d : Nat} {P : PS} {m m2 : Me} {fr fr' fr1 : Sf} {vs vs1 : Value}
theorem PH.deep (H : PH E w L h d) (d' : Nat) : PH E (w.setCell ⟨E.hb,10,none⟩ (.int .i64 d')) L h d':=H.set 10 (by omega) _ rfl rfl (by simp [cellsP])
theorem Lft.deep (A : Lft E L d w w1 h) (d' : Nat) : Lft E L d' w (w1.setCell ⟨E.hb,10,none⟩ (.int .i64 d')) h:=by
  obtain ⟨L1,K1,N1,H1⟩:=A
  exact ⟨L1,K1.setCell (p:=⟨E.hb,10,none⟩) (.inl (.inl rfl)) _,N1,H1.deep d'⟩
set_option maxHeartbeats 1000000 in
theorem leaveP (b0 : Nat) (u : FrameMode) (H : PH E w L h (d + 1)) (hd : d ≤ 1000) (c : w.cell? ⟨b0, 0, none⟩ = some (.pointer (some ⟨E.hb, 0, none⟩))) :
    CallsD Try.prog 173 #[.pointer (some ⟨b0,0,none⟩)] u w fun e u' w'=>u' = u ∧ (e = .returned (.tuple #[]) ∧ w' = w.setCell ⟨E.hb,10,none⟩ (.int .i64 d)):=by
  have c10:=H.c10
  have f10:=H.fz 10 (by decide)
  have hhb:=H.hbw
  have hw : IntKind.i64.wrap (((d + 1 : Nat) : Int) - 1) = (d : Int):=by rw [show (((d + 1 : Nat) : Int) - 1) = (d : Int) by omega,Num.wrap_i64,wrap64_id (by unfold Ok;omega)]
  have hw2 : IntKind.i64.wrap ((d : Int) + 1 - 1) = (d : Int):=by rw [show ((d : Int) + 1 - 1) = (d : Int) by omega,Num.wrap_i64,wrap64_id (by unfold Ok;omega)]
  have hw3 : wrap64 ((d : Int) + 1 - 1) = (d : Int):=by rw [show ((d : Int) + 1 - 1) = (d : Int) by omega];exact wrap64_id (by unfold Ok;omega)
  refine callsD_of_wp (R:=fun e w'=>e = .returned (.tuple #[]) ∧ w' = w.setCell ⟨E.hb,10,none⟩ (.int .i64 d)) Try.func173 rfl ?_
  rw [Try.ntmps173]
  rw [show (#[Value.pointer (some ⟨b0,0,none⟩)] ++ Array.replicate (8 - (#[Value.pointer (some ⟨b0,0,none⟩)] : Array Value).size) undef : Array Value) = #[Value.pointer (some ⟨b0,0,none⟩),undef,undef,undef,undef,undef,undef,undef] from rfl]
  go_wp2_with fail
  go_end0
  exact ⟨rfl,by simp⟩
end
end Hpw
end Go.Proofs.Ytncmhenfgbcihab
namespace Go.Proofs.Ytncmhenfgbcihab
open Go.RowKit
set_option linter.unusedSimpArgs false
set_option linter.unusedVariables false
namespace Hpw
open Num Rd D Run Mem HierW
section
variable {E : Ev} {w w' w1 w2 : World} {L L' L1 : Lay} {h h' h1 h2 : Hp} {d : Nat} {P : PS} {m m2 : Me} {fr fr' fr1 : Sf} {vs vs1 : Value}
theorem blk8 {w : World} {b : Nat} {v0 v1 v2 v3 v4 v5 v6 v7 : Value} (c0 : w.cell? ⟨b,0,none⟩ = some v0) (c1 : w.cell? ⟨b,1,none⟩ = some v1) (c2 : w.cell? ⟨b,2,none⟩ = some v2) (c3 : w.cell? ⟨b,3,none⟩ = some v3) (c4 : w.cell? ⟨b,4,none⟩ = some v4) (c5 : w.cell? ⟨b,5,none⟩ = some v5) (c6 : w.cell? ⟨b,6,none⟩ = some v6) (c7 : w.cell? ⟨b,7,none⟩ = some v7) (f0 : w.frozen? ⟨b,0,none⟩ = false) (f1 : w.frozen? ⟨b,1,none⟩ = false) (f2 : w.frozen? ⟨b,2,none⟩ = false) (f3 : w.frozen? ⟨b,3,none⟩ = false) (f4 : w.frozen? ⟨b,4,none⟩ = false) (f5 : w.frozen? ⟨b,5,none⟩ = false) (f6 : w.frozen? ⟨b,6,none⟩ = false) (f7 : w.frozen? ⟨b,7,none⟩ = false) : Blk w b [v0,v1,v2,v3,v4,v5,v6,v7]:=fun j hj =>
  match j,hj with
  | 0,_=>⟨c0,f0⟩
  | 1,_=>⟨c1,f1⟩
  | 2,_=>⟨c2,f2⟩
  | 3,_=>⟨c3,f3⟩
  | 4,_=>⟨c4,f4⟩
  | 5,_=>⟨c5,f5⟩
  | 6,_=>⟨c6,f6⟩
  | 7,_=>⟨c7,f7⟩
  | n + 8,hj=>absurd hj (by simp)
theorem Lft.res2 (H : PH E w L h' d) (hb : Below w.heap.size w w1) (A : Lft E L d w1 w2 h) {b : Nat} (h1 : w.heap.size ≤ b) (h2 : b < w1.heap.size) (x y : Value) : Lft E L d w ((w2.setCell ⟨b,0,none⟩ x).setCell ⟨b,1,none⟩ y) h:=by
  obtain ⟨L1,K1,N1,H1⟩:=A
  have K0:=(Kp.of_below (X:=own E L) hb (Nat.le_refl _)).trans K1 (fun _ h=>.inl h)
  have nb : ¬ own E L1 b:=fun hk=>by
    rcases N1 b hk with q | q
    · have:=own_lo H q;omega
    · omega
  have hEB:=H.base
  have K3 : Kp (fun k=>k = b) w2 ((w2.setCell ⟨b,0,none⟩ x).setCell ⟨b,1,none⟩ y):=((Kp.refl (fun k=>k = b) w2).setCell (p:=⟨b,0,none⟩) (.inl rfl) x).setCell (p:=⟨b,1,none⟩) (.inl rfl) y
  exact ⟨L1,(K0.setCell (p:=⟨b,0,none⟩) (.inr h1) x).setCell (p:=⟨b,1,none⟩) (.inr h1) y,fun k hk=>(N1 k hk).imp id (fun q=>Nat.le_trans hb.size q),H1.keep K3 (fun k e=>by subst e;exact ⟨by omega,nb⟩)⟩
theorem Lft.cell (A : Lft E L d w w1 h) {b o : Nat} {v : Value} (hc : w.cell? ⟨b,o,none⟩ = some v) (hn : ¬ own E L b) : w1.cell? ⟨b,o,none⟩ = some v:=by
  obtain ⟨L1,K1,N1,H1⟩:=A
  exact K1.cell hc hn
theorem Lft.frz (A : Lft E L d w w1 h) {b o : Nat} {x : Bool} (hl : b < w.heap.size) (hc : w.frozen? ⟨b,o,none⟩ = x) (hn : ¬ own E L b) : w1.frozen? ⟨b,o,none⟩ = x:=by
  obtain ⟨L1,K1,N1,H1⟩:=A
  exact K1.frz hc hl hn
set_option maxRecDepth 100000 in
set_option maxHeartbeats 2000000 in
theorem invokeP (H : PH E w L h d) (X : Nat → Prop) {va : Value} (args : List Vl) {vp vc vh : Value} (hVM : VMe w E.B (.agg #[vp, .int .i64 m.ret.kind, .int .i64 m.ret.cls, .int .i64 m.stack, .int .i64 m.locals, .int .i64 m.regs, vc, vh]) m) (ha : VS w X va args) (r : Res Vl)
    (hC : ∀ (W : World) (b3 b4 b5 : Nat),Below w.heap.size w W → w.heap.size ≤ b3 → w.heap.size ≤ b4 → w.heap.size ≤ b5 → W.cell? ⟨b3,0,none⟩ = some (.pointer (some ⟨E.hb,0,none⟩)) → W.cell? ⟨b5,0,none⟩ = some va →
      Blk W b4 [vp,.int .i64 m.ret.kind,.int .i64 m.ret.cls,.int .i64 m.stack,.int .i64 m.locals,.int .i64 m.regs,vc,vh] →
      Calls Try.prog 120 #[.pointer (some ⟨E.hb,0,none⟩),.agg #[vp,.int .i64 m.ret.kind,.int .i64 m.ret.cls,.int .i64 m.stack,.int .i64 m.locals,.int .i64 m.regs,vc,vh],va,.func (.func 121) #[] #[.pointer (some ⟨b3,0,none⟩),.pointer (some ⟨b4,0,none⟩),.pointer (some ⟨b5,0,none⟩)]] W (InvR E L d W r)) :
    Calls Try.prog 64 #[.pointer (some ⟨E.hb,0,none⟩),.agg #[vp,.int .i64 m.ret.kind,.int .i64 m.ret.cls,.int .i64 m.stack,.int .i64 m.locals,.int .i64 m.regs,vc,vh],va] w (InvR E L d w r):=by
  have HH:=Lib.hid H
  obtain ⟨vp',vc',vh',hmv',oks,sps,sco,shs⟩:=hVM
  obtain ⟨rfl,rfl,rfl⟩ : vp = vp' ∧ vc = vc' ∧ vh = vh':=by
    simp at hmv'
    exact ⟨hmv'.1,hmv'.2.1,hmv'.2.2⟩
  obtain ⟨pa,pcap,rfl,p1,p2,_⟩:=id sps
  obtain ⟨ca,ccap,rfl,p3,p4,_⟩:=id sco
  obtain ⟨ha',hcap,rfl,p5,p6,_⟩:=id shs
  obtain ⟨ax,acap,rfl,a1,a2⟩:=ha.len
  have hmf : ∀ (fn : Fn) (first cap : Array Value) (w : World),(Instr.makeFunc fn first cap).run Try.prog w = .ok (.func fn first cap) w:=fun _ _ _ _=>rfl
  have HC:=Lib.hid hC
  have hold:=Lib.hid (fun (k : Nat) (hk : own E L k)=>(own_lo H hk).2)
  clear H hC ha hmv' sps sco shs
  go_enter Try.func64,Try.ntmps64
  go_wp2_with fail
  go_at_call 120
  refine (HC.out _ _ _ _ (by exact Rd.byB) (by omega) (by omega) (by omega) (by go_simp) (by go_simp) (blk8 (by go_simp) (by go_simp) (by go_simp) (by go_simp) (by go_simp) (by go_simp) (by go_simp) (by go_simp) (by go_simp) (by go_simp) (by go_simp) (by go_simp) (by go_simp) (by go_simp) (by go_simp) (by go_simp))).mono ?_
  rintro e w2 R
  have nr : ¬ own E L (w.heap.size + 1 + 1 + 1):=fun hk=>by have:=hold.out _ hk;omega
  cases r with
  | thrown o h2 =>
    obtain ⟨⟨older,hol,rfl⟩,A⟩:=R
    refine And.intro rfl ?_
    exact ⟨⟨older,hol,rfl⟩,A.before (by exact Rd.byB)⟩
  | stop c h2 =>
    obtain ⟨⟨older,hol,rfl⟩,A⟩:=R
    refine And.intro rfl ?_
    exact ⟨⟨older,hol,rfl⟩,A.before (by exact Rd.byB)⟩
  | ok v h2 =>
    obtain ⟨vk,vn⟩:=v
    obtain ⟨rfl,A⟩:=R
    have x0:=A.cell (b:=w.heap.size + 1 + 1 + 1) (o:=0) (v:=.int .i64 0) (by go_simp) nr
    have x1:=A.cell (b:=w.heap.size + 1 + 1 + 1) (o:=1) (v:=.int .i64 0) (by go_simp) nr
    have f0:=A.frz (b:=w.heap.size + 1 + 1 + 1) (o:=0) (x:=false) (by simp) (by go_simp) nr
    have f1:=A.frz (b:=w.heap.size + 1 + 1 + 1) (o:=1) (x:=false) (by simp) (by go_simp) nr
    have hlt:=cell_lt x0
    unfold vl
    replace A:=Lib.hid A
    go_wp2_with fail
    refine bodyPost_ret (v:=.agg #[.int .i64 vk,.int .i64 vn]) (by simp [results,Try.results64,go_sem] <;> go_simp) rfl ?_
    exact ⟨rfl,A.out.res2 HH.out (by exact Rd.byB) (by omega) (by simp) _ _⟩
end
end Hpw
end Go.Proofs.Ytncmhenfgbcihab
namespace Go.Proofs.Ytncmhenfgbcihab
open Go.RowKit
set_option linter.unusedSimpArgs false
set_option linter.unusedVariables false
namespace Hpw
open Num Rd D Run Mem HierW
def PanTo (F : List PanicEntry → World → Prop) (v : Value) (k : Nat) (Q : Exit → Act → World → Prop) : Exit → Act → World → Prop
  | .panic c,a,w=>F c w ∧ a.tmps[k]? = some v ∧ a.defers = []
  | e,a,w=>Q e a w
theorem wp_region_panTo {P : Program} {id : Nat} {ops : Array Oper} {b : Bool} {Q : Exit → Act → World → Prop} {a : Act} {w : World} (F : List PanicEntry → World → Prop) (v : Value) (k : Nat) (hF : ∀ c a w,F c w → a.tmps[k]? = some v → a.defers = [] → Q (.panic c) a w) (h : (Code.region id ops b).wp P (PanTo F v k Q) a w) : (Code.region id ops b).wp P Q a w :=
  Code.wp_mono (fun e a w h=>by
    cases e
    case panic c=>exact hF _ _ _ h.1 h.2.1 h.2.2
    all_goals exact h) h
theorem PanTo.put {F : List PanicEntry → World → Prop} {v : Value} {k : Nat} {Q : Exit → Act → World → Prop} (j : Nat) (hj : j ≠ k) (x : Value) : ∀ c a w,PanTo F v k Q (.panic c) (Act.put a (some j) x) w → PanTo F v k Q (.panic c) a w:=fun c a w h=>by
  refine ⟨h.1,?_,h.2.2⟩
  have:=h.2.1
  simp only [Act.put] at this
  rw [Array.getElem?_setIfInBounds_ne hj] at this
  exact this
section
variable {E : Ev} {w w' w0 w1 w2 w6 w9 : World} {L L' L1 L4 : Lay} {h h' h0 h1 h2 : Hp} {d d0 b1 : Nat} {P : PS} {m : Me} {fr fr' fr1 : Sf} {vs vs1 : Value}
theorem Lft.ofS (K : Kp (own E L) w w9) (g1 : w.heap.size ≤ P.cb) (g2 : w.heap.size ≤ P.lb) (A : LftS E L P d (.slice none 0 0) w9 w6 h) : Lft E L d w w6 h:=by
  have hs:=K.size
  obtain ⟨L4,K4,N4,H4⟩:=A
  refine ⟨L4,K.trans K4 (fun y hy=>?_),fun k hk=>(N4 k hk).imp id (fun q=>by omega),H4⟩
  rcases hy with e | e | e | e
  · exact .inl e
  · subst e;exact .inr g1
  · subst e;exact .inr g2
  · cases e
theorem Lft.ofS2 (H : PH E w L h0 d0) (K : Kp (own E L) w w9) (g1 : w.heap.size ≤ P.cb) (g2 : w.heap.size ≤ P.lb) (A : LftS E L P d (.slice none 0 0) w9 w6 h) {b : Nat} (h1 : w.heap.size ≤ b) (h2 : b < w9.heap.size) (x y : Value) : Lft E L d w ((w6.setCell ⟨b,0,none⟩ x).setCell ⟨b,1,none⟩ y) h:=by
  have hs:=K.size
  have hEB:=H.base
  obtain ⟨L4,K4,N4,H4⟩:=A
  have nb : ¬ own E L4 b:=fun hk=>by
    rcases N4 b hk with q | q
    · have:=own_lo H q;omega
    · omega
  have K3 : Kp (fun k=>k = b) w6 ((w6.setCell ⟨b,0,none⟩ x).setCell ⟨b,1,none⟩ y):=((Kp.refl (fun k=>k = b) w6).setCell (p:=⟨b,0,none⟩) (.inl rfl) x).setCell (p:=⟨b,1,none⟩) (.inl rfl) y
  obtain ⟨L5,K5,N5,H5⟩:=Lft.ofS K g1 g2 ⟨L4,K4,N4,H4⟩
  have K6 : Kp (own E L) w w6:=K.trans K4 (fun y hy=>by
    rcases hy with e | e | e | e
    · exact .inl e
    · subst e;exact .inr g1
    · subst e;exact .inr g2
    · cases e)
  exact ⟨L4,(K6.setCell (p:=⟨b,0,none⟩) (.inr h1) x).setCell (p:=⟨b,1,none⟩) (.inr h1) y,fun k hk=>(N4 k hk).imp id (fun q=>by omega),H4.keep K3 (fun k e=>by subst e;exact ⟨by omega,nb⟩)⟩
theorem Blk.made1 (w : World) (o : Obj) (cs : List Value) (t : TypeId) : Blk ((w.alloc o).alloc (.cells cs.toArray t)) (w.heap.size + 1) cs:=by
  have h:=Blk.made (w.alloc o) cs t
  rwa [show (w.alloc o).heap.size = w.heap.size + 1 from by simp] at h
theorem Blk.made2 (w : World) (o1 o2 : Obj) (cs : List Value) (t : TypeId) : Blk (((w.alloc o1).alloc o2).alloc (.cells cs.toArray t)) (w.heap.size + 2) cs:=by
  have h:=Blk.made ((w.alloc o1).alloc o2) cs t
  rwa [show ((w.alloc o1).alloc o2).heap.size = w.heap.size + 2 from by simp] at h
theorem notFo (H : PH E w L h0 d0) (g1 : b1 ≤ P.cb) (g2 : b1 ≤ P.lb) {b : Nat} (h1 : w.heap.size ≤ b) (h2 : b < b1) : ¬ fo E L P (.slice none 0 0) b:=fun hk=>by
  rcases hk with e | e | e | e
  · have:=own_lo H e;omega
  · omega
  · omega
  · cases e
end
end Hpw
end Go.Proofs.Ytncmhenfgbcihab
namespace Go.Proofs.Ytncmhenfgbcihab
open Go.RowKit
set_option linter.unusedSimpArgs false
set_option linter.unusedVariables false
namespace Hpw
open Num Rd D Run Mem HierW
section
variable {E : Ev} {w w' w1 w2 : World} {L L' L1 : Lay} {h h' h1 h2 : Hp} {d : Nat} {P : PS} {m m2 : Me} {fr fr' fr1 : Sf} {vs vs1 : Value}
set_option maxRecDepth 100000 in
set_option maxHeartbeats 2000000 in
theorem callBad (hm : Hier.may E.f.classes = true) (H : PH E w L h d) (X : Nat → Prop) {va : Value} (args : List Vl) {vp vc vh : Value} (hVM : VMe w E.B (.agg #[vp, .int .i64 m.ret.kind, .int .i64 m.ret.cls, .int .i64 m.stack, .int .i64 m.locals, .int .i64 m.regs, vc, vh]) m) (ha : VS w X va args) (hlen : args.length = m.params.length) (h4 : args.length ≤ 4) (hv : ∀ v ∈ args, VtOk h.objs.length v) (hc : allOf E.f.classes h args m.params = false) (fv : Value) :
    Calls Try.prog 120 #[.pointer (some ⟨E.hb,0,none⟩),.agg #[vp,.int .i64 m.ret.kind,.int .i64 m.ret.cls,.int .i64 m.stack,.int .i64 m.locals,.int .i64 m.regs,vc,vh],va,fv] w (InvR E L d w (.stop 6 h)):=by
  have HH:=Lib.hid H
  obtain ⟨vp',vc',vh',hmv',oks,sps,sco,shs⟩:=hVM
  obtain ⟨rfl,rfl,rfl⟩ : vp = vp' ∧ vc = vc' ∧ vh = vh':=by
    simp at hmv'
    exact ⟨hmv'.1,hmv'.2.1,hmv'.2.2⟩
  obtain ⟨pa,pcap,rfl,p1,p2,pel⟩:=id sps
  obtain ⟨ca,ccap,rfl,p3,p4,_⟩:=id sco
  obtain ⟨ha',hcap,rfl,p5,p6,_⟩:=id shs
  have HA:=Lib.hid ha
  obtain ⟨ax,acap,rfl,a1,a2⟩:=ha.len
  have PEL:=Lib.hid pel
  have hlq : ((args.length : Int) == (m.params.length : Int)) = true:=by rw [hlen];simp
  have hEB : E.B ≤ w.heap.size:=by have:=H.base;omega
  clear H ha hmv' sps sco shs pel
  go_enter_defers Try.func120,Try.ntmps120
  go_wp2_with fail
  refine (mustT _).mono ?_
  rintro e w2 ⟨rfl,rfl⟩
  go_wp2_with fail
  generalize hWW : World.alloc _ (.cells #[.int .i64 0,.int .i64 0] 118) = W
  replace hWW:=Lib.hid hWW
  have e0 : W.cell? ⟨w.heap.size,0,none⟩ = some (.pointer (some ⟨E.hb,0,none⟩)):=by rw [← hWW.out];go_simp
  have HB:=Lib.hid (show Below w.heap.size w W from by rw [← hWW.out];exact Rd.byB)
  have hsW : w.heap.size + 2 < W.heap.size:=by rw [← hWW.out];simp
  clear hWW
  have HC:=Lib.hid hc
  clear hc
  go_loopw [28] (fun i wr=>∃ n : Nat,i = .int .i64 n ∧ n ≤ args.length ∧ Hid (Below W.heap.size W wr) ∧ Hid (allOf E.f.classes h args m.params = allOf E.f.classes h (args.drop n) (m.params.drop n))) (fun i _=>args.length - (intOf i).toNat)
  case atStart=>exact ⟨0,rfl,Nat.zero_le _,Lib.hid (Below.refl _ _),Lib.hid rfl⟩
  case round =>
    obtain ⟨n,rfl,hn,BW,HD⟩:=hrel
    by_cases hlt : n < args.length
    · have hltp : n < m.params.length:=by omega
      have hni : (n : Int) < m.params.length:=by omega
      have hni2 : (n : Int) < args.length:=by omega
      obtain ⟨pb,po,rfl,hpb,hpe⟩:=PEL.out n hltp
      obtain ⟨ab,ao,acap',heq,hc1,hc2,hab,hnx,hel⟩:=HA.out.form (by omega)
      simp only [Value.slice.injEq] at heq
      obtain ⟨rfl,_,rfl⟩:=heq
      obtain ⟨z0,z1⟩:=hel n hlt
      obtain ⟨v,hvv⟩:=at_of hlt
      obtain ⟨t,htt⟩:=at_of hltp
      rw [hvv.out] at z0 z1
      rw [htt.out] at hpe
      obtain ⟨y0,y1,_,_⟩:=hpe
      have hv3 : v.kind = 3 → v.n < h.objs.length:=fun e=>by
        have hmem : v ∈ args:=by rw [← hvv.out];exact List.getElem_mem hlt
        exact ((hv v hmem).1.2.2.2 e).2
      have HBr:=Lib.hid (HB.out.trans (BW.out.mono (by omega)))
      have x0:=kept HBr.out (by omega) z0
      have x1:=kept HBr.out (by omega) z1
      have t0:=kept HBr.out (by omega) y0
      have t1:=kept HBr.out (by omega) y1
      have e0':=kept BW.out (by omega) e0
      have q0:=cell_lt x0
      have q1:=cell_lt t0
      have q2:=cell_lt e0'
      obtain ⟨tk,tc⟩:=t
      obtain ⟨vk,vn⟩:=v
      clear z0 z1 y0 y1 hel e0
      simp only at t0 t1 x0 x1
      go_wp2_with fail
      refine wp_region_panTo (fun c w'=>c = [{ v:=stopV 6,recovered:=false }] ∧ Below w.heap.size w w') (.pointer (some ⟨w.heap.size + 1 + 1,0,none⟩)) 8 ?hF ?_
      case hF =>
        intro c a w' hc ha hd
        obtain ⟨rfl,hb⟩:=hc
        show Leaves _ _ a.tmps (InvR E L d w (.stop 6 h)) a.defers (.panicking [{ v:=stopV 6,recovered:=false }]) w'
        rw [hd]
        exact ⟨Pan.one _,Lft.of_below HH.out hb⟩
      refine wp_region_held_drew (S:=fun w'=>w'.cell? ⟨w.heap.size,0,none⟩ = some (.pointer (some ⟨E.hb,0,none⟩)) ∧ w'.cell? ⟨ab,ao + n * 2,none⟩ = some (.int .i64 vk) ∧ w'.cell? ⟨ab,ao + n * 2 + 1,none⟩ = some (.int .i64 vn) ∧ w'.cell? ⟨wr.heap.size,0,none⟩ = some (.int .i64 tk) ∧ w'.cell? ⟨wr.heap.size,1,none⟩ = some (.int .i64 tc)) (by kernel_rfl) (by (try dsimp only);refine ⟨?_,?_,?_,?_,?_⟩ <;> go_simp) (fun hHeld=>?_)
      refine Drawn.tk 0 (some 33) rfl rfl (by assumption) ?_ (hQ:=PanTo.put 33 (by decide) _)
      try simp only [Act.put,List.setIfInBounds_toArray,List.set_cons_zero,List.set_cons_succ]
      refine Drawn.tk 1 (some 34) rfl rfl (by assumption) ?_ (hQ:=PanTo.put 34 (by decide) _)
      try simp only [Act.put,List.setIfInBounds_toArray,List.set_cons_zero,List.set_cons_succ]
      refine Drawn.tk 2 (some 35) rfl rfl (by assumption) ?_ (hQ:=PanTo.put 35 (by decide) _)
      try simp only [Act.put,List.setIfInBounds_toArray,List.set_cons_zero,List.set_cons_succ]
      refine Drawn.tk 3 (some 36) rfl rfl (by assumption) ?_ (hQ:=PanTo.put 36 (by decide) _)
      try simp only [Act.put,List.setIfInBounds_toArray,List.set_cons_zero,List.set_cons_succ]
      refine Drawn.tk 4 (some 37) rfl rfl (by assumption) ?_ (hQ:=PanTo.put 37 (by decide) _)
      try simp only [Act.put,List.setIfInBounds_toArray,List.set_cons_zero,List.set_cons_succ]
      refine Drawn.tk 5 (some 38) rfl rfl (by assumption) ?_ (hQ:=PanTo.put 38 (by decide) _)
      try simp only [Act.put,List.setIfInBounds_toArray,List.set_cons_zero,List.set_cons_succ]
      refine wpAnyH_ready (rs:=[6]) (by kernel_rfl) (by simp) ?_
      refine AllReadyH.cons rfl (fun K hK=>?_) AllReadyH.nil
      go_simp
      refine (of E L h d ⟨vk,vn⟩ ⟨tk,tc⟩ _ (HH.out.below (w':=(wr.alloc (.cells #[.int .i64 tk,.int .i64 tc] 51)).drew) (by have hb:=HBr.out;exact Rd.byB)) hm hv3).mono ?_
      rintro e w3 ⟨rfl,hb3⟩
      obtain ⟨p,hp⟩ : ∃ p,Hid (ofT E.f.classes h ⟨vk,vn⟩ ⟨tk,tc⟩ = p):=⟨_,Lib.hid rfl⟩
      rw [hp.out]
      have kk : ∀ (b o : Nat) (u : Value),World.cell? _ ⟨b,o,none⟩ = some u → w3.cell? ⟨b,o,none⟩ = some u:=fun b o u hc=>kept hb3 (cell_lt hc) hc
      have k0:=kk w.heap.size 0 (.pointer (some ⟨E.hb,0,none⟩)) (by go_simp)
      have k1:=kk ab (ao + n * 2) (.int .i64 vk) (by go_simp)
      have k2:=kk ab (ao + n * 2 + 1) (.int .i64 vn) (by go_simp)
      have k3:=kk wr.heap.size 0 (.int .i64 tk) (by go_simp)
      have k4:=kk wr.heap.size 1 (.int .i64 tc) (by go_simp)
      have HB3:=Lib.hid (show Below wr.heap.size wr w3 from Below.trans (by exact Rd.byB) (hb3.mono Rd.byL))
      clear kk hb3
      go_wp2_with fail
      refine hK.out _ _ (by (try dsimp only);exact ⟨k0,k1,k2,k3,k4⟩) (fun hHeld=>?_)
      clear hK K
      try simp only [Act.put,Drawn.La,Drawn.Lb,Drawn.Lc]
      refine wpAnyH_ready (rs:=[7]) (by kernel_rfl) (by simp) ?_
      refine AllReadyH.cons rfl (fun K hK=>?_) AllReadyH.nil
      go_simp
      cases p with
      | false =>
        refine (mustF _).mono ?_
        rintro e w4 ⟨rfl,rfl⟩
        go_wp2_with fail
        exact ⟨⟨rfl,HBr.out.trans (HB3.out.mono (by have:=HBr.out.size;omega))⟩,rfl,rfl⟩
      | true =>
        refine (mustT _).mono ?_
        rintro e w4 ⟨rfl,rfl⟩
        go_wp2_with fail
        refine hK.out _ _ (by (try dsimp only);exact ⟨k0,k1,k2,k3,k4⟩) (fun hHeld=>?_)
        clear hK K
        try simp only [Act.put,Drawn.La,Drawn.Lb,Drawn.Lc]
        refine wpAnyH_done (by kernel_rfl) ?_ _
        show Exit.inBlock 1 _ .normal _ _
        go_wp2_with fail
        go_roundw
        case rel =>
          refine ⟨n + 1,by go_num,hlt,Lib.hid (BW.out.trans (HB3.out.mono BW.out.size)),?_⟩
          show _ = _
          rw [HD.out,List.drop_eq_getElem_cons hlt,List.drop_eq_getElem_cons hltp,hvv.out,htt.out]
          simp [allOf,hp.out]
        case measure=>first | (simp [intOf];done) | (simp [intOf];omega)
    · exfalso
      obtain rfl : n = args.length:=by omega
      have h1:=HD.out
      rw [HC.out,List.drop_length,hlen,List.drop_length] at h1
      simp [allOf] at h1
end
end Hpw
end Go.Proofs.Ytncmhenfgbcihab
namespace Go.Proofs.Ytncmhenfgbcihab
open Go.RowKit
set_option linter.unusedSimpArgs false
set_option linter.unusedVariables false
namespace Hpw
open Num Rd D Run Mem HierW
section
variable {E : Ev} {w w' w1 w2 : World} {L L' L1 : Lay} {h h' h1 h2 : Hp} {d : Nat} {P : PS} {m m2 : Me} {fr fr' fr1 : Sf} {vs vs1 : Value}
set_option maxRecDepth 100000 in
set_option maxHeartbeats 2000000 in
theorem callDeep (hm : Hier.may E.f.classes = true) (H : PH E w L h d) (X : Nat → Prop) {va : Value} (args : List Vl) {vp vc vh : Value} (hVM : VMe w E.B (.agg #[vp, .int .i64 m.ret.kind, .int .i64 m.ret.cls, .int .i64 m.stack, .int .i64 m.locals, .int .i64 m.regs, vc, vh]) m) (ha : VS w X va args) (hlen : args.length = m.params.length) (h4 : args.length ≤ 4) (hv : ∀ v ∈ args, VtOk h.objs.length v) (hc : allOf E.f.classes h args m.params = true) (hd : 20 ≤ d) (fv : Value) :
    Calls Try.prog 120 #[.pointer (some ⟨E.hb,0,none⟩),.agg #[vp,.int .i64 m.ret.kind,.int .i64 m.ret.cls,.int .i64 m.stack,.int .i64 m.locals,.int .i64 m.regs,vc,vh],va,fv] w (InvR E L d w (.stop 5 h)):=by
  have HH:=Lib.hid H
  obtain ⟨vp',vc',vh',hmv',oks,sps,sco,shs⟩:=hVM
  obtain ⟨rfl,rfl,rfl⟩ : vp = vp' ∧ vc = vc' ∧ vh = vh':=by
    simp at hmv'
    exact ⟨hmv'.1,hmv'.2.1,hmv'.2.2⟩
  obtain ⟨pa,pcap,rfl,p1,p2,pel⟩:=id sps
  obtain ⟨ca,ccap,rfl,p3,p4,_⟩:=id sco
  obtain ⟨ha',hcap,rfl,p5,p6,_⟩:=id shs
  have HA:=Lib.hid ha
  obtain ⟨ax,acap,rfl,a1,a2⟩:=ha.len
  have PEL:=Lib.hid pel
  have hlq : ((args.length : Int) == (m.params.length : Int)) = true:=by rw [hlen];simp
  have hEB : E.B ≤ w.heap.size:=by have:=H.base;omega
  clear H ha hmv' sps sco shs pel
  go_enter_defers Try.func120,Try.ntmps120
  go_wp2_with fail
  refine (mustT _).mono ?_
  rintro e w2 ⟨rfl,rfl⟩
  go_wp2_with fail
  generalize hWW : World.alloc _ (.cells #[.int .i64 0,.int .i64 0] 118) = W
  replace hWW:=Lib.hid hWW
  have e0 : W.cell? ⟨w.heap.size,0,none⟩ = some (.pointer (some ⟨E.hb,0,none⟩)):=by rw [← hWW.out];go_simp
  have HB:=Lib.hid (show Below w.heap.size w W from by rw [← hWW.out];exact Rd.byB)
  have hsW : w.heap.size + 2 < W.heap.size:=by rw [← hWW.out];simp
  clear hWW
  have HC:=Lib.hid hc
  clear hc
  go_loopw [28] (fun i wr=>∃ n : Nat,i = .int .i64 n ∧ n ≤ args.length ∧ Hid (Below W.heap.size W wr) ∧ Hid (allOf E.f.classes h args m.params = allOf E.f.classes h (args.drop n) (m.params.drop n))) (fun i _=>args.length - (intOf i).toNat)
  case atStart=>exact ⟨0,rfl,Nat.zero_le _,Lib.hid (Below.refl _ _),Lib.hid rfl⟩
  case round =>
    obtain ⟨n,rfl,hn,BW,HD⟩:=hrel
    by_cases hlt : n < args.length
    · have hltp : n < m.params.length:=by omega
      have hni : (n : Int) < m.params.length:=by omega
      have hni2 : (n : Int) < args.length:=by omega
      obtain ⟨pb,po,rfl,hpb,hpe⟩:=PEL.out n hltp
      obtain ⟨ab,ao,acap',heq,hc1,hc2,hab,hnx,hel⟩:=HA.out.form (by omega)
      simp only [Value.slice.injEq] at heq
      obtain ⟨rfl,_,rfl⟩:=heq
      obtain ⟨z0,z1⟩:=hel n hlt
      obtain ⟨v,hvv⟩:=at_of hlt
      obtain ⟨t,htt⟩:=at_of hltp
      rw [hvv.out] at z0 z1
      rw [htt.out] at hpe
      obtain ⟨y0,y1,_,_⟩:=hpe
      have hv3 : v.kind = 3 → v.n < h.objs.length:=fun e=>by
        have hmem : v ∈ args:=by rw [← hvv.out];exact List.getElem_mem hlt
        exact ((hv v hmem).1.2.2.2 e).2
      have HBr:=Lib.hid (HB.out.trans (BW.out.mono (by omega)))
      have x0:=kept HBr.out (by omega) z0
      have x1:=kept HBr.out (by omega) z1
      have t0:=kept HBr.out (by omega) y0
      have t1:=kept HBr.out (by omega) y1
      have e0':=kept BW.out (by omega) e0
      have q0:=cell_lt x0
      have q1:=cell_lt t0
      have q2:=cell_lt e0'
      obtain ⟨tk,tc⟩:=t
      obtain ⟨vk,vn⟩:=v
      clear z0 z1 y0 y1 hel e0
      simp only at t0 t1 x0 x1
      go_wp2_with fail
      refine wp_region_noPanic ?_
      refine wp_region_held_drew (S:=fun w'=>w'.cell? ⟨w.heap.size,0,none⟩ = some (.pointer (some ⟨E.hb,0,none⟩)) ∧ w'.cell? ⟨ab,ao + n * 2,none⟩ = some (.int .i64 vk) ∧ w'.cell? ⟨ab,ao + n * 2 + 1,none⟩ = some (.int .i64 vn) ∧ w'.cell? ⟨wr.heap.size,0,none⟩ = some (.int .i64 tk) ∧ w'.cell? ⟨wr.heap.size,1,none⟩ = some (.int .i64 tc)) (by kernel_rfl) (by (try dsimp only);refine ⟨?_,?_,?_,?_,?_⟩ <;> go_simp) (fun hHeld=>?_)
      refine Drawn.tk 0 (some 33) rfl rfl (by assumption) ?_
      try simp only [Act.put,List.setIfInBounds_toArray,List.set_cons_zero,List.set_cons_succ]
      refine Drawn.tk 1 (some 34) rfl rfl (by assumption) ?_
      try simp only [Act.put,List.setIfInBounds_toArray,List.set_cons_zero,List.set_cons_succ]
      refine Drawn.tk 2 (some 35) rfl rfl (by assumption) ?_
      try simp only [Act.put,List.setIfInBounds_toArray,List.set_cons_zero,List.set_cons_succ]
      refine Drawn.tk 3 (some 36) rfl rfl (by assumption) ?_
      try simp only [Act.put,List.setIfInBounds_toArray,List.set_cons_zero,List.set_cons_succ]
      refine Drawn.tk 4 (some 37) rfl rfl (by assumption) ?_
      try simp only [Act.put,List.setIfInBounds_toArray,List.set_cons_zero,List.set_cons_succ]
      refine Drawn.tk 5 (some 38) rfl rfl (by assumption) ?_
      try simp only [Act.put,List.setIfInBounds_toArray,List.set_cons_zero,List.set_cons_succ]
      refine wpAnyH_ready (rs:=[6]) (by kernel_rfl) (by simp) ?_
      refine AllReadyH.cons rfl (fun K hK=>?_) AllReadyH.nil
      go_simp
      refine (of E L h d ⟨vk,vn⟩ ⟨tk,tc⟩ _ (HH.out.below (w':=(wr.alloc (.cells #[.int .i64 tk,.int .i64 tc] 51)).drew) (by have hb:=HBr.out;exact Rd.byB)) hm hv3).mono ?_
      rintro e w3 ⟨rfl,hb3⟩
      obtain ⟨p,hp⟩ : ∃ p,Hid (ofT E.f.classes h ⟨vk,vn⟩ ⟨tk,tc⟩ = p):=⟨_,Lib.hid rfl⟩
      rw [hp.out]
      have kk : ∀ (b o : Nat) (u : Value),World.cell? _ ⟨b,o,none⟩ = some u → w3.cell? ⟨b,o,none⟩ = some u:=fun b o u hc=>kept hb3 (cell_lt hc) hc
      have k0:=kk w.heap.size 0 (.pointer (some ⟨E.hb,0,none⟩)) (by go_simp)
      have k1:=kk ab (ao + n * 2) (.int .i64 vk) (by go_simp)
      have k2:=kk ab (ao + n * 2 + 1) (.int .i64 vn) (by go_simp)
      have k3:=kk wr.heap.size 0 (.int .i64 tk) (by go_simp)
      have k4:=kk wr.heap.size 1 (.int .i64 tc) (by go_simp)
      have HB3:=Lib.hid (show Below wr.heap.size wr w3 from Below.trans (by exact Rd.byB) (hb3.mono Rd.byL))
      clear kk hb3
      go_wp2_with fail
      refine hK.out _ _ (by (try dsimp only);exact ⟨k0,k1,k2,k3,k4⟩) (fun hHeld=>?_)
      clear hK K
      try simp only [Act.put,Drawn.La,Drawn.Lb,Drawn.Lc]
      refine wpAnyH_ready (rs:=[7]) (by kernel_rfl) (by simp) ?_
      refine AllReadyH.cons rfl (fun K hK=>?_) AllReadyH.nil
      go_simp
      cases p with
      | false =>
        exfalso
        have h1:=HD.out
        rw [HC.out,List.drop_eq_getElem_cons hlt,List.drop_eq_getElem_cons hltp,hvv.out,htt.out] at h1
        simp [allOf,hp.out] at h1
      | true =>
        refine (mustT _).mono ?_
        rintro e w4 ⟨rfl,rfl⟩
        go_wp2_with fail
        refine hK.out _ _ (by (try dsimp only);exact ⟨k0,k1,k2,k3,k4⟩) (fun hHeld=>?_)
        clear hK K
        try simp only [Act.put,Drawn.La,Drawn.Lb,Drawn.Lc]
        refine wpAnyH_done (by kernel_rfl) ?_ _
        refine NoPanic.normal ?_
        go_wp2_with fail
        go_roundw
        case rel =>
          refine ⟨n + 1,by go_num,hlt,Lib.hid (BW.out.trans (HB3.out.mono BW.out.size)),?_⟩
          show _ = _
          rw [HD.out,List.drop_eq_getElem_cons hlt,List.drop_eq_getElem_cons hltp,hvv.out,htt.out]
          simp [allOf,hp.out]
        case measure=>first | (simp [intOf];done) | (simp [intOf];omega)
    · obtain rfl : n = args.length:=by omega
      have hn2 : ¬ ((args.length : Int) < m.params.length):=by omega
      have hn3 : ¬ (args.length < m.params.length):=by omega
      have HBr:=Lib.hid (HB.out.trans (BW.out.mono (by omega)))
      have c10:=(HH.out.below HBr.out).c10
      have e0':=kept BW.out (by omega) e0
      have hdd : decide ((20 : Int) ≤ d) = true:=by simp;omega
      clear e0
      go_wp2_with fail
      exact ⟨Pan.one _,Lft.of_below HH.out HBr.out⟩
end
end Hpw
end Go.Proofs.Ytncmhenfgbcihab
namespace Go.Proofs.Ytncmhenfgbcihab
open Go.RowKit
set_option linter.unusedVariables false
set_option linter.unusedSimpArgs false
namespace Run
open D Num
theorem outS_ok {f : Fi} {input : List Int} {fuel g d : Nat} {m : Me} {fr : Sf} {h : Hp} (K : MachOk SM SfB f input fuel) (hm : m ∈ f.methods) (HO : HpOk f.classes input fuel h) (hf : SfB m h.objs.length fr) :
    (∃ c h',outS SM f input fuel g d m fr h = .stop c h') ∨ (h.steps < fuel ∧ OutOk SfB f input fuel m { h with steps:=h.steps + 1 } (outS SM f input fuel g d m fr h)):=by
  unfold outS
  by_cases q : fuel ≤ h.steps
  · rw [if_pos q];exact .inl ⟨_,_,rfl⟩
  · rw [if_neg q]
    cases hi : m.code[SM.at_ fr]? with
    | none=>exact .inl ⟨_,_,rfl⟩
    | some i =>
      have HO1 : HpOk f.classes input fuel { h with steps:=h.steps + 1 }:=⟨HO.many,HO.obs,HO.out,Nat.le_succ_of_le HO.outs,HO.used,by show h.steps + 1 ≤ fuel;omega⟩
      have hs:=K.step m hm i (List.mem_of_getElem? hi) fr _ HO1 (by show h.out.length < h.steps + 1;have:=HO.outs;omega) hf
      exact .inr ⟨by omega,outA_ok K hm hs⟩
end Run
end Go.Proofs.Ytncmhenfgbcihab
