/- Parts of the proof: Yk. -/
import Derived.Test.YtncmhenfgbcihacG05
import Derived.Deep.Cut
import Derived.Deep.CutRange
set_option linter.unusedSimpArgs false
set_option linter.unusedVariables false
set_option maxHeartbeats 8000000
namespace Go.Proofs.Ytncmhenfgbcihac
open Go.RowKit
namespace Hpr
open Num Rd D Run Mem HierW Hpw
section
variable {E:Ev}{w w' w1 w2:World}{L L' L1:Lay}{h h' h1 h2:Hp}{d:Nat}{P:PS}{m:Me}{fr fr' fr1:Rf}{vs vs1:Value}
theorem Gr.over (G:Gr E L P vs w L1 vs1 w1){b:Nat}(h1:w.heap.size≤b) (i j:Nat) (x y:Value):Gr E L P vs w L1 vs1 ((w1.setCell ⟨b,i,none⟩ x).setCell ⟨b,j,none⟩ y):=⟨(G.kp.setCell (p:=⟨b,i,none⟩) (.inr h1) x).setCell (p:=⟨b,j,none⟩) (.inr h1) y,G.ow,G.st⟩
theorem goR {a:Out Rf}{t:Nat}(ha:a=.go ⟨fr1.regs,t,fr1.given,fr1.got⟩ h1) (hB:E.B≤w.heap.size) (G:Gr E L P vs w L1 vs1 w1) (S:ST E w1 L1 P m d h1 fr1 vs1) (hlt:w.heap.size < w1.heap.size) (nfo:¬ Hpr.fo E L1 P vs1 w.heap.size):DoR E L P m d vs fr w a (.returned (.tuple #[.agg #[.int .i64 0,.int .i64 0],.bool false])) (((w1.setCell ⟨P.cb,10,none⟩ (.int .i64 t)).setCell ⟨w.heap.size,0,none⟩ (.int .i64 0)).setCell ⟨w.heap.size,1,none⟩ (.int .i64 0)):=by
 obtain ⟨L2,v2,G2,S2⟩:=(S.setAt t).opn
 have n2:=G2.nf hlt nfo
 rw [ha]
 exact ⟨rfl,((G.trans G2).over (Nat.le_refl _) 0 1 _ _).lft ((S2.res hB n2 0 _).res hB n2 1 _)⟩
theorem goB {a:Out Rf}{v:Vl}(ha:a=.back v h1) (hB:E.B≤w.heap.size) (G:Gr E L P vs w L1 vs1 w1) (S:ST E w1 L1 P m d h1 (clr fr) vs1) (nfo:¬ Hpr.fo E L1 P vs1 w.heap.size):DoR E L P m d vs fr w a (.returned (.tuple #[.agg #[.int .i64 v.kind,.int .i64 v.n],.bool true])) ((w1.setCell ⟨w.heap.size,0,none⟩ (.int .i64 v.kind)).setCell ⟨w.heap.size,1,none⟩ (.int .i64 v.n)):=by
 rw [ha]
 exact ⟨rfl,(),(G.over (Nat.le_refl _) 0 1 _ _).lft ((S.res hB nfo 0 _).res hB nfo 1 _)⟩
theorem rargs_same {fr fr2:Rf}(e:fr.regs=fr2.regs):∀ (xs:List Int) (ts:List Ty),rargs fr xs ts=rargs fr2 xs ts
 | xs,[]=>by cases xs <;> rfl
 | [],_ :: _=>rfl
 | x :: xs,t :: ts=>by
  have q:rd fr x=rd fr2 x:=by unfold rd;rw [e]
  simp only [rargs]
  rw [rargs_same e xs ts,q]
def NXA (a0:Nat) (a:Out Rf):Prop:=match a with
 | .go fr' _=>fr'.at_=a0+1∧fr'.got=Vl.nil
 | .back _ _=>False
 | _=>True
theorem calA_nx {g:Nat}{m2:Me}{args:List Int}:NXA fr.at_ (calA E g d m m2 fr args h):=by
 unfold calA
 cases rargs fr args m2.params with
 | none=>trivial
 | some vals =>
  simp only
  cases call RM E.f E.input E.fuel g d m2 vals h with
  | stop e h=>trivial
  | thrown o h=>trivial
  | ok v h=>exact ⟨rfl,rfl⟩
theorem act18 {g k:Nat}{b c n:Int}{args:List Int}:outA RM E.f E.input E.fuel g d m (RM.step E.f E.input m ⟨18,(k:Int),b,c,n,args⟩ fr h)=calA E g d m (meAt E.f k) ⟨fr.regs,fr.at_,Vl.nil,Vl.nil⟩ args h:=by
 show outA RM E.f E.input E.fuel g d m (r18 E.f ⟨18,(k:Int),b,c,n,args⟩ fr h)=_
 unfold r18 calA
 simp only [Int.toNat_natCast]
 rw [rargs_same (fr:=⟨fr.regs,fr.at_,Vl.nil,Vl.nil⟩) (fr2:=fr) rfl args (meAt E.f k).params]
 cases rargs fr args (meAt E.f k).params <;> rfl
def NX (a0:Nat) (a:Run.Act Rf):Prop:=match a with
 | .go fr' _=>fr'.at_=a0+1∧fr'.given=Vl.nil∧fr'.got=Vl.nil
 | .back _ _=>False
 | .call _ _ _ _=>False
 | _=>True
theorem rset_nx {a:Int}{v:Vl}:NX fr.at_ (rset fr a v h):=⟨rfl,rfl,rfl⟩
theorem rgo_nx:NX fr.at_ (rgo fr (fr.at_+1) h):=⟨rfl,rfl,rfl⟩
theorem rkind_nx {v:Vl}{kind:Int}{k:Run.Act Rf}(hk:NX fr.at_ k):NX fr.at_ (rkind v kind h k):=by
 unfold rkind;split
 ·exact hk
 ·trivial
theorem ract_nx {α:Type}{r:Res α}{k:α→Hp→Run.Act Rf}(hk:∀ a h,NX fr.at_ (k a h)):NX fr.at_ (r.act k):=by
 cases r with
 | ok a h=>exact hk a h
 | thrown o h=>trivial
 | stop e h=>trivial
theorem rite_nx {c:Prop} [Decidable c] {a b:Run.Act Rf}{n:Nat}(ha:NX n a) (hb:NX n b):NX n (if c then a else b):=by
 split
 ·exact ha
 ·exact hb
theorem rstep_nx {f:Fi}{input:List Int}{i:Ins}(hop:i.op≠10∧i.op≠11∧i.op≠12∧i.op≠18∧i.op≠19∧i.op≠20∧i.op≠21∧i.op≠22):NX fr.at_ (rstep f input m i fr h):=by
 obtain ⟨n10,n11,n12,n18,n19,n20,n21,n22⟩:=hop
 unfold rstep
 simp only [if_neg n10,if_neg n11,if_neg n12,if_neg n18,if_neg n19,if_neg n20,if_neg n21,if_neg n22]
 repeat' (first | exact rset_nx | exact rgo_nx | exact trivial | refine rite_nx ?_ ?_ | exact rkind_nx rset_nx | exact rkind_nx (rkind_nx rset_nx) | exact rkind_nx rgo_nx | exact ract_nx (fun _ _=>rset_nx) | exact ract_nx (fun _ _=>rgo_nx) | exact rkind_nx (ract_nx (fun _ _=>rgo_nx)) | exact rkind_nx (ract_nx (fun _ _=>rset_nx)) | exact rkind_nx (rkind_nx (ract_nx (fun _ _=>rgo_nx))) | exact rkind_nx (rkind_nx (ract_nx (fun _ _=>rset_nx))))
theorem nc_oA {f:Fi}{input:List Int}{fuel g d:Nat}{a:Run.Act Rf}{n:Nat}(hn:NX n a):outA RM f input fuel g d m a=oA a:=by
 cases a with
 | call k args fr h=>exact hn.elim
 | _=>rfl
theorem rstep_clr {f:Fi}{input:List Int}{i:Ins}(hop:i.op≠10∧i.op≠11∧i.op≠12∧i.op≠18∧i.op≠19∧i.op≠20∧i.op≠21∧i.op≠22):rstep f input m i fr h=rstep f input m i ⟨fr.regs,fr.at_,Vl.nil,Vl.nil⟩ h:=by
 obtain ⟨n10,n11,n12,n18,n19,n20,n21,n22⟩:=hop
 unfold rstep
 simp only [if_neg n18,if_neg n19,if_neg n22]
 rfl
theorem throw_no {l:List Cls}{v:Vl}{h h2:Hp}{u:Unit}(hr:(Run.throw l v h:Res Unit)=.ok u h2):False:=by
 unfold Run.throw raise new at hr
 split at hr
 ·cases hr
 ·split at hr
  ·split at hr <;> cases hr
  ·cases hr
theorem mAt_eq {f:Fi}{k:Nat}(hk:k < f.methods.length):Rform.mAt f.methods (k:Int)=(meAt f k).params:=by
 unfold Rform.mAt meAt
 rw [Int.toNat_natCast,List.getD_eq_getElem?_getD,List.getElem?_map,List.getD_eq_getElem?_getD,List.getElem?_eq_getElem hk];rfl
theorem ty_kind {n:Int}{t:Ty}(h:Hier.ty n t=true):1≤t.kind∧t.kind≤3:=by
 unfold Hier.ty at h
 split at h
 ·omega
 ·split at h
  ·omega
  ·cases h
theorem regs_at {regs:Int}{n:Nat}{ps:List Ty}{xs:List Int}(h:Rform.regsOk regs ps xs=true) (hl:n=regs.toNat) (he:xs.length=ps.length):∀ j (hj:j < xs.length),0≤xs[j]∧xs[j].toNat < n:=by
 intro j hj
 unfold Rform.regsOk at h
 have:=List.all_eq_true.1 h j (List.mem_range.2 (by omega))
 rw [List.getD_eq_getElem?_getD,List.getElem?_eq_getElem hj] at this
 exact reg_l this hl
set_option maxRecDepth 100000 in
theorem doFuel (S:ST E w L P m d h fr vs) (hfu:E.fuel≤60000) (hs:E.fuel≤h.steps) :
  Calls Try.prog 39 #[.pointer (some ⟨P.cb,0,none⟩)] w (DoR E L P m d vs fr w (.stop 0 h)):=by
 have HS:=Lib.hid S
 have hcb:=S.cbw
 have c0:=S.c0
 clear S
 go_enter Try.func39,Try.ntmps39
 go_wp2_with fail
 go_at_call 72
 refine (stepFull (HS.out.below (by exact Rd.byB)).H hs).mono ?_
 rintro e w2 ⟨rfl,hb2⟩
 have HB2:Below w.heap.size w w2:=Below.trans (by exact Rd.byB) (hb2.mono Rd.byL)
 unfold pan
 refine And.intro rfl ?_
 exact ⟨Pan.one _,((Gr.of_below HB2).lft (HS.out.below HB2)).stop⟩
set_option maxRecDepth 100000 in
theorem doEnd (S:ST E w L P m d h fr vs) (hfu:E.fuel≤60000) (hs:h.steps < E.fuel) (hi:m.code[fr.at_]? = none) :
  Calls Try.prog 39 #[.pointer (some ⟨P.cb,0,none⟩)] w (DoR E L P m d vs fr w (.stop 6 (stepped h))):=by
 have HS:=Lib.hid S
 have hcb:=S.cbw
 have hat:m.code.length≤fr.at_:=List.getElem?_eq_none_iff.1 hi
 obtain ⟨ica,icap,hvc,i1,i2,iel⟩:=id S.M.co
 have c7:=S.c7
 rw [hvc] at c7
 have c0:=S.c0
 have c10:=S.c10
 have nr:=S.fo_new (Nat.le_refl _)
 have nrO:¬ own E L w.heap.size:=fun hk=>nr (.inl hk)
 have hatd:decide ((fr.at_:Int) < m.code.length)=false:=by simpa using hat
 have HCO:=Lib.hid hvc
 clear S iel hi hvc i1 i2
 go_enter Try.func39,Try.ntmps39
 go_wp2_with (go_at_call 72;refine (stepOk (HS.out.below (by exact Rd.byB)).H hs hfu).mono ?_;rintro e w2 ⟨rfl,H2,K2⟩;have S2:=(HS.out.below (w':=w.alloc (.cells #[.int .i64 0,.int .i64 0] 48)) (by exact Rd.byB)).heap K2 same_own H2;have r0:=K2.cell (c:=w.heap.size) (o:=0) (v:=.int .i64 0) (by go_simp) nrO;have r1:=K2.cell (c:=w.heap.size) (o:=1) (v:=.int .i64 0) (by go_simp) nrO;have rf0:=K2.frz (c:=w.heap.size) (o:=0) (b:=false) (by go_simp) (by simp) nrO;have rf1:=K2.frz (c:=w.heap.size) (o:=1) (b:=false) (by go_simp) (by simp) nrO;have z0:=S2.c0;have z10:=S2.c10;have z7:=S2.c7;rw [HCO.out] at z7;have GW:=Lib.hid (show Gr E L P vs w L vs w2 from ⟨(Kp.of_below (B:=w.heap.size) (X:=Hpr.fo E L P vs) (w':=w.alloc (.cells #[.int .i64 0,.int .i64 0] 48)) (by exact Rd.byB) (Nat.le_refl _)).trans K2 (fun y hy=>.inl (.inl hy)),fun _ q=>.inl q,fun _ q=>.inl q⟩);have nf2:=S2.fo_new (Nat.le_refl _);have hcb2:=S2.cbw;have hrw:=cell_lt r0;replace S2:=Lib.hid S2;clear H2 K2 c7 c0 c10)
 refine Drawn.hd (fun w'=>w'.cell? ⟨P.cb,10,none⟩=some (.int .i64 fr.at_)∧w'.cell? ⟨P.cb,7,none⟩=some (.slice ica m.code.length icap)) (h:=fun hHeld=>?_)
 refine Drawn.T 0 (some 14) (h:=?_)
 refine Drawn.T 1 (some 15) (h:=?_)
 refine Drawn.T 2 (some 16) (h:=?_)
 refine Drawn.T 3 (some 17) (h:=?_)
 refine Drawn.T 4 (some 18) (h:=?_)
 refine Drawn.T 5 (some 19) (h:=?_)
 refine Drawn.T 6 (some 20) (h:=?_)
 refine Drawn.T 7 (some 21) (h:=?_)
 refine Drawn.T 8 (some 22) (h:=?_)
 refine Drawn.T 9 (some 23) (h:=?_)
 refine Drawn.T 10 (some 24) (h:=?_)
 refine Drawn.cl 11 (fun K hK=>?_)
 go_simp
 have hati:¬ (fr.at_:Int) < m.code.length:=by omega
 have hatn:¬ fr.at_ < m.code.length:=by omega
 try simp only [hati,hatn,decide_false]
 refine (mustF _).mono ?_
 rintro e w3 ⟨rfl,rfl⟩
 go_wp2_with fail
 refine And.intro rfl ?_
 exact ⟨Pan.one _,((GW.out.trans (Gr.of_below (by exact Rd.byB))).lft (S2.out.below (by exact Rd.byB))).stop⟩
set_option maxRecDepth 100000 in
theorem doI (FS:FiR E.f) (MS:MeR E.f m) (S:ST E w L P m d h fr vs) (HO:HpOk E.f.classes E.input E.fuel (stepped h)) (hf:RfOk m (stepped h).objs.length fr) (hatb:fr.at_≤100000) (hs:h.steps < E.fuel) (hfu:E.fuel≤60000) (hin:E.input.length≤1000) (op a b c n:Int) (args:List Int) (hi:m.code[fr.at_]? = some ⟨op,a,b,c,n,args⟩) (hI:Rform.ins E.f m ⟨op,a,b,c,n,args⟩=true) (g:Nat) (HI:InvOk E d g (stepped h)) :
  Calls Try.prog 39 #[.pointer (some ⟨P.cb,0,none⟩)] w (DoR E L P m d vs fr w (outA RM E.f E.input E.fuel g d m (RM.step E.f E.input m ⟨op,a,b,c,n,args⟩ fr (stepped h)))):=by
 have HS:=Lib.hid S
 have hcb:=S.cbw
 have hat:fr.at_ < m.code.length:=(List.getElem?_eq_some_iff.1 hi).1
 obtain ⟨ica,icap,hvc,i1,i2,iel⟩:=id S.M.co
 obtain ⟨ib,io,rfl,hib,hie⟩:=iel fr.at_ hat
 have hx:m.code[fr.at_]=⟨op,a,b,c,n,args⟩:=by rw [List.getElem?_eq_getElem hat] at hi;exact Option.some.inj hi
 rw [hx] at hie
 obtain ⟨x0,x1,x2,x3,x4,_,va,x5,hva⟩:=hie
 obtain ⟨aa,acap,rfl,_⟩:=id hva
 replace hva:=Lib.hid hva
 simp only at x0 x1 x2 x3 x4
 have c7:=S.c7
 rw [hvc] at c7
 have c0:=S.c0
 have c10:=S.c10
 have nr:=S.fo_new (Nat.le_refl _)
 have nrO:¬ own E L w.heap.size:=fun hk=>nr (.inl hk)
 have nib:¬ Hpr.fo E L P vs ib:=fun hk=>by have:=(S.fo_lo hk).1;omega
 have nibO:¬ own E L ib:=fun hk=>nib (.inl hk)
 have hibw:ib < w.heap.size:=by have:=S.base;omega
 have hati:(fr.at_:Int) < m.code.length:=by omega
 have hatd:decide ((fr.at_:Int) < m.code.length)=true:=by simpa using hati
 have hwr:IntKind.i64.wrap ((fr.at_:Int)+1)=(fr.at_:Int)+1:=by rw [Num.wrap_i64,wrap64_id (by unfold Ok;omega)]
 have HCO:=Lib.hid hvc
 clear S iel hi hx hvc i1
 go_enter Try.func39,Try.ntmps39
 go_wp2_with (go_at_call 72;refine (stepOk (HS.out.below (by exact Rd.byB)).H hs hfu).mono ?_;rintro e w2 ⟨rfl,H2,K2⟩;have S2:=(HS.out.below (w':=w.alloc (.cells #[.int .i64 0,.int .i64 0] 48)) (by exact Rd.byB)).heap K2 same_own H2;have r0:=K2.cell (c:=w.heap.size) (o:=0) (v:=.int .i64 0) (by go_simp) nrO;have r1:=K2.cell (c:=w.heap.size) (o:=1) (v:=.int .i64 0) (by go_simp) nrO;have rf0:=K2.frz (c:=w.heap.size) (o:=0) (b:=false) (by go_simp) (by simp) nrO;have rf1:=K2.frz (c:=w.heap.size) (o:=1) (b:=false) (by go_simp) (by simp) nrO;have z0:=S2.c0;have z10:=S2.c10;have z7:=S2.c7;rw [HCO.out] at z7;have u0:=K2.cell (c:=ib) (o:=io+fr.at_*6) (v:=.int .i64 (op)) (by go_simp) nibO;have u1:=K2.cell (c:=ib) (o:=io+fr.at_*6+1) (v:=.int .i64 a) (by go_simp) nibO;have u2:=K2.cell (c:=ib) (o:=io+fr.at_*6+2) (v:=.int .i64 b) (by go_simp) nibO;have u3:=K2.cell (c:=ib) (o:=io+fr.at_*6+3) (v:=.int .i64 c) (by go_simp) nibO;have u4:=K2.cell (c:=ib) (o:=io+fr.at_*6+4) (v:=.int .i64 n) (by go_simp) nibO;have u5:=K2.cell (c:=ib) (o:=io+fr.at_*6+5) (v:=.slice aa args.length acap) (by go_simp) nibO;have GW:=Lib.hid (show Gr E L P vs w L vs w2 from ⟨(Kp.of_below (B:=w.heap.size) (X:=Hpr.fo E L P vs) (w':=w.alloc (.cells #[.int .i64 0,.int .i64 0] 48)) (by exact Rd.byB) (Nat.le_refl _)).trans K2 (fun y hy=>.inl (.inl hy)),fun _ q=>.inl q,fun _ q=>.inl q⟩);have nf2:=S2.fo_new (Nat.le_refl _);have hcb2:=S2.cbw;have hrw:=cell_lt r0;have hib2:=cell_lt u0;replace S2:=Lib.hid S2;clear H2 K2 c7 c0 c10 x0 x1 x2 x3 x4 x5)
 refine Drawn.hd (fun w'=>w'.cell? ⟨P.cb,10,none⟩=some (.int .i64 fr.at_)∧w'.cell? ⟨P.cb,7,none⟩=some (.slice (some ⟨ib,io,none⟩) m.code.length icap)) (h:=fun hHeld=>?_)
 refine Drawn.T 0 (some 14) (h:=?_)
 refine Drawn.T 1 (some 15) (h:=?_)
 refine Drawn.T 2 (some 16) (h:=?_)
 refine Drawn.T 3 (some 17) (h:=?_)
 refine Drawn.T 4 (some 18) (h:=?_)
 refine Drawn.T 5 (some 19) (h:=?_)
 refine Drawn.T 6 (some 20) (h:=?_)
 refine Drawn.T 7 (some 21) (h:=?_)
 refine Drawn.T 8 (some 22) (h:=?_)
 refine Drawn.T 9 (some 23) (h:=?_)
 refine Drawn.T 10 (some 24) (h:=?_)
 refine Drawn.cl 11 (fun K hK=>?_)
 go_simp
 refine (mustT _).mono ?_
 rintro e w3 ⟨rfl,rfl⟩
 go_wp2_with fail
 refine Drawn.bk hK (h:=fun hHeld=>?_)
 clear hK K
 refine wpAnyH_done (by kernel_rfl) ?_ _
 go_wp2_with fail
 refine Drawn.hd (fun w'=>w'.cell? ⟨P.cb,10,none⟩=some (.int .i64 fr.at_)∧w'.cell? ⟨P.cb,7,none⟩=some (.slice (some ⟨ib,io,none⟩) m.code.length icap)∧w'.cell? ⟨ib,io+fr.at_*6,none⟩=some (.int .i64 op)∧w'.cell? ⟨ib,io+fr.at_*6+1,none⟩=some (.int .i64 a)∧w'.cell? ⟨ib,io+fr.at_*6+2,none⟩=some (.int .i64 b)∧w'.cell? ⟨ib,io+fr.at_*6+3,none⟩=some (.int .i64 c)∧w'.cell? ⟨ib,io+fr.at_*6+4,none⟩=some (.int .i64 n)∧w'.cell? ⟨ib,io+fr.at_*6+5,none⟩=some (.slice aa args.length acap)) (h:=fun hHeld=>?_)
 refine Drawn.T 0 (some 26) (h:=?_)
 refine Drawn.T 1 (some 27) (h:=?_)
 refine Drawn.T 2 (some 28) (h:=?_)
 refine Drawn.T 3 (some 29) (h:=?_)
 refine Drawn.T 4 (some 30) (h:=?_)
 refine Drawn.T 5 (some 31) (h:=?_)
 refine Drawn.T 6 (some 32) (h:=?_)
 refine Drawn.T 7 (some 33) (h:=?_)
 refine Drawn.T 8 (some 34) (h:=?_)
 refine Drawn.T 9 (some 35) (h:=?_)
 refine Drawn.T 10 (some 36) (h:=?_)
 refine Drawn.cl 11 (fun K hK=>?_)
 go_simp
 refine Drawn.bk hK (h:=fun hHeld=>?_)
 clear hK K
 refine Drawn.cl 12 (fun K hK=>?_)
 go_simp
 refine Drawn.bk hK (h:=fun hHeld=>?_)
 clear hK K
 refine wpAnyH_done (by kernel_rfl) ?_ _
 generalize hWW:World.drew _=W
 replace hWW:=Lib.hid hWW
 have k0:W.cell? ⟨w2.heap.size,0,none⟩=some (.int .i64 (op)):=by rw [← hWW.out];go_simp
 have k1:W.cell? ⟨w2.heap.size,1,none⟩=some (.int .i64 a):=by rw [← hWW.out];go_simp
 have k2:W.cell? ⟨w2.heap.size,2,none⟩=some (.int .i64 b):=by rw [← hWW.out];go_simp
 have k3:W.cell? ⟨w2.heap.size,3,none⟩=some (.int .i64 c):=by rw [← hWW.out];go_simp
 have k4:W.cell? ⟨w2.heap.size,4,none⟩=some (.int .i64 n):=by rw [← hWW.out];go_simp
 have k5:W.cell? ⟨w2.heap.size,5,none⟩=some (.slice aa args.length acap):=by rw [← hWW.out];go_simp
 have hbW:Below w2.heap.size w2 W:=by rw [← hWW.out];exact Rd.byB
 have hzW:w2.heap.size < W.heap.size:=cell_lt k0
 have SW:=S2.out.below hbW
 have s0:=kept hbW hrw r0
 have s1:=kept hbW hrw r1
 have sf0:=frz_kept hbW hrw rf0
 have sf1:=frz_kept hbW hrw rf1
 have e0:=SW.c0
 have e10:=SW.c10
 have ef10:=SW.fz 10 (by decide)
 have hcbW:=SW.cbw
 have hrW:w.heap.size < W.heap.size:=by omega
 have G:=Lib.hid (GW.out.trans (Gr.of_below hbW))
 replace SW:=Lib.hid SW
 clear hWW r0 r1 rf0 rf1 z0 z10 z7 u0 u1 u2 u3 u4 u5 GW hbW S2
 have e11:=SW.out.c11
 have e12:=SW.out.c12
 have e13:=SW.out.c13
 have e14:=SW.out.c14
 have ef11:=SW.out.fz 11 (by decide)
 have ef12:=SW.out.fz 12 (by decide)
 have ef13:=SW.out.fz 13 (by decide)
 have ef14:=SW.out.fz 14 (by decide)
 go_upto_region 4 with (fail)
 go_cut [5,6] from 37 to 44 (fun s5 s6 wx=>∃ b5 b6:Nat,s5=.pointer (some ⟨b5,0,none⟩)∧s6=.pointer (some ⟨b6,0,none⟩)∧Hid (Below W.heap.size W wx)∧(W.heap.size≤b5∧W.heap.size≤b6)∧wx.cell? ⟨b5,0,none⟩=some (.int .i64 fr.given.kind)∧wx.cell? ⟨b5,1,none⟩=some (.int .i64 fr.given.n)∧wx.cell? ⟨b6,0,none⟩=some (.int .i64 fr.got.kind)∧wx.cell? ⟨b6,1,none⟩=some (.int .i64 fr.got.n))
 case first =>
  refine Drawn.hd (fun w'=>w'.cell? ⟨P.cb,11,none⟩=some (.int .i64 fr.given.kind)∧w'.cell? ⟨P.cb,12,none⟩=some (.int .i64 fr.given.n)∧w'.cell? ⟨P.cb,13,none⟩=some (.int .i64 fr.got.kind)∧w'.cell? ⟨P.cb,14,none⟩=some (.int .i64 fr.got.n)) (h:=fun hHeld=>?_)
  refine Drawn.T 0 (some 37) (h:=?_)
  refine Drawn.T 1 (some 38) (h:=?_)
  refine Drawn.T 2 (some 39) (h:=?_)
  refine Drawn.T 3 (some 40) (h:=?_)
  refine Drawn.T 4 (some 41) (h:=?_)
  refine Drawn.T 5 (some 42) (h:=?_)
  refine Drawn.T 6 (some 43) (h:=?_)
  refine Drawn.T 7 (some 44) (h:=?_)
  refine wpAnyH_ready (rs:=[8,9]) (by kernel_rfl) (by simp) ?_
  refine AllReadyH.cons rfl (fun K hK=>?_) (AllReadyH.cons rfl (fun K hK=>?_) AllReadyH.nil)
  ·go_simp
   refine Drawn.bk hK (h:=fun hHeld=>?_)
   clear hK K
   refine Drawn.cl 9 (fun K hK=>?_)
   go_simp
   refine Drawn.bk hK (h:=fun hHeld=>?_)
   clear hK K
   refine Drawn.cl 10 (fun K hK=>?_)
   go_simp
   refine Drawn.bk hK (h:=fun hHeld=>?_)
   clear hK K
   refine Drawn.cl 11 (fun K hK=>?_)
   go_simp
   refine Drawn.bk hK (h:=fun hHeld=>?_)
   clear hK K
   refine wpAnyH_done (by kernel_rfl) ?_ _
   go_wp2_with fail
   go_meet
   exact ⟨_,_,rfl,rfl,Lib.hid (by exact Rd.byB),⟨by simp,by simp⟩,by go_simp,by go_simp,by go_simp,by go_simp⟩
  ·go_simp
   refine Drawn.bk hK (h:=fun hHeld=>?_)
   clear hK K
   refine Drawn.cl 8 (fun K hK=>?_)
   go_simp
   refine Drawn.bk hK (h:=fun hHeld=>?_)
   clear hK K
   refine Drawn.cl 10 (fun K hK=>?_)
   go_simp
   refine Drawn.bk hK (h:=fun hHeld=>?_)
   clear hK K
   refine Drawn.cl 11 (fun K hK=>?_)
   go_simp
   refine Drawn.bk hK (h:=fun hHeld=>?_)
   clear hK K
   refine wpAnyH_done (by kernel_rfl) ?_ _
   go_wp2_with fail
   go_meet
   exact ⟨_,_,rfl,rfl,Lib.hid (by exact Rd.byB),⟨by simp,by simp⟩,by go_simp,by go_simp,by go_simp,by go_simp⟩
 case rest =>
  obtain ⟨b5,b6,rfl,rfl,hbx,⟨l5,l6⟩,g0,g1,q0,q1⟩:=hcut
  have hsx:=hbx.out.size
  have hbxx:=hbx.out
  replace k0:=kept hbxx hzW k0
  replace k1:=kept hbxx hzW k1
  replace k2:=kept hbxx hzW k2
  replace k3:=kept hbxx hzW k3
  replace k4:=kept hbxx hzW k4
  replace k5:=kept hbxx hzW k5
  replace s0:=kept hbxx hrW s0
  replace s1:=kept hbxx hrW s1
  replace sf0:=frz_kept hbxx hrW sf0
  replace sf1:=frz_kept hbxx hrW sf1
  have S4:=SW.out.below hbxx
  replace e0:=S4.c0
  replace e10:=S4.c10
  replace ef10:=S4.fz 10 (by decide)
  replace e11:=S4.c11
  replace ef11:=S4.fz 11 (by decide)
  replace e12:=S4.c12
  replace ef12:=S4.fz 12 (by decide)
  replace e13:=S4.c13
  replace ef13:=S4.fz 13 (by decide)
  replace e14:=S4.c14
  replace ef14:=S4.fz 14 (by decide)
  obtain ⟨L6,v6,G6,S6⟩:=(S4.setGiven Vl.nil).opn
  obtain ⟨L7,v7,G7,S7⟩:=(S6.setGot Vl.nil).opn
  have n0:w.heap.size≠P.cb:=by omega
  have n2:w2.heap.size≠P.cb:=by omega
  have n5:b5≠P.cb:=by omega
  have n6:b6≠P.cb:=by omega
  have GQ:=Lib.hid (G6.trans G7)
  have GX:=Lib.hid ((G.out.trans (Gr.of_below hbxx)).trans (G6.trans G7))
  have nz:∀ b,w.heap.size≤b→b < wc.heap.size→¬ Hpr.fo E L7 P v7 b:=fun b hb1 hb2=>GQ.out.nf hb2 (HS.out.fo_new hb1)
  have SX:=Lib.hid S7
  have lw0:=cell_lt s0
  have lw2:=cell_lt k0
  have lb5:=cell_lt g0
  have lb6:=cell_lt q0
  have hcbc:P.cb < wc.heap.size:=by omega
  clear G6 G7 S6 S7 S4 GQ
  go_upto_region 7 with (fail)
  generalize hWX:((((wc.setCell ⟨P.cb,11,none⟩ (.int .i64 0)).setCell ⟨P.cb,12,none⟩ (.int .i64 0)).setCell ⟨P.cb,13,none⟩ (.int .i64 0)).setCell ⟨P.cb,14,none⟩ (.int .i64 0))=WX
  replace hWX:=Lib.hid hWX
  have SY:Hid (ST E WX L7 P m d (stepped h) ⟨fr.regs,fr.at_,Vl.nil,Vl.nil⟩ v7):=by
   show ST _ _ _ _ _ _ _ _ _
   rw [← hWX.out];exact SX.out
  have GY:Hid (Gr E L P vs w L7 v7 WX):=by
   show Gr _ _ _ _ _ _ _ _
   rw [← hWX.out];exact GX.out
  have cK0:WX.cell? ⟨w2.heap.size,0,none⟩=some (.int .i64 op):=by rw [← hWX.out];go_simp
  have cK1:WX.cell? ⟨w2.heap.size,1,none⟩=some (.int .i64 a):=by rw [← hWX.out];go_simp
  have cK2:WX.cell? ⟨w2.heap.size,2,none⟩=some (.int .i64 b):=by rw [← hWX.out];go_simp
  have cK3:WX.cell? ⟨w2.heap.size,3,none⟩=some (.int .i64 c):=by rw [← hWX.out];go_simp
  have cK4:WX.cell? ⟨w2.heap.size,4,none⟩=some (.int .i64 n):=by rw [← hWX.out];go_simp
  have cK5:WX.cell? ⟨w2.heap.size,5,none⟩=some (.slice aa args.length acap):=by rw [← hWX.out];go_simp
  have cA0:WX.cell? ⟨b5,0,none⟩=some (.int .i64 fr.given.kind):=by rw [← hWX.out];go_simp
  have cA1:WX.cell? ⟨b5,1,none⟩=some (.int .i64 fr.given.n):=by rw [← hWX.out];go_simp
  have cB0:WX.cell? ⟨b6,0,none⟩=some (.int .i64 fr.got.kind):=by rw [← hWX.out];go_simp
  have cB1:WX.cell? ⟨b6,1,none⟩=some (.int .i64 fr.got.n):=by rw [← hWX.out];go_simp
  have cR0:WX.cell? ⟨w.heap.size,0,none⟩=some (.int .i64 0):=by rw [← hWX.out];go_simp
  have cR1:WX.cell? ⟨w.heap.size,1,none⟩=some (.int .i64 0):=by rw [← hWX.out];go_simp
  have cX0:WX.cell? ⟨P.cb,0,none⟩=some (.pointer (some ⟨E.hb,0,none⟩)):=by rw [← hWX.out];go_simp
  have cX10:WX.cell? ⟨P.cb,10,none⟩=some (.int .i64 fr.at_):=by rw [← hWX.out];go_simp
  have fR0:WX.frozen? ⟨w.heap.size,0,none⟩=false:=by rw [← hWX.out];go_simp
  have fR1:WX.frozen? ⟨w.heap.size,1,none⟩=false:=by rw [← hWX.out];go_simp
  have fX10:=SY.out.fz 10 (by decide)
  have hsWX:WX.heap.size=wc.heap.size:=by rw [← hWX.out];simp
  have nz0:=nz w.heap.size (Nat.le_refl _) lw0
  have hcbX:=SY.out.cbw
  have lR:=cell_lt cR0
  have lK:=cell_lt cK0
  have lA:=cell_lt cA0
  have lB:=cell_lt cB0
  have hBX:=SY.out.base
  have hvX:=Lib.hid (Sl.mono mInt hva.out (HS.out.bel GY.out.kp) (Nat.le_refl _))
  clear hva
  clear SX GX hWX e0 e10 e11 e12 e13 e14 ef10 ef11 ef12 ef13 ef14 k0 k1 k2 k3 k4 k5 s0 s1 sf0 sf1 g0 g1 q0 q1
  have hB:=HS.out.base
  have h1000:fr.regs.length≤1000:=by have:=MS.regs.2.2;have:=hf.len;omega
  have hI0:=Lib.hid hI
  simp only [Rform.ins,Bool.and_eq_true] at hI
  obtain ⟨⟨_,hb⟩,_⟩:=hI
  by_cases q10:op=10
  ·subst q10
   simp [Rform.body,rng_iff] at hb
   obtain ⟨ka,rfl⟩:∃ k:Nat,a=(k:Int):=⟨a.toNat,by omega⟩
   go_wp2_with fail
   refine bodyPost_ret (v:=.tuple #[.agg #[.int .i64 0,.int .i64 0],.bool false]) (by simp [results,Try.results39,go_sem] <;> go_simp) rfl ?_
   exact goR rfl hB GY.out SY.out lR nz0
  by_cases q11:op=11
  ·subst q11
   simp [Rform.body,rng_iff] at hb
   obtain ⟨ka,rfl⟩:∃ k:Nat,a=(k:Int):=⟨a.toNat,by omega⟩
   obtain ⟨kc,rfl⟩:∃ k:Nat,c=(k:Int):=⟨c.toNat,by have:=(reg_l hb.2 hf.len).1;omega⟩
   have hkc:kc < fr.regs.length:=by have:=(reg_l hb.2 hf.len).2;rwa [Int.toNat_natCast] at this
   obtain ⟨⟨ck,cn⟩,hxc⟩:∃ v,Hid (fr.regs.getD kc Vl.nil=v):=⟨_,Lib.hid rfl⟩
   have hrc:rd fr (kc:Int)=⟨ck,cn⟩:=by unfold rd;rw [Int.toNat_natCast];exact hxc.out
   obtain ⟨p,hp⟩:∃ p,Hid (Num.holds b cn=p):=⟨_,Lib.hid rfl⟩
   go_wp2_with fail
   refine Drawn.hd (fun w'=>w'.cell? ⟨w2.heap.size,2,none⟩=some (.int .i64 b)∧w'.cell? ⟨w2.heap.size,3,none⟩=some (.int .i64 kc)) (h:=fun hHeld=>?_)
   refine Drawn.T 0 (some 69) (h:=?_)
   refine Drawn.T 1 (some 70) (h:=?_)
   refine Drawn.T 2 (some 71) (h:=?_)
   refine Drawn.T 3 (some 72) (h:=?_)
   refine Drawn.T 4 (some 73) (h:=?_)
   refine Drawn.cl 5 (fun K hK=>?_)
   go_simp
   by_cases qk:ck=1
   ·subst qk
    refine (readOk (SY.out.below (by exact Rd.byB)) kc hkc h1000 ⟨1,cn⟩ hxc.out 1 rfl).mono ?_
    rintro e w5 ⟨rfl,hb5⟩
    have HB5:=Lib.hid (show Below WX.heap.size WX w5 from Below.trans (by exact Rd.byB) (hb5.mono Rd.byL))
    have dK2:=kept HB5.out lK cK2
    have dK3:=kept HB5.out lK cK3
    have hfl:=fieldN
    go_wp2_with fail
    refine Drawn.bk hK (hS:=by (try dsimp only);exact ⟨dK2,dK3⟩) (h:=fun hHeld=>?_)
    clear hK K
    refine Drawn.T 6 (some 75) (h:=?_)
    refine Drawn.cl 7 (fun K hK=>?_)
    go_simp
    refine (NumW.holds b cn _).mono ?_
    rw [hp.out]
    rintro e w6 ⟨rfl,hb6⟩
    have HB6:=Lib.hid (show Below WX.heap.size WX w6 from HB5.out.trans (hb6.mono HB5.out.size))
    clear dK2 dK3 hb5 hb6
    have S5:=SY.out.below HB6.out
    have d10:=S5.c10
    have fd10:=S5.fz 10 (by decide)
    have dR0:=kept HB6.out lR cR0
    have dR1:=kept HB6.out lR cR1
    have fdR0:=frz_kept HB6.out lR fR0
    have fdR1:=frz_kept HB6.out lR fR1
    have dK1:=kept HB6.out lK cK1
    have dK2:=kept HB6.out lK cK2
    have dK3:=kept HB6.out lK cK3
    have lR5:=cell_lt dR0
    have lK5:=cell_lt dK1
    have hcb5:=S5.cbw
    have nz5:=nz0
    go_wp2_with fail
    refine Drawn.bk hK (hS:=by (try dsimp only);exact ⟨dK2,dK3⟩) (h:=fun hHeld=>?_)
    clear hK K
    refine wpAnyH_done (by kernel_rfl) ?_ _
    replace S5:=Lib.hid S5
    cases p
    ·skip
     go_wp2_with fail
     refine bodyPost_ret (v:=.tuple #[.agg #[.int .i64 0,.int .i64 0],.bool false]) (by simp [results,Try.results39,go_sem] <;> go_simp) rfl ?_
     exact goR (fr1:=⟨fr.regs,fr.at_,Vl.nil,Vl.nil⟩) (t:=fr.at_+1) (by show outA RM E.f E.input E.fuel g d m (rkind (rd fr (kc:Int)) 1 (stepped h) (rgo fr (if Num.holds b (rd fr (kc:Int)).n then (ka:Int).toNat else fr.at_+1) (stepped h)))=_;rw [hrc];unfold rkind;rw [if_pos rfl];simp only [hp.out];rfl) hB (GY.out.trans (Gr.of_below HB6.out)) S5.out lR5 nz5
    ·skip
     go_wp2_with fail
     refine bodyPost_ret (v:=.tuple #[.agg #[.int .i64 0,.int .i64 0],.bool false]) (by simp [results,Try.results39,go_sem] <;> go_simp) rfl ?_
     exact goR (fr1:=⟨fr.regs,fr.at_,Vl.nil,Vl.nil⟩) (t:=ka) (by show outA RM E.f E.input E.fuel g d m (rkind (rd fr (kc:Int)) 1 (stepped h) (rgo fr (if Num.holds b (rd fr (kc:Int)).n then (ka:Int).toNat else fr.at_+1) (stepped h)))=_;rw [hrc];unfold rkind;rw [if_pos rfl];simp only [hp.out];rfl) hB (GY.out.trans (Gr.of_below HB6.out)) S5.out lR5 nz5
   ·refine (readBad (SY.out.below (by exact Rd.byB)) kc hkc h1000 ⟨ck,cn⟩ hxc.out 1 qk).mono ?_
    rintro e w5 ⟨rfl,hb5⟩
    have HB5:=Lib.hid (show Below WX.heap.size WX w5 from Below.trans (by exact Rd.byB) (hb5.mono Rd.byL))
    unfold pan
    refine And.intro rfl ?_
    rw [show outA RM E.f E.input E.fuel g d m (RM.step E.f E.input m ⟨11,(ka:Int),b,(kc:Int),n,args⟩ fr (stepped h))=.stop 6 (stepped h) from by show outA RM E.f E.input E.fuel g d m (rkind (rd fr (kc:Int)) 1 (stepped h) _)=_;rw [hrc];unfold rkind;rw [if_neg qk];rfl]
    exact ⟨Pan.one _,((GY.out.trans (Gr.of_below HB5.out)).lft (SY.out.below HB5.out)).stop⟩
  by_cases q12:op=12
  ·subst q12
   simp [Rform.body,rng_iff] at hb
   obtain ⟨ka,rfl⟩:∃ k:Nat,a=(k:Int):=⟨a.toNat,by omega⟩
   obtain ⟨kc,rfl⟩:∃ k:Nat,c=(k:Int):=⟨c.toNat,by have:=(reg_l hb.2 hf.len).1;omega⟩
   have hkc:kc < fr.regs.length:=by have:=(reg_l hb.2 hf.len).2;rwa [Int.toNat_natCast] at this
   obtain ⟨⟨ck,cn⟩,hxc⟩:∃ v,Hid (fr.regs.getD kc Vl.nil=v):=⟨_,Lib.hid rfl⟩
   have hrc:rd fr (kc:Int)=⟨ck,cn⟩:=by unfold rd;rw [Int.toNat_natCast];exact hxc.out
   have hfl:=fieldN
   by_cases qk:ck=3
   ·subst qk
    by_cases qn:cn < 0
    ·have qb:decide (cn < 0)=true:=by simpa using qn
     go_wp2_with fail
     refine (readOk SY.out kc hkc h1000 ⟨3,cn⟩ hxc.out 3 rfl).mono ?_
     rintro e w6 ⟨rfl,hb6⟩
     have HB6:=Lib.hid (show Below WX.heap.size WX w6 from hb6)
     clear hb6
     have S5:=SY.out.below HB6.out
     have d10:=S5.c10
     have fd10:=S5.fz 10 (by decide)
     have dR0:=kept HB6.out lR cR0
     have dR1:=kept HB6.out lR cR1
     have fdR0:=frz_kept HB6.out lR fR0
     have fdR1:=frz_kept HB6.out lR fR1
     have dK1:=kept HB6.out lK cK1
     have dK2:=kept HB6.out lK cK2
     have dK3:=kept HB6.out lK cK3
     have lR5:=cell_lt dR0
     have lK5:=cell_lt dK1
     have hcb5:=S5.cbw
     have nz5:=nz0
     replace S5:=Lib.hid S5
     go_wp2_with fail
     refine bodyPost_ret (v:=.tuple #[.agg #[.int .i64 0,.int .i64 0],.bool false]) (by simp [results,Try.results39,go_sem] <;> go_simp) rfl ?_
     exact goR (fr1:=⟨fr.regs,fr.at_,Vl.nil,Vl.nil⟩) (t:=ka) (by show outA RM E.f E.input E.fuel g d m (rkind (rd fr (kc:Int)) 3 (stepped h) (rgo fr (if (rd fr (kc:Int)).n < 0 then (ka:Int).toNat else fr.at_+1) (stepped h)))=_;rw [hrc];unfold rkind;rw [if_pos rfl];rw [if_pos qn];rfl) hB (GY.out.trans (Gr.of_below HB6.out)) S5.out lR5 nz5
    ·have qb:decide (cn < 0)=false:=by simpa using qn
     go_wp2_with fail
     refine (readOk SY.out kc hkc h1000 ⟨3,cn⟩ hxc.out 3 rfl).mono ?_
     rintro e w6 ⟨rfl,hb6⟩
     have HB6:=Lib.hid (show Below WX.heap.size WX w6 from hb6)
     clear hb6
     have S5:=SY.out.below HB6.out
     have d10:=S5.c10
     have fd10:=S5.fz 10 (by decide)
     have dR0:=kept HB6.out lR cR0
     have dR1:=kept HB6.out lR cR1
     have fdR0:=frz_kept HB6.out lR fR0
     have fdR1:=frz_kept HB6.out lR fR1
     have dK1:=kept HB6.out lK cK1
     have dK2:=kept HB6.out lK cK2
     have dK3:=kept HB6.out lK cK3
     have lR5:=cell_lt dR0
     have lK5:=cell_lt dK1
     have hcb5:=S5.cbw
     have nz5:=nz0
     replace S5:=Lib.hid S5
     go_wp2_with fail
     refine bodyPost_ret (v:=.tuple #[.agg #[.int .i64 0,.int .i64 0],.bool false]) (by simp [results,Try.results39,go_sem] <;> go_simp) rfl ?_
     exact goR (fr1:=⟨fr.regs,fr.at_,Vl.nil,Vl.nil⟩) (t:=fr.at_+1) (by show outA RM E.f E.input E.fuel g d m (rkind (rd fr (kc:Int)) 3 (stepped h) (rgo fr (if (rd fr (kc:Int)).n < 0 then (ka:Int).toNat else fr.at_+1) (stepped h)))=_;rw [hrc];unfold rkind;rw [if_pos rfl];rw [if_neg (by show ¬ cn < 0;omega)];rfl) hB (GY.out.trans (Gr.of_below HB6.out)) S5.out lR5 nz5
   ·go_wp2_with fail
    refine (readBad SY.out kc hkc h1000 ⟨ck,cn⟩ hxc.out 3 qk).mono ?_
    rintro e w5 ⟨rfl,hb5⟩
    unfold pan
    refine And.intro rfl ?_
    rw [show outA RM E.f E.input E.fuel g d m (RM.step E.f E.input m ⟨12,(ka:Int),0,(kc:Int),n,args⟩ fr (stepped h))=.stop 6 (stepped h) from by show outA RM E.f E.input E.fuel g d m (rkind (rd fr (kc:Int)) 3 (stepped h) _)=_;rw [hrc];unfold rkind;rw [if_neg qk];rfl]
    exact ⟨Pan.one _,((GY.out.trans (Gr.of_below hb5)).lft (SY.out.below hb5)).stop⟩
  by_cases q19:op=19
  ·subst q19
   simp [Rform.body,rng_iff] at hb
   have hreg:Rform.reg m.regs a b=true:=hb.1.2
   obtain ⟨ka,rfl⟩:∃ k:Nat,a=(k:Int):=⟨a.toNat,by have:=(reg_l hreg hf.len).1;omega⟩
   by_cases qk:fr.given.kind=b
   ·have qb:(fr.given.kind==b)=true:=by simpa using qk
    have hw:=reg_w (v:=fr.given) hreg hf.len (fun e=>by rw [← qk];exact e)
    rw [Int.toNat_natCast] at hw
    have c9:WX.cell? ⟨P.cb,9,none⟩=some (.slice (some ⟨P.lb,0,none⟩) fr.regs.length fr.regs.length):=SY.out.c9
    have QK:=Lib.hid qk
    clear qk
    go_wp2_with (go_at_call 65;refine (mustT _).mono ?_;rintro e w5 ⟨rfl,rfl⟩)
    refine Drawn.hd (fun w'=>w'.cell? ⟨P.cb,9,none⟩=some (.slice (some ⟨P.lb,0,none⟩) fr.regs.length fr.regs.length)∧w'.cell? ⟨w2.heap.size,1,none⟩=some (.int .i64 ka)∧w'.cell? ⟨b5,0,none⟩=some (.int .i64 fr.given.kind)∧w'.cell? ⟨b5,1,none⟩=some (.int .i64 fr.given.n)) (h:=fun hHeld=>?_)
    refine Drawn.T 0 (some 102) (h:=?_)
    refine Drawn.T 1 (some 103) (h:=?_)
    refine Drawn.T 2 (some 104) (h:=?_)
    refine Drawn.T 3 (some 105) (h:=?_)
    refine Drawn.T 4 (some 106) (h:=?_)
    refine Drawn.T 5 (some 107) (h:=?_)
    refine Drawn.T 6 (some 108) (h:=?_)
    refine Drawn.cl 7 (fun K hK=>?_)
    go_simp
    refine (storeR (SY.out.below (by exact Rd.byB)) hf.regs.pair ka fr.given hw h1000).mono ?_
    rintro e w6 ⟨rfl,A⟩
    have d1:=A.box (b:=w2.heap.size) (o:=1) (v:=.int .i64 ka) (by go_simp) (nz _ (by omega) lw2)
    have d2:=A.box (b:=b5) (o:=0) (v:=.int .i64 fr.given.kind) (by go_simp) (nz _ (by omega) lb5)
    have d3:=A.box (b:=b5) (o:=1) (v:=.int .i64 fr.given.n) (by go_simp) (nz _ (by omega) lb5)
    have dR0:=A.box (b:=w.heap.size) (o:=0) (v:=.int .i64 0) (by go_simp) nz0
    have dR1:=A.box (b:=w.heap.size) (o:=1) (v:=.int .i64 0) (by go_simp) nz0
    have fR0':=A.boxf (b:=w.heap.size) (o:=0) (x:=false) (by go_simp) lR nz0
    have fR1':=A.boxf (b:=w.heap.size) (o:=1) (x:=false) (by go_simp) lR nz0
    obtain ⟨L8,v8,G8,S8⟩:=A.opn
    have nz8:=G8.nf lR nz0
    have d9:w6.cell? ⟨P.cb,9,none⟩=some (.slice (some ⟨P.lb,0,none⟩) fr.regs.length fr.regs.length):=by have:=S8.c9;rw [Run.store_len] at this;exact this
    have d10:=S8.c10
    have fd10:=S8.fz 10 (by decide)
    have lR8:=cell_lt dR0
    have hcb8:=S8.cbw
    have G9:=Lib.hid (GY.out.trans ((Gr.of_below (w:=WX) (by exact Rd.byB)).trans G8))
    replace S8:=Lib.hid S8
    clear A G8
    go_wp2_with fail
    refine Drawn.bk hK (hS:=by (try dsimp only);exact ⟨d9,d1,d2,d3⟩) (h:=fun hHeld=>?_)
    clear hK K
    refine wpAnyH_done (by kernel_rfl) ?_ _
    go_wp2_with fail
    refine bodyPost_ret (v:=.tuple #[.agg #[.int .i64 0,.int .i64 0],.bool false]) (by simp [results,Try.results39,go_sem] <;> go_simp) rfl ?_
    exact goR (fr1:=⟨Run.store fr.regs ka fr.given,fr.at_,Vl.nil,Vl.nil⟩) (t:=fr.at_+1) (by show outA RM E.f E.input E.fuel g d m (rkind fr.given b (stepped h) _)=_;unfold rkind;rw [if_pos QK.out];rfl) hB G9.out S8.out lR8 nz8
   ·have qb:(fr.given.kind==b)=false:=by simpa using qk
    go_wp2_with (go_at_call 65;refine (mustF _).mono ?_;rintro e w5 ⟨rfl,rfl⟩)
    refine And.intro rfl ?_
    rw [show outA RM E.f E.input E.fuel g d m (RM.step E.f E.input m ⟨19,(ka:Int),b,0,n,args⟩ fr (stepped h))=.stop 6 (stepped h) from by show outA RM E.f E.input E.fuel g d m (rkind fr.given b (stepped h) _)=_;unfold rkind;rw [if_neg qk];rfl]
    exact ⟨Pan.one _,(GY.out.lft SY.out).stop⟩
  by_cases q22:op=22
  ·subst q22
   simp [Rform.body,rng_iff] at hb
   have hreg:Rform.reg m.regs a 3=true:=hb.1.1
   obtain ⟨ka,rfl⟩:∃ k:Nat,a=(k:Int):=⟨a.toNat,by have:=(reg_l hreg hf.len).1;omega⟩
   by_cases qk:fr.got.kind=3
   ·have qb:(fr.got.kind==3)=true:=by simpa using qk
    have hw:=reg_w (v:=fr.got) hreg hf.len (fun e=>by rw [← qk];exact e)
    rw [Int.toNat_natCast] at hw
    have c9:WX.cell? ⟨P.cb,9,none⟩=some (.slice (some ⟨P.lb,0,none⟩) fr.regs.length fr.regs.length):=SY.out.c9
    have QK:=Lib.hid qk
    clear qk
    go_wp2_with (go_at_call 65;refine (mustT _).mono ?_;rintro e w5 ⟨rfl,rfl⟩)
    refine Drawn.hd (fun w'=>w'.cell? ⟨P.cb,9,none⟩=some (.slice (some ⟨P.lb,0,none⟩) fr.regs.length fr.regs.length)∧w'.cell? ⟨w2.heap.size,1,none⟩=some (.int .i64 ka)∧w'.cell? ⟨b6,0,none⟩=some (.int .i64 fr.got.kind)∧w'.cell? ⟨b6,1,none⟩=some (.int .i64 fr.got.n)) (h:=fun hHeld=>?_)
    refine Drawn.T 0 (some 116) (h:=?_)
    refine Drawn.T 1 (some 117) (h:=?_)
    refine Drawn.T 2 (some 118) (h:=?_)
    refine Drawn.T 3 (some 119) (h:=?_)
    refine Drawn.T 4 (some 120) (h:=?_)
    refine Drawn.T 5 (some 121) (h:=?_)
    refine Drawn.T 6 (some 122) (h:=?_)
    refine Drawn.cl 7 (fun K hK=>?_)
    go_simp
    refine (storeR (SY.out.below (by exact Rd.byB)) hf.regs.pair ka fr.got hw h1000).mono ?_
    rintro e w6 ⟨rfl,A⟩
    have d1:=A.box (b:=w2.heap.size) (o:=1) (v:=.int .i64 ka) (by go_simp) (nz _ (by omega) lw2)
    have d2:=A.box (b:=b6) (o:=0) (v:=.int .i64 fr.got.kind) (by go_simp) (nz _ (by omega) lb6)
    have d3:=A.box (b:=b6) (o:=1) (v:=.int .i64 fr.got.n) (by go_simp) (nz _ (by omega) lb6)
    have dR0:=A.box (b:=w.heap.size) (o:=0) (v:=.int .i64 0) (by go_simp) nz0
    have dR1:=A.box (b:=w.heap.size) (o:=1) (v:=.int .i64 0) (by go_simp) nz0
    have fR0':=A.boxf (b:=w.heap.size) (o:=0) (x:=false) (by go_simp) lR nz0
    have fR1':=A.boxf (b:=w.heap.size) (o:=1) (x:=false) (by go_simp) lR nz0
    obtain ⟨L8,v8,G8,S8⟩:=A.opn
    have nz8:=G8.nf lR nz0
    have d9:w6.cell? ⟨P.cb,9,none⟩=some (.slice (some ⟨P.lb,0,none⟩) fr.regs.length fr.regs.length):=by have:=S8.c9;rw [Run.store_len] at this;exact this
    have d10:=S8.c10
    have fd10:=S8.fz 10 (by decide)
    have lR8:=cell_lt dR0
    have hcb8:=S8.cbw
    have G9:=Lib.hid (GY.out.trans ((Gr.of_below (w:=WX) (by exact Rd.byB)).trans G8))
    replace S8:=Lib.hid S8
    clear A G8
    go_wp2_with fail
    refine Drawn.bk hK (hS:=by (try dsimp only);exact ⟨d9,d1,d2,d3⟩) (h:=fun hHeld=>?_)
    clear hK K
    refine wpAnyH_done (by kernel_rfl) ?_ _
    go_wp2_with fail
    refine bodyPost_ret (v:=.tuple #[.agg #[.int .i64 0,.int .i64 0],.bool false]) (by simp [results,Try.results39,go_sem] <;> go_simp) rfl ?_
    exact goR (fr1:=⟨Run.store fr.regs ka fr.got,fr.at_,Vl.nil,Vl.nil⟩) (t:=fr.at_+1) (by show outA RM E.f E.input E.fuel g d m (rkind fr.got 3 (stepped h) _)=_;unfold rkind;rw [if_pos QK.out];rfl) hB G9.out S8.out lR8 nz8
   ·have qb:(fr.got.kind==3)=false:=by simpa using qk
    go_wp2_with (go_at_call 65;refine (mustF _).mono ?_;rintro e w5 ⟨rfl,rfl⟩)
    refine And.intro rfl ?_
    rw [show outA RM E.f E.input E.fuel g d m (RM.step E.f E.input m ⟨22,(ka:Int),0,0,n,args⟩ fr (stepped h))=.stop 6 (stepped h) from by show outA RM E.f E.input E.fuel g d m (rkind fr.got 3 (stepped h) _)=_;unfold rkind;rw [if_neg qk];rfl]
    exact ⟨Pan.one _,(GY.out.lft SY.out).stop⟩
  by_cases q18:op=18
  ·subst q18
   simp [Rform.body,rng_iff] at hb
   obtain ⟨⟨⟨⟨⟨ha0,ha1⟩,hln⟩,hro⟩,rfl⟩,rfl⟩:=hb
   obtain ⟨ka,rfl⟩:∃ k:Nat,a=(k:Int):=⟨a.toNat,by omega⟩
   have hka:ka < E.f.methods.length:=by omega
   rw [mAt_eq hka] at hln hro
   have M2:=FS.mes _ (meAt_mem hka)
   have hfY:RfOk m (stepped h).objs.length ⟨fr.regs,fr.at_,Vl.nil,Vl.nil⟩:=⟨hf.regs,hf.len,nil_ok _,nil_ok _⟩
   obtain ⟨ac,hac⟩:∃ x,Hid (calA E g d m (meAt E.f ka) ⟨fr.regs,fr.at_,Vl.nil,Vl.nil⟩ args (stepped h)=x):=⟨_,Lib.hid rfl⟩
   have hnx:NXA fr.at_ ac:=by rw [← hac.out];exact calA_nx (fr:=⟨fr.regs,fr.at_,Vl.nil,Vl.nil⟩)
   have HACT:=Lib.hid ((act18 (E:=E) (d:=d) (m:=m) (fr:=fr) (h:=stepped h) (g:=g) (k:=ka) (b:=0) (c:=0) (n:=n) (args:=args)).trans hac.out)
   have HCAL:=Lib.hid (calledP SY.out HO hfY h1000 ka hka rfl M2.params.1 (fun t ht=>ty_kind (M2.params.2 t ht)) 0 0 n 18 args aa acap hln (regs_at hro hf.len hln) hvX.out g HI FS.many.2)
   clear hro M2 HI hln
   go_wp2_with fail
   refine HCAL.out.mono ?_
   rw [hac.out]
   rintro e w5 R
   cases ac with
   | back v h'=>exact hnx.elim
   | go fr' h' =>
    obtain ⟨l',a',g1,g2⟩:=fr'
    obtain ⟨ha',hg'⟩:=hnx
    simp only at ha' hg'
    subst ha' hg'
    obtain ⟨rfl,A⟩:=R
    obtain ⟨L8,v8,G8,S8⟩:=A.opn
    have dR0:=G8.cell nz0 cR0
    have dR1:=G8.cell nz0 cR1
    have fR0':=G8.frz nz0 lR fR0
    have fR1':=G8.frz nz0 lR fR1
    have nz8:=G8.nf lR nz0
    have d10:=S8.c10
    have fd10:=S8.fz 10 (by decide)
    have lR8:=cell_lt dR0
    have hcb8:=S8.cbw
    have G9:=Lib.hid (GY.out.trans G8)
    replace S8:=Lib.hid S8
    clear A G8 cR0 cR1 fR0 fR1 cX10 fX10 cK0 cK1 cK2 cK3 cK4 cK5
    go_wp2_with fail
    refine bodyPost_ret (v:=.tuple #[.agg #[.int .i64 0,.int .i64 0],.bool false]) (by simp [results,Try.results39,go_sem] <;> go_simp) rfl ?_
    exact goR (fr1:=⟨l',fr.at_,g1,Vl.nil⟩) (t:=fr.at_+1) HACT.out hB G9.out S8.out lR8 nz8
   | thrown o h' =>
    obtain ⟨⟨older,hol,rfl⟩,A⟩:=R
    refine And.intro rfl ?_
    rw [HACT.out]
    exact ⟨⟨older,hol,rfl⟩,(),GY.out.comp A⟩
   | stop c2 h' =>
    obtain ⟨⟨older,hol,rfl⟩,A⟩:=R
    refine And.intro rfl ?_
    rw [HACT.out]
    exact ⟨⟨older,hol,rfl⟩,GY.out.compS A⟩
  by_cases q20:op=20
  ·subst q20
   clear hsWX
   have e2:WX.cell? ⟨P.cb,2,none⟩=some (.int .i64 m.ret.kind):=SY.out.c2
   have e3:WX.cell? ⟨P.cb,3,none⟩=some (.int .i64 m.ret.cls):=SY.out.c3
   by_cases hr:m.ret.kind=0
   ·have hrb:(m.ret.kind==0)=true:=by simpa using hr
    go_wp2_with fail
    refine bodyPost_ret (v:=.tuple #[.agg #[.int .i64 0,.int .i64 0],.bool true]) (by simp [results,Try.results39,go_sem] <;> go_simp) rfl ?_
    exact goB (v:=Vl.nil) (by show outA RM E.f E.input E.fuel g d m (r20 E.f.classes m ⟨20,a,b,c,n,args⟩ fr (stepped h))=_;unfold r20;rw [if_pos hr];rfl) hB GY.out SY.out nz0
   ·have hrb:(m.ret.kind==0)=false:=by simpa using hr
    simp [Rform.body,rng_iff,hr] at hb
    obtain ⟨⟨rfl,rfl⟩,hreg⟩:=hb
    obtain ⟨ka,rfl⟩:∃ k:Nat,a=(k:Int):=⟨a.toNat,by have:=(reg_l hreg hf.len).1;omega⟩
    have hka:ka < fr.regs.length:=by have:=(reg_l hreg hf.len).2;rwa [Int.toNat_natCast] at this
    obtain ⟨⟨ck,cn⟩,hxc⟩:∃ v,Hid (fr.regs.getD ka Vl.nil=v):=⟨_,Lib.hid rfl⟩
    have hrc:rd fr (ka:Int)=⟨ck,cn⟩:=by unfold rd;rw [Int.toNat_natCast];exact hxc.out
    have hact:outA RM E.f E.input E.fuel g d m (RM.step E.f E.input m ⟨20,(ka:Int),0,0,n,args⟩ fr (stepped h))=if ck=m.ret.kind then (if ofT E.f.classes (stepped h) ⟨ck,cn⟩ m.ret=true then .back ⟨ck,cn⟩ (stepped h) else .stop 6 (stepped h)) else .stop 6 (stepped h):=by
     show outA RM E.f E.input E.fuel g d m (r20 E.f.classes m ⟨20,(ka:Int),0,0,n,args⟩ fr (stepped h))=_
     unfold r20;rw [if_neg hr,hrc];unfold rkind
     by_cases q:ck=m.ret.kind
     ·rw [if_pos q,if_pos q];cases ofT E.f.classes (stepped h) ⟨ck,cn⟩ m.ret <;> rfl
     ·rw [if_neg q,if_neg q];rfl
    have EP:=Lib.hid (fun (q:ck=m.ret.kind)=>hact.trans (if_pos q))
    have EN:=Lib.hid (fun (q:¬ ck=m.ret.kind)=>hact.trans (if_neg q))
    have v3:ck=3→cn < ((stepped h).objs.length:Int):=fun q=>by have:=rd_ok hf (ka:Int);rw [hrc] at this;exact (this.2.2.2 q).2
    replace v3:=Lib.hid v3
    clear hact
    go_upto_region 28 with (fail)
    go_cut [8] from 134 to 145 (fun s8 wx=>∃ b8:Nat,s8=.pointer (some ⟨b8,0,none⟩)∧ck=m.ret.kind∧Hid (Below WX.heap.size WX wx)∧WX.heap.size≤b8∧wx.cell? ⟨b8,0,none⟩=some (.int .i64 ck)∧wx.cell? ⟨b8,1,none⟩=some (.int .i64 cn))
    case first =>
     refine Drawn.hd (fun w'=>w'.cell? ⟨w2.heap.size,1,none⟩=some (.int .i64 ka)∧w'.cell? ⟨P.cb,2,none⟩=some (.int .i64 m.ret.kind)) (h:=fun hHeld=>?_)
     refine Drawn.T 0 (some 134) (h:=?_)
     refine Drawn.T 1 (some 135) (h:=?_)
     refine Drawn.T 2 (some 136) (h:=?_)
     refine Drawn.T 3 (some 137) (h:=?_)
     refine Drawn.T 4 (some 138) (h:=?_)
     refine Drawn.T 5 (some 139) (h:=?_)
     refine Drawn.T 6 (some 140) (h:=?_)
     refine Drawn.T 7 (some 141) (h:=?_)
     refine Drawn.T 8 (some 142) (h:=?_)
     refine wpAnyH_ready (rs:=[9,10]) (by kernel_rfl) (by simp) ?_
     refine AllReadyH.cons rfl (fun K hK=>?_) (AllReadyH.cons rfl (fun K hK=>?_) AllReadyH.nil)
     ·go_simp
      by_cases qk:ck=m.ret.kind
      ·subst qk
       refine (readOk (SY.out.below (by exact Rd.byB)) ka hka h1000 ⟨m.ret.kind,cn⟩ hxc.out m.ret.kind rfl).mono ?_
       rintro e w5 ⟨rfl,hb5⟩
       have HB5:=Lib.hid (show Below WX.heap.size WX w5 from Below.trans (by exact Rd.byB) (hb5.mono Rd.byL))
       have dK1:=kept HB5.out lK cK1
       have d2:=(SY.out.below HB5.out).c2
       have hs5:=HB5.out.size
       have lK5:=cell_lt dK1
       have hcb5:P.cb < w5.heap.size:=cell_lt d2
       clear hb5
       go_wp2_with fail
       refine Drawn.bk hK (hS:=by (try dsimp only);exact ⟨dK1,d2⟩) (h:=fun hHeld=>?_)
       clear hK K
       refine Drawn.cl 10 (fun K hK=>?_)
       go_simp
       refine Drawn.bk hK (h:=fun hHeld=>?_)
       clear hK K
       refine Drawn.cl 11 (fun K hK=>?_)
       go_simp
       refine Drawn.bk hK (h:=fun hHeld=>?_)
       clear hK K
       refine wpAnyH_done (by kernel_rfl) ?_ _
       go_wp2_with fail
       go_meet
       exact ⟨_,rfl,by first | rfl | trivial,Lib.hid (by have hb:=HB5.out;exact Rd.byB),by first | exact hs5 | (simp;omega),by go_simp,by go_simp⟩
      ·refine (readBad (SY.out.below (by exact Rd.byB)) ka hka h1000 ⟨ck,cn⟩ hxc.out m.ret.kind qk).mono ?_
       rintro e w5 ⟨rfl,hb5⟩
       have HB5:=Lib.hid (show Below WX.heap.size WX w5 from Below.trans (by exact Rd.byB) (hb5.mono Rd.byL))
       unfold pan
       refine And.intro rfl ?_
       rw [EN.out qk]
       exact ⟨Pan.one _,((GY.out.trans (Gr.of_below HB5.out)).lft (SY.out.below HB5.out)).stop⟩
     ·go_simp
      refine Drawn.bk hK (h:=fun hHeld=>?_)
      clear hK K
      refine Drawn.cl 9 (fun K hK=>?_)
      go_simp
      by_cases qk:ck=m.ret.kind
      ·subst qk
       refine (readOk (SY.out.below (by exact Rd.byB)) ka hka h1000 ⟨m.ret.kind,cn⟩ hxc.out m.ret.kind rfl).mono ?_
       rintro e w5 ⟨rfl,hb5⟩
       have HB5:=Lib.hid (show Below WX.heap.size WX w5 from Below.trans (by exact Rd.byB) (hb5.mono Rd.byL))
       have z0:w5.cell? ⟨WX.heap.size,0,none⟩=some (.int .i64 0):=kept hb5 Rd.byL (by go_simp)
       have z1:w5.cell? ⟨WX.heap.size,1,none⟩=some (.int .i64 0):=kept hb5 Rd.byL (by go_simp)
       have zf0:w5.frozen? ⟨WX.heap.size,0,none⟩=false:=frz_kept hb5 Rd.byL (by go_simp)
       have zf1:w5.frozen? ⟨WX.heap.size,1,none⟩=false:=frz_kept hb5 Rd.byL (by go_simp)
       have dK1:=kept HB5.out lK cK1
       have d2:=(SY.out.below HB5.out).c2
       have lz:=cell_lt z0
       have lK5:=cell_lt dK1
       have hcb5:P.cb < w5.heap.size:=cell_lt d2
       have nz3:w2.heap.size≠WX.heap.size:=by omega
       have nzd:P.cb≠WX.heap.size:=by omega
       have nz2:WX.heap.size≠w2.heap.size:=by omega
       have nzc:WX.heap.size≠P.cb:=by omega
       clear hb5
       go_wp2_with fail
       refine Drawn.bk hK (hS:=by (try dsimp only);exact ⟨dK1,d2⟩) (h:=fun hHeld=>?_)
       clear hK K
       refine Drawn.cl 11 (fun K hK=>?_)
       go_simp
       refine Drawn.bk hK (h:=fun hHeld=>?_)
       clear hK K
       refine wpAnyH_done (by kernel_rfl) ?_ _
       go_wp2_with fail
       go_meet
       exact ⟨_,rfl,by first | rfl | trivial,Lib.hid (by have hb:=HB5.out;exact Rd.byB),by first | omega | (simp;omega),by go_simp,by go_simp⟩
      ·refine (readBad (SY.out.below (by exact Rd.byB)) ka hka h1000 ⟨ck,cn⟩ hxc.out m.ret.kind qk).mono ?_
       rintro e w5 ⟨rfl,hb5⟩
       have HB5:=Lib.hid (show Below WX.heap.size WX w5 from Below.trans (by exact Rd.byB) (hb5.mono Rd.byL))
       unfold pan
       refine And.intro rfl ?_
       rw [EN.out qk]
       exact ⟨Pan.one _,((GY.out.trans (Gr.of_below HB5.out)).lft (SY.out.below HB5.out)).stop⟩
    case rest =>
     obtain ⟨b8,rfl,qk,HB5,hb8,z0,z1⟩:=hcut
     subst qk
     replace EP:=Lib.hid (EP.out rfl)
     clear EN
     have hbx5:=HB5.out
     have S5:=SY.out.below hbx5
     have d0:=S5.c0
     have d2:=S5.c2
     have d3:=S5.c3
     have dR0:=kept hbx5 lR cR0
     have dR1:=kept hbx5 lR cR1
     have fdR0:=frz_kept hbx5 lR fR0
     have fdR1:=frz_kept hbx5 lR fR1
     have hcb5:=S5.cbw
     have lR5:=cell_lt dR0
     have lz:=cell_lt z0
     have nb8r:w.heap.size≠b8:=by omega
     have hsx5:=hbx5.size
     replace S5:=Lib.hid S5
     clear hbx5 cK0 cK1 cK2 cK3 cK4 cK5 cR0 cR1 fR0 fR1 cX0 cX10 fX10 e2 e3 cA0 cA1 cB0 cB1
     go_wp2_with fail
     refine Drawn.hd (fun w'=>w'.cell? ⟨P.cb,0,none⟩=some (.pointer (some ⟨E.hb,0,none⟩))∧w'.cell? ⟨P.cb,2,none⟩=some (.int .i64 m.ret.kind)∧w'.cell? ⟨P.cb,3,none⟩=some (.int .i64 m.ret.cls)∧w'.cell? ⟨b8,0,none⟩=some (.int .i64 m.ret.kind)∧w'.cell? ⟨b8,1,none⟩=some (.int .i64 cn)) (h:=fun hHeld=>?_)
     refine Drawn.T 0 (some 144) (h:=?_)
     refine Drawn.T 1 (some 145) (h:=?_)
     refine Drawn.T 2 (some 146) (h:=?_)
     refine Drawn.T 3 (some 147) (h:=?_)
     refine Drawn.T 4 (some 148) (h:=?_)
     refine Drawn.T 5 (some 149) (h:=?_)
     refine Drawn.T 6 (some 150) (h:=?_)
     refine Drawn.T 7 (some 151) (h:=?_)
     refine Drawn.T 8 (some 152) (h:=?_)
     refine Drawn.T 9 (some 153) (h:=?_)
     refine Drawn.cl 10 (fun K hK=>?_)
     go_simp
     obtain ⟨p,hp⟩:∃ p,Hid (ofT E.f.classes (stepped h) ⟨m.ret.kind,cn⟩ m.ret=p):=⟨_,Lib.hid rfl⟩
     refine (of E L7 (stepped h) d ⟨m.ret.kind,cn⟩ m.ret _ (S5.out.below (by exact Rd.byB)).H FS.may (fun q=>v3.out q)).mono ?_
     rw [hp.out]
     rintro e w6 ⟨rfl,hb6⟩
     have HB6:=Lib.hid (show Below wc.heap.size wc w6 from Below.trans (by exact Rd.byB) (hb6.mono Rd.byL))
     have u0:=kept HB6.out hcb5 d0
     have u2:=kept HB6.out hcb5 d2
     have u3:=kept HB6.out hcb5 d3
     have u4:=kept HB6.out lz z0
     have u5:=kept HB6.out lz z1
     have uR0:=kept HB6.out lR5 dR0
     have uR1:=kept HB6.out lR5 dR1
     have uf0:=frz_kept HB6.out lR5 fdR0
     have uf1:=frz_kept HB6.out lR5 fdR1
     have G9:=Lib.hid (GY.out.trans (Gr.of_below (HB5.out.trans (HB6.out.mono hsx5))))
     have S9:=Lib.hid (S5.out.below HB6.out)
     have hsw6:w.heap.size < w6.heap.size:=cell_lt uR0
     clear hb6 d0 d2 d3 dR0 dR1 fdR0 fdR1 z0 z1
     go_wp2_with fail
     refine Drawn.bk hK (hS:=by (try dsimp only);exact ⟨u0,u2,u3,u4,u5⟩) (h:=fun hHeld=>?_)
     clear hK K
     refine Drawn.cl 11 (fun K hK=>?_)
     go_simp
     go_at_call 65
     cases p
     ·refine (mustF _).mono ?_
      rintro e w7 ⟨rfl,rfl⟩
      go_wp2_with fail
      refine And.intro rfl ?_
      rw [EP.out,hp.out]
      exact ⟨Pan.one _,(G9.out.lft S9.out).stop⟩
     ·refine (mustT _).mono ?_
      rintro e w7 ⟨rfl,rfl⟩
      go_wp2_with fail
      refine Drawn.bk hK (hS:=by (try dsimp only);exact ⟨u0,u2,u3,u4,u5⟩) (h:=fun hHeld=>?_)
      clear hK K
      refine wpAnyH_done (by kernel_rfl) ?_ _
      go_wp2_with fail
      refine bodyPost_ret (v:=.tuple #[.agg #[.int .i64 m.ret.kind,.int .i64 cn],.bool true]) (by simp [results,Try.results39,go_sem] <;> go_simp) rfl ?_
      exact goB (v:=⟨m.ret.kind,cn⟩) (by rw [EP.out,hp.out];rfl) hB G9.out S9.out nz0
  by_cases q21:op=21
  ·subst q21
   simp [Rform.body,rng_iff] at hb
   obtain ⟨⟨hreg,rfl⟩,rfl⟩:=hb
   obtain ⟨ka,rfl⟩:∃ k:Nat,a=(k:Int):=⟨a.toNat,by have:=(reg_l hreg hf.len).1;omega⟩
   have hka:ka < fr.regs.length:=by have:=(reg_l hreg hf.len).2;rwa [Int.toNat_natCast] at this
   obtain ⟨⟨ck,cn⟩,hxc⟩:∃ v,Hid (fr.regs.getD ka Vl.nil=v):=⟨_,Lib.hid rfl⟩
   have hrc:rd fr (ka:Int)=⟨ck,cn⟩:=by unfold rd;rw [Int.toNat_natCast];exact hxc.out
   have hact:outA RM E.f E.input E.fuel g d m (RM.step E.f E.input m ⟨21,(ka:Int),0,0,n,args⟩ fr (stepped h))=if ck=3 then oA ((Run.throw E.f.classes ⟨ck,cn⟩ (stepped h)).act fun (_:Unit) h=>.stop 6 h) else .stop 6 (stepped h):=by
    show outA RM E.f E.input E.fuel g d m (r21 E.f.classes ⟨21,(ka:Int),0,0,n,args⟩ fr (stepped h))=_
    unfold r21;rw [hrc];unfold rkind
    by_cases q:ck=3
    ·rw [if_pos q,if_pos q];cases Run.throw E.f.classes ⟨ck,cn⟩ (stepped h) <;> rfl
    ·rw [if_neg q,if_neg q];rfl
   obtain ⟨ac,hac⟩:∃ x,Hid ((if ck=3 then oA ((Run.throw E.f.classes ⟨ck,cn⟩ (stepped h)).act fun (_:Unit) h=>.stop 6 h) else .stop 6 (stepped h):Out Rf)=x):=⟨_,Lib.hid rfl⟩
   have HACT:=Lib.hid (hact.trans hac.out)
   clear hact
   go_wp2_with fail
   refine Drawn.hd (fun w'=>w'.cell? ⟨P.cb,0,none⟩=some (.pointer (some ⟨E.hb,0,none⟩))∧w'.cell? ⟨w2.heap.size,1,none⟩=some (.int .i64 ka)) (h:=fun hHeld=>?_)
   refine Drawn.T 0 (some 159) (h:=?_)
   refine Drawn.T 1 (some 160) (h:=?_)
   refine Drawn.T 2 (some 161) (h:=?_)
   refine Drawn.T 3 (some 162) (h:=?_)
   refine Drawn.T 4 (some 163) (h:=?_)
   refine Drawn.T 5 (some 164) (h:=?_)
   refine Drawn.T 6 (some 165) (h:=?_)
   refine Drawn.cl 7 (fun K hK=>?_)
   go_simp
   by_cases qk:ck=3
   ·subst qk
    obtain ⟨r,hr⟩:∃ r,Hid ((Run.throw E.f.classes ⟨3,cn⟩ (stepped h):Res Unit)=r):=⟨_,Lib.hid rfl⟩
    have ea:ac=oA (r.act fun (_:Unit) h=>.stop 6 h):=by rw [← hac.out,if_pos rfl,hr.out]
    replace ea:=Lib.hid (HACT.out.trans ea)
    refine (readOk (SY.out.below (by exact Rd.byB)) ka hka h1000 ⟨3,cn⟩ hxc.out 3 rfl).mono ?_
    rintro e w5 ⟨rfl,hb5⟩
    have HB5:=Lib.hid (show Below WX.heap.size WX w5 from Below.trans (by exact Rd.byB) (hb5.mono Rd.byL))
    have S5:=SY.out.below HB5.out
    have d0:=S5.c0
    have dK1:=kept HB5.out lK cK1
    have hcb5:=S5.cbw
    have lK5:=cell_lt dK1
    replace S5:=Lib.hid S5
    clear hb5
    go_wp2_with fail
    refine Drawn.bk hK (hS:=by (try dsimp only);exact ⟨d0,dK1⟩) (h:=fun hHeld=>?_)
    clear hK K
    refine Drawn.cl 8 (fun K hK=>?_)
    go_simp
    go_at_call 76
    refine (throwP (V:=unitV) S5.out.H FS.may ⟨3,cn⟩).mono ?_
    rw [hr.out]
    rintro e w6 hR
    cases r with
    | ok x h2=>exact (throw_no hr.out).elim
    | thrown o h2 =>
     obtain ⟨rfl,A⟩:=hR
     obtain ⟨L8,G8,S8⟩:=Gr.of_heap A S5.out
     unfold pan
     refine And.intro rfl ?_
     rw [ea.out]
     exact ⟨Pan.one _,(),((GY.out.trans (Gr.of_below HB5.out)).trans G8).lft S8⟩
    | stop c2 h2 =>
     obtain ⟨rfl,A⟩:=hR
     obtain ⟨L8,G8,S8⟩:=Gr.of_heap A S5.out
     unfold pan
     refine And.intro rfl ?_
     rw [ea.out]
     exact ⟨Pan.one _,(((GY.out.trans (Gr.of_below HB5.out)).trans G8).lft S8).stop⟩
   ·have ea:ac=.stop 6 (stepped h):=by rw [← hac.out,if_neg qk]
    refine (readBad (SY.out.below (by exact Rd.byB)) ka hka h1000 ⟨ck,cn⟩ hxc.out 3 qk).mono ?_
    rintro e w5 ⟨rfl,hb5⟩
    have HB5:=Lib.hid (show Below WX.heap.size WX w5 from Below.trans (by exact Rd.byB) (hb5.mono Rd.byL))
    unfold pan
    refine And.intro rfl ?_
    rw [HACT.out,ea]
    exact ⟨Pan.one _,((GY.out.trans (Gr.of_below HB5.out)).lft (SY.out.below HB5.out)).stop⟩
  have hop:=Lib.hid (show op≠10∧op≠11∧op≠12∧op≠18∧op≠19∧op≠20∧op≠21∧op≠22 from ⟨q10,q11,q12,q18,q19,q20,q21,q22⟩)
  have hnx:=rstep_nx (fr:=⟨fr.regs,fr.at_,Vl.nil,Vl.nil⟩) (h:=stepped h) (f:=E.f) (input:=E.input) (m:=m) (i:=⟨op,a,b,c,n,args⟩) hop.out
  have hfY:RfOk m (stepped h).objs.length ⟨fr.regs,fr.at_,Vl.nil,Vl.nil⟩:=⟨hf.regs,hf.len,nil_ok _,nil_ok _⟩
  have hact:outA RM E.f E.input E.fuel g d m (RM.step E.f E.input m ⟨op,a,b,c,n,args⟩ fr (stepped h))=oA (rstep E.f E.input m ⟨op,a,b,c,n,args⟩ ⟨fr.regs,fr.at_,Vl.nil,Vl.nil⟩ (stepped h)):=by
   have e:=rstep_clr (fr:=fr) (h:=stepped h) (f:=E.f) (input:=E.input) (m:=m) (i:=⟨op,a,b,c,n,args⟩) hop.out
   show outA RM E.f E.input E.fuel g d m (rstep E.f E.input m ⟨op,a,b,c,n,args⟩ fr (stepped h))=_
   rw [e];exact nc_oA hnx
  have HPL:=Lib.hid (fun sa sn sc=>plain FS MS SY.out HO hfY hfu hin ⟨op,a,b,c,n,args⟩ hI0.out hop.out sa sn sc)
  obtain ⟨ac,hac⟩:∃ x,Hid (rstep E.f E.input m ⟨op,a,b,c,n,args⟩ ⟨fr.regs,fr.at_,Vl.nil,Vl.nil⟩ (stepped h)=x):=⟨_,Lib.hid rfl⟩
  rw [hac.out] at hnx hact
  have HACT:=Lib.hid hact
  clear hact hb
  have b10:(op==10)=false:=by simpa using q10
  have b11:(op==11)=false:=by simpa using q11
  have b12:(op==12)=false:=by simpa using q12
  have b18:(op==18)=false:=by simpa using q18
  have b19:(op==19)=false:=by simpa using q19
  have b20:(op==20)=false:=by simpa using q20
  have b21:(op==21)=false:=by simpa using q21
  have b22:(op==22)=false:=by simpa using q22
  clear q10 q11 q12 q18 q19 q20 q21 q22
  go_wp2_with fail
  refine (HPL.out _ _ _).mono ?_
  rw [hac.out]
  rintro e w5 R
  cases ac with
  | back v h'=>exact hnx.elim
  | call k x y z=>exact hnx.elim
  | go fr' h' =>
   obtain ⟨l',a',g1,g2⟩:=fr'
   obtain ⟨ha',hg',hh'⟩:=hnx
   simp only at ha' hg' hh'
   subst ha' hg' hh'
   obtain ⟨rfl,A⟩:=R
   obtain ⟨L8,v8,G8,S8⟩:=A.opn
   have dR0:=G8.cell nz0 cR0
   have dR1:=G8.cell nz0 cR1
   have fR0':=G8.frz nz0 lR fR0
   have fR1':=G8.frz nz0 lR fR1
   have nz8:=G8.nf lR nz0
   have d10:=S8.c10
   have fd10:=S8.fz 10 (by decide)
   have lR8:=cell_lt dR0
   have hcb8:=S8.cbw
   have G9:=Lib.hid (GY.out.trans G8)
   replace S8:=Lib.hid S8
   clear A G8 cR0 cR1 fR0 fR1 cX10 fX10 cK0 cK1 cK2 cK3 cK4 cK5
   go_wp2_with fail
   refine bodyPost_ret (v:=.tuple #[.agg #[.int .i64 0,.int .i64 0],.bool false]) (by simp [results,Try.results39,go_sem] <;> go_simp) rfl ?_
   exact goR (fr1:=⟨l',fr.at_,Vl.nil,Vl.nil⟩) (t:=fr.at_+1) HACT.out hB G9.out S8.out lR8 nz8
  | thrown o h' =>
   obtain ⟨⟨older,hol,rfl⟩,A⟩:=R
   refine And.intro rfl ?_
   rw [HACT.out]
   exact ⟨⟨older,hol,rfl⟩,(),GY.out.comp A⟩
  | stop c2 h' =>
   obtain ⟨⟨older,hol,rfl⟩,A⟩:=R
   refine And.intro rfl ?_
   rw [HACT.out]
   exact ⟨⟨older,hol,rfl⟩,GY.out.compS A⟩
end
end Hpr
end Go.Proofs.Ytncmhenfgbcihac
