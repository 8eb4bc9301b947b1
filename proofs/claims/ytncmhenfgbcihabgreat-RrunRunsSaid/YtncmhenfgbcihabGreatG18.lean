/- Parts of the proof: Yk, Yl, Ym, Yn, Yo, Yp. -/
import Derived.Test.YtncmhenfgbcihabGreatG17
import Derived.Deep.Cut
import Derived.Deep.CutRange
import Derived.Laws.EntriesVeiled
import Derived.Test.YtncmhenfgbcihabGreatG16
import Derived.Test.YtncmhenfgbcihabGreatG11
set_option linter.unusedSimpArgs false
set_option linter.unusedVariables false
set_option maxHeartbeats 8000000
namespace Go.Proofs.YtncmhenfgbcihabGreat
open Go.RowKit
namespace Hpr
open Num Rd D Run Mem HierW Hpw
section
variable {E:Ev}{w w' w1 w2:World}{L L' L1:Lay}{h h' h1 h2:Hp}{d:Nat}{P:PS}{m:Me}{fr fr' fr1:Rf}{vs vs1:Value}
theorem Gr.over (G:Gr E L P vs w L1 vs1 w1){b:Nat}(h1:w.heap.size≤b) (i j:Nat) (x y:Value):Gr E L P vs w L1 vs1 ((w1.setCell ⟨b,i,none⟩ x).setCell ⟨b,j,none⟩ y):=⟨(G.kp.setCell (p:=⟨b,i,none⟩) (.inr h1) x).setCell (p:=⟨b,j,none⟩) (.inr h1) y,G.ow,G.st⟩
theorem goR {a:Out Rf}{t:Nat}(ha:a=.go ⟨fr1.regs,t,fr1.given,fr1.got⟩ h1) (hB:E.B≤w.heap.size) (G:Gr E L P vs w L1 vs1 w1) (S:ST E w1 L1 P m d h1 fr1 vs1) (hlt:w.heap.size < w1.heap.size) (nfo:¬ Hpr.fo E L1 P vs1 w.heap.size):DoR E L P m d vs fr w a (.returned (.tuple #[.agg #[.int .i64 0,.int .i64 0],.bool false])) (((w1.setCell ⟨P.cb,10,none⟩ (.int .i64 t)).setCell ⟨w.heap.size,0,none⟩ (.int .i64 0)).setCell ⟨w.heap.size,1,none⟩ (.int .i64 0)):=by
 obtain ⟨L2,v2,G2,S2⟩:=(S.setAt t).opn;have n2:=G2.nf hlt nfo;rw [ha];exact ⟨rfl,((G.trans G2).over (Nat.le_refl _) 0 1 _ _).lft ((S2.res hB n2 0 _).res hB n2 1 _)⟩
theorem goB {a:Out Rf}{v:Vl}(ha:a=.back v h1) (hB:E.B≤w.heap.size) (G:Gr E L P vs w L1 vs1 w1) (S:ST E w1 L1 P m d h1 (clr fr) vs1) (nfo:¬ Hpr.fo E L1 P vs1 w.heap.size):DoR E L P m d vs fr w a (.returned (.tuple #[.agg #[.int .i64 v.kind,.int .i64 v.n],.bool true])) ((w1.setCell ⟨w.heap.size,0,none⟩ (.int .i64 v.kind)).setCell ⟨w.heap.size,1,none⟩ (.int .i64 v.n)):=by
 rw [ha];exact ⟨rfl,(),(G.over (Nat.le_refl _) 0 1 _ _).lft ((S.res hB nfo 0 _).res hB nfo 1 _)⟩
theorem rargs_same {fr fr2:Rf}(e:fr.regs=fr2.regs):∀ (xs:List Int) (ts:List Ty),rargs fr xs ts=rargs fr2 xs ts
 | xs,[]=>by cases xs <;> rfl
 | [],_ :: _=>rfl
 | x :: xs,t :: ts=>by
  have q:rd fr x=rd fr2 x:=by unfold rd;rw [e]
  simp only [rargs];rw [rargs_same e xs ts,q]
def NXA (a0:Nat) (a:Out Rf):Prop:=match a with
 | .go fr' _=>fr'.at_=a0+1∧fr'.got=Vl.nil
 | .back _ _=>False
 | _=>True
theorem calA_nx {g:Nat}{m2:Me}{args:List Int}:NXA fr.at_ (calA E g d m m2 fr args h):=by
 unfold calA
 cases rargs fr args m2.params with
 | none=>trivial
 | some vals =>
  simp only
  cases call RM E.f E.input E.fuel g d m2 vals h with
  | stop e h=>trivial
  | thrown o h=>trivial
  | ok v h=>exact ⟨rfl,rfl⟩
theorem act18 {g k:Nat}{b c n:Int}{args:List Int}:outA RM E.f E.input E.fuel g d m (RM.step E.f E.input m ⟨18,(k:Int),b,c,n,args⟩ fr h)=calA E g d m (meAt E.f k) ⟨fr.regs,fr.at_,Vl.nil,Vl.nil⟩ args h:=by
 show outA RM E.f E.input E.fuel g d m (r18 E.f ⟨18,(k:Int),b,c,n,args⟩ fr h)=_
 unfold r18 calA;simp only [Int.toNat_natCast];rw [rargs_same (fr:=⟨fr.regs,fr.at_,Vl.nil,Vl.nil⟩) (fr2:=fr) rfl args (meAt E.f k).params]
 cases rargs fr args (meAt E.f k).params <;> rfl
def NX (a0:Nat) (a:Run.Act Rf):Prop:=match a with
 | .go fr' _=>fr'.at_=a0+1∧fr'.given=Vl.nil∧fr'.got=Vl.nil
 | .back _ _=>False
 | .call _ _ _ _=>False
 | _=>True
theorem rset_nx {a:Int}{v:Vl}:NX fr.at_ (rset fr a v h):=⟨rfl,rfl,rfl⟩
theorem rgo_nx:NX fr.at_ (rgo fr (fr.at_+1) h):=⟨rfl,rfl,rfl⟩
theorem rkind_nx {v:Vl}{kind:Int}{k:Run.Act Rf}(hk:NX fr.at_ k):NX fr.at_ (rkind v kind h k):=by
 unfold rkind;split
 ·exact hk
 ·trivial
theorem ract_nx {α:Type}{r:Res α}{k:α→Hp→Run.Act Rf}(hk:∀ a h,NX fr.at_ (k a h)):NX fr.at_ (r.act k):=by
 cases r with
 | ok a h=>exact hk a h
 | thrown o h=>trivial
 | stop e h=>trivial
theorem rite_nx {c:Prop} [Decidable c] {a b:Run.Act Rf}{n:Nat}(ha:NX n a) (hb:NX n b):NX n (if c then a else b):=by
 split
 ·exact ha
 ·exact hb
theorem rstep_nx {f:Fi}{input:List Int}{i:Ins}(hop:i.op≠10∧i.op≠11∧i.op≠12∧i.op≠18∧i.op≠19∧i.op≠20∧i.op≠21∧i.op≠22):NX fr.at_ (rstep f input m i fr h):=by
 obtain ⟨n10,n11,n12,n18,n19,n20,n21,n22⟩:=hop;unfold rstep;simp only [if_neg n10,if_neg n11,if_neg n12,if_neg n18,if_neg n19,if_neg n20,if_neg n21,if_neg n22]
 repeat' (first | exact rset_nx | exact rgo_nx | exact trivial | refine rite_nx ?_ ?_ | exact rkind_nx rset_nx | exact rkind_nx (rkind_nx rset_nx) | exact rkind_nx rgo_nx | exact ract_nx (fun _ _=>rset_nx) | exact ract_nx (fun _ _=>rgo_nx) | exact rkind_nx (ract_nx (fun _ _=>rgo_nx)) | exact rkind_nx (ract_nx (fun _ _=>rset_nx)) | exact rkind_nx (rkind_nx (ract_nx (fun _ _=>rgo_nx))) | exact rkind_nx (rkind_nx (ract_nx (fun _ _=>rset_nx))))
theorem nc_oA {f:Fi}{input:List Int}{fuel g d:Nat}{a:Run.Act Rf}{n:Nat}(hn:NX n a):outA RM f input fuel g d m a=oA a:=by
 cases a with
 | call k args fr h=>exact hn.elim
 | _=>rfl
theorem rstep_clr {f:Fi}{input:List Int}{i:Ins}(hop:i.op≠10∧i.op≠11∧i.op≠12∧i.op≠18∧i.op≠19∧i.op≠20∧i.op≠21∧i.op≠22):rstep f input m i fr h=rstep f input m i ⟨fr.regs,fr.at_,Vl.nil,Vl.nil⟩ h:=by
 obtain ⟨n10,n11,n12,n18,n19,n20,n21,n22⟩:=hop;unfold rstep;simp only [if_neg n18,if_neg n19,if_neg n22]
 rfl
theorem throw_no {l:List Cls}{v:Vl}{h h2:Hp}{u:Unit}(hr:(Run.throw l v h:Res Unit)=.ok u h2):False:=by
 unfold Run.throw raise new at hr
 split at hr
 ·cases hr
 ·split at hr
  ·split at hr <;> cases hr
  ·cases hr
theorem mAt_eq {f:Fi}{k:Nat}(hk:k < f.methods.length):Rform.mAt f.methods (k:Int)=(meAt f k).params:=by
 unfold Rform.mAt meAt;rw [Int.toNat_natCast,List.getD_eq_getElem?_getD,List.getElem?_map,List.getD_eq_getElem?_getD,List.getElem?_eq_getElem hk];rfl
theorem ty_kind {n:Int}{t:Ty}(h:Hier.ty n t=true):1≤t.kind∧t.kind≤3:=by
 unfold Hier.ty at h
 split at h
 ·omega
 ·split at h
  ·omega
  ·cases h
theorem regs_at {regs:Int}{n:Nat}{ps:List Ty}{xs:List Int}(h:Rform.regsOk regs ps xs=true) (hl:n=regs.toNat) (he:xs.length=ps.length):∀ j (hj:j < xs.length),0≤xs[j]∧xs[j].toNat < n:=by
 intro j hj
 unfold Rform.regsOk at h
 have:=List.all_eq_true.1 h j (List.mem_range.2 (by omega))
 rw [List.getD_eq_getElem?_getD,List.getElem?_eq_getElem hj] at this;exact reg_l this hl
set_option maxRecDepth 100000 in
theorem doFuel (S:ST E w L P m d h fr vs) (hfu:E.fuel≤60000) (hs:E.fuel≤h.steps) :
  Calls Tryz.prog 92 #[.pointer (some ⟨P.cb,0,none⟩)] w (DoR E L P m d vs fr w (.stop 0 h)):=by
 have HS:=Lib.hid S;have hcb:=S.cbw;have c0:=S.c0;clear S
 go_enter Tryz.func92,Tryz.ntmps92
 go_wp2_with fail
 go_at_call 104
 refine (stepFull (HS.out.below (by exact Rd.byB)).H hs).mono ?_
 rintro e w2 ⟨rfl,hb2⟩;have HB2:Below w.heap.size w w2:=Below.trans (by exact Rd.byB) (hb2.mono Rd.byL)
 unfold pan;refine And.intro rfl ?_;exact ⟨Pan.one _,((Gr.of_below HB2).lft (HS.out.below HB2)).stop⟩
set_option maxRecDepth 100000 in
theorem doEnd (S:ST E w L P m d h fr vs) (hfu:E.fuel≤60000) (hs:h.steps < E.fuel) (hi:m.code[fr.at_]? = none) :
  Calls Tryz.prog 92 #[.pointer (some ⟨P.cb,0,none⟩)] w (DoR E L P m d vs fr w (.stop 6 (stepped h))):=by
 have HS:=Lib.hid S;have hcb:=S.cbw;have hat:m.code.length≤fr.at_:=List.getElem?_eq_none_iff.1 hi;obtain ⟨ica,icap,hvc,i1,i2,iel⟩:=id S.M.co;have c7:=S.c7;rw [hvc] at c7;have c0:=S.c0;have c10:=S.c10;have nr:=S.fo_new (Nat.le_refl _);have nrO:¬ own E L w.heap.size:=fun hk=>nr (.inl hk);have hatd:decide ((fr.at_:Int) < m.code.length)=false:=by simpa using hat
 have HCO:=Lib.hid hvc;clear S iel hi hvc i1 i2
 go_enter Tryz.func92,Tryz.ntmps92
 go_wp2_with (go_at_call 104;refine (stepOk (HS.out.below (by exact Rd.byB)).H hs hfu).mono ?_;rintro e w2 ⟨rfl,H2,K2⟩;have S2:=(HS.out.below (w':=w.alloc (.cells #[.int .i64 0,.int .i64 0] 46)) (by exact Rd.byB)).heap K2 same_own H2;have r0:=K2.cell (c:=w.heap.size) (o:=0) (v:=.int .i64 0) (by go_simp) nrO;have r1:=K2.cell (c:=w.heap.size) (o:=1) (v:=.int .i64 0) (by go_simp) nrO;have rf0:=K2.frz (c:=w.heap.size) (o:=0) (b:=false) (by go_simp) (by simp) nrO;have rf1:=K2.frz (c:=w.heap.size) (o:=1) (b:=false) (by go_simp) (by simp) nrO;have z0:=S2.c0;have z10:=S2.c10;have z7:=S2.c7;rw [HCO.out] at z7;have GW:=Lib.hid (show Gr E L P vs w L vs w2 from ⟨(Kp.of_below (B:=w.heap.size) (X:=Hpr.fo E L P vs) (w':=w.alloc (.cells #[.int .i64 0,.int .i64 0] 46)) (by exact Rd.byB) (Nat.le_refl _)).trans K2 (fun y hy=>.inl (.inl hy)),fun _ q=>.inl q,fun _ q=>.inl q⟩);have nf2:=S2.fo_new (Nat.le_refl _);have hcb2:=S2.cbw;have hrw:=cell_lt r0;replace S2:=Lib.hid S2;clear H2 K2 c7 c0 c10)
 refine Drawn.hd (fun w'=>w'.cell? ⟨P.cb,10,none⟩=some (.int .i64 fr.at_)∧w'.cell? ⟨P.cb,7,none⟩=some (.slice ica m.code.length icap)) (h:=fun hHeld=>?_);refine dT 0 14 ?_;refine dT 1 15 ?_;refine dT 2 16 ?_;refine dT 3 17 ?_;refine dT 4 18 ?_;refine dT 5 19 ?_;refine dT 6 20 ?_;refine dT 7 21 ?_;refine dT 8 22 ?_;refine dT 9 23 ?_;refine dT 10 24 ?_;refine Drawn.cl 11 (fun K hK=>?_);go_simp;have hati:¬ (fr.at_:Int) < m.code.length:=by omega
 have hatn:¬ fr.at_ < m.code.length:=by omega
 try simp only [hati,hatn,decide_false]
 refine (mustF _).mono ?_;rintro e w3 ⟨rfl,rfl⟩
 go_wp2_with fail
 refine And.intro rfl ?_;exact ⟨Pan.one _,((GW.out.trans (Gr.of_below (by exact Rd.byB))).lft (S2.out.below (by exact Rd.byB))).stop⟩
set_option maxRecDepth 100000 in
theorem doI (FS:FiR E.f) (MS:MeR E.f m) (S:ST E w L P m d h fr vs) (HO:HpOk E.f.classes E.input E.fuel (stepped h)) (hf:RfOk m (stepped h).objs.length fr) (hatb:fr.at_≤100000) (hs:h.steps < E.fuel) (hfu:E.fuel≤60000) (hin:E.input.length≤1000) (op a b c n:Int) (args:List Int) (hi:m.code[fr.at_]? = some ⟨op,a,b,c,n,args⟩) (hI:Rform.ins E.f m ⟨op,a,b,c,n,args⟩=true) (g:Nat) (HI:InvOk E d g (stepped h)) :
  Calls Tryz.prog 92 #[.pointer (some ⟨P.cb,0,none⟩)] w (DoR E L P m d vs fr w (outA RM E.f E.input E.fuel g d m (RM.step E.f E.input m ⟨op,a,b,c,n,args⟩ fr (stepped h)))):=by
 have HS:=Lib.hid S;have hcb:=S.cbw;have hat:fr.at_ < m.code.length:=(List.getElem?_eq_some_iff.1 hi).1;obtain ⟨ica,icap,hvc,i1,i2,iel⟩:=id S.M.co;obtain ⟨ib,io,rfl,hib,hie⟩:=iel fr.at_ hat;have hx:m.code[fr.at_]=⟨op,a,b,c,n,args⟩:=by rw [List.getElem?_eq_getElem hat] at hi;exact Option.some.inj hi
 rw [hx] at hie;obtain ⟨x0,x1,x2,x3,x4,_,va,x5,hva⟩:=hie;obtain ⟨aa,acap,rfl,_⟩:=id hva;replace hva:=Lib.hid hva;simp only at x0 x1 x2 x3 x4;have c7:=S.c7;rw [hvc] at c7;have c0:=S.c0;have c10:=S.c10;have nr:=S.fo_new (Nat.le_refl _);have nrO:¬ own E L w.heap.size:=fun hk=>nr (.inl hk);have nib:¬ Hpr.fo E L P vs ib:=fun hk=>by have:=(S.fo_lo hk).1;omega
 have nibO:¬ own E L ib:=fun hk=>nib (.inl hk);have hibw:ib < w.heap.size:=by have:=S.base;omega
 have hati:(fr.at_:Int) < m.code.length:=by omega
 have hatd:decide ((fr.at_:Int) < m.code.length)=true:=by simpa using hati
 have hwr:IntKind.i64.wrap ((fr.at_:Int)+1)=(fr.at_:Int)+1:=by rw [Num.wrap_i64,wrap64_id (by unfold Ok;omega)]
 have HCO:=Lib.hid hvc;clear S iel hi hx hvc i1
 go_enter Tryz.func92,Tryz.ntmps92
 go_wp2_with (go_at_call 104;refine (stepOk (HS.out.below (by exact Rd.byB)).H hs hfu).mono ?_;rintro e w2 ⟨rfl,H2,K2⟩;have S2:=(HS.out.below (w':=w.alloc (.cells #[.int .i64 0,.int .i64 0] 46)) (by exact Rd.byB)).heap K2 same_own H2;have r0:=K2.cell (c:=w.heap.size) (o:=0) (v:=.int .i64 0) (by go_simp) nrO;have r1:=K2.cell (c:=w.heap.size) (o:=1) (v:=.int .i64 0) (by go_simp) nrO;have rf0:=K2.frz (c:=w.heap.size) (o:=0) (b:=false) (by go_simp) (by simp) nrO;have rf1:=K2.frz (c:=w.heap.size) (o:=1) (b:=false) (by go_simp) (by simp) nrO;have z0:=S2.c0;have z10:=S2.c10;have z7:=S2.c7;rw [HCO.out] at z7;have u0:=K2.cell (c:=ib) (o:=io+fr.at_*6) (v:=.int .i64 (op)) (by go_simp) nibO;have u1:=K2.cell (c:=ib) (o:=io+fr.at_*6+1) (v:=.int .i64 a) (by go_simp) nibO;have u2:=K2.cell (c:=ib) (o:=io+fr.at_*6+2) (v:=.int .i64 b) (by go_simp) nibO;have u3:=K2.cell (c:=ib) (o:=io+fr.at_*6+3) (v:=.int .i64 c) (by go_simp) nibO;have u4:=K2.cell (c:=ib) (o:=io+fr.at_*6+4) (v:=.int .i64 n) (by go_simp) nibO;have u5:=K2.cell (c:=ib) (o:=io+fr.at_*6+5) (v:=.slice aa args.length acap) (by go_simp) nibO;have GW:=Lib.hid (show Gr E L P vs w L vs w2 from ⟨(Kp.of_below (B:=w.heap.size) (X:=Hpr.fo E L P vs) (w':=w.alloc (.cells #[.int .i64 0,.int .i64 0] 46)) (by exact Rd.byB) (Nat.le_refl _)).trans K2 (fun y hy=>.inl (.inl hy)),fun _ q=>.inl q,fun _ q=>.inl q⟩);have nf2:=S2.fo_new (Nat.le_refl _);have hcb2:=S2.cbw;have hrw:=cell_lt r0;have hib2:=cell_lt u0;replace S2:=Lib.hid S2;clear H2 K2 c7 c0 c10 x0 x1 x2 x3 x4 x5)
 refine Drawn.hd (fun w'=>w'.cell? ⟨P.cb,10,none⟩=some (.int .i64 fr.at_)∧w'.cell? ⟨P.cb,7,none⟩=some (.slice (some ⟨ib,io,none⟩) m.code.length icap)) (h:=fun hHeld=>?_);refine dT 0 14 ?_;refine dT 1 15 ?_;refine dT 2 16 ?_;refine dT 3 17 ?_;refine dT 4 18 ?_;refine dT 5 19 ?_;refine dT 6 20 ?_;refine dT 7 21 ?_;refine dT 8 22 ?_;refine dT 9 23 ?_;refine dT 10 24 ?_;refine Drawn.cl 11 (fun K hK=>?_);go_simp;refine (mustT _).mono ?_;rintro e w3 ⟨rfl,rfl⟩
 go_wp2_with fail
 refine Drawn.bk hK (h:=fun hHeld=>?_);clear hK K;refine dN ?_
 go_wp2_with fail
 refine Drawn.hd (fun w'=>w'.cell? ⟨P.cb,10,none⟩=some (.int .i64 fr.at_)∧w'.cell? ⟨P.cb,7,none⟩=some (.slice (some ⟨ib,io,none⟩) m.code.length icap)∧w'.cell? ⟨ib,io+fr.at_*6,none⟩=some (.int .i64 op)∧w'.cell? ⟨ib,io+fr.at_*6+1,none⟩=some (.int .i64 a)∧w'.cell? ⟨ib,io+fr.at_*6+2,none⟩=some (.int .i64 b)∧w'.cell? ⟨ib,io+fr.at_*6+3,none⟩=some (.int .i64 c)∧w'.cell? ⟨ib,io+fr.at_*6+4,none⟩=some (.int .i64 n)∧w'.cell? ⟨ib,io+fr.at_*6+5,none⟩=some (.slice aa args.length acap)) (h:=fun hHeld=>?_);refine dT 0 26 ?_;refine dT 1 27 ?_;refine dT 2 28 ?_;refine dT 3 29 ?_;refine dT 4 30 ?_;refine dT 5 31 ?_;refine dT 6 32 ?_;refine dT 7 33 ?_;refine dT 8 34 ?_;refine dT 9 35 ?_;refine dT 10 36 ?_;refine Drawn.cl 11 (fun K hK=>?_);go_simp;refine Drawn.bk hK (h:=fun hHeld=>?_);clear hK K;refine Drawn.cl 12 (fun K hK=>?_);go_simp;refine Drawn.bk hK (h:=fun hHeld=>?_);clear hK K;refine dN ?_
 generalize hWW:World.drew _=W
 replace hWW:=Lib.hid hWW;have k0:W.cell? ⟨w2.heap.size,0,none⟩=some (.int .i64 (op)):=by rw [← hWW.out];go_simp
 have k1:W.cell? ⟨w2.heap.size,1,none⟩=some (.int .i64 a):=by rw [← hWW.out];go_simp
 have k2:W.cell? ⟨w2.heap.size,2,none⟩=some (.int .i64 b):=by rw [← hWW.out];go_simp
 have k3:W.cell? ⟨w2.heap.size,3,none⟩=some (.int .i64 c):=by rw [← hWW.out];go_simp
 have k4:W.cell? ⟨w2.heap.size,4,none⟩=some (.int .i64 n):=by rw [← hWW.out];go_simp
 have k5:W.cell? ⟨w2.heap.size,5,none⟩=some (.slice aa args.length acap):=by rw [← hWW.out];go_simp
 have hbW:Below w2.heap.size w2 W:=by rw [← hWW.out];exact Rd.byB
 have hzW:w2.heap.size < W.heap.size:=cell_lt k0;have SW:=S2.out.below hbW;have s0:=kept hbW hrw r0;have s1:=kept hbW hrw r1;have sf0:=frz_kept hbW hrw rf0;have sf1:=frz_kept hbW hrw rf1;have e0:=SW.c0;have e10:=SW.c10;have ef10:=SW.fz 10 (by decide)
 have hcbW:=SW.cbw;have hrW:w.heap.size < W.heap.size:=by omega
 have G:=Lib.hid (GW.out.trans (Gr.of_below hbW));replace SW:=Lib.hid SW;clear hWW r0 r1 rf0 rf1 z0 z10 z7 u0 u1 u2 u3 u4 u5 GW hbW S2;have e11:=SW.out.c11;have e12:=SW.out.c12;have e13:=SW.out.c13;have e14:=SW.out.c14;have ef11:=SW.out.fz 11 (by decide)
 have ef12:=SW.out.fz 12 (by decide)
 have ef13:=SW.out.fz 13 (by decide)
 have ef14:=SW.out.fz 14 (by decide)
 go_upto_region 4 with (fail)
 go_cut [5,6] from 37 to 44 (fun s5 s6 wx=>∃ b5 b6:Nat,s5=.pointer (some ⟨b5,0,none⟩)∧s6=.pointer (some ⟨b6,0,none⟩)∧Hid (Below W.heap.size W wx)∧(W.heap.size≤b5∧W.heap.size≤b6)∧wx.cell? ⟨b5,0,none⟩=some (.int .i64 fr.given.kind)∧wx.cell? ⟨b5,1,none⟩=some (.int .i64 fr.given.n)∧wx.cell? ⟨b6,0,none⟩=some (.int .i64 fr.got.kind)∧wx.cell? ⟨b6,1,none⟩=some (.int .i64 fr.got.n))
 case first =>
  refine Drawn.hd (fun w'=>w'.cell? ⟨P.cb,11,none⟩=some (.int .i64 fr.given.kind)∧w'.cell? ⟨P.cb,12,none⟩=some (.int .i64 fr.given.n)∧w'.cell? ⟨P.cb,13,none⟩=some (.int .i64 fr.got.kind)∧w'.cell? ⟨P.cb,14,none⟩=some (.int .i64 fr.got.n)) (h:=fun hHeld=>?_);refine dT 0 37 ?_;refine dT 1 38 ?_;refine dT 2 39 ?_;refine dT 3 40 ?_;refine dT 4 41 ?_;refine dT 5 42 ?_;refine dT 6 43 ?_;refine dT 7 44 ?_;refine wpAnyH_ready (rs:=[8,9]) (by kernel_rfl) (by simp) ?_
  refine AllReadyH.cons rfl (fun K hK=>?_) (AllReadyH.cons rfl (fun K hK=>?_) AllReadyH.nil)
  ·go_simp;refine Drawn.bk hK (h:=fun hHeld=>?_);clear hK K;refine Drawn.cl 9 (fun K hK=>?_);go_simp;refine Drawn.bk hK (h:=fun hHeld=>?_);clear hK K;refine Drawn.cl 10 (fun K hK=>?_);go_simp;refine Drawn.bk hK (h:=fun hHeld=>?_);clear hK K;refine Drawn.cl 11 (fun K hK=>?_);go_simp;refine Drawn.bk hK (h:=fun hHeld=>?_);clear hK K;refine dN ?_
   go_wp2_with fail
   go_meet
   exact ⟨_,_,rfl,rfl,Lib.hid (by exact Rd.byB),⟨by simp,by simp⟩,by go_simp,by go_simp,by go_simp,by go_simp⟩
  ·go_simp;refine Drawn.bk hK (h:=fun hHeld=>?_);clear hK K;refine Drawn.cl 8 (fun K hK=>?_);go_simp;refine Drawn.bk hK (h:=fun hHeld=>?_);clear hK K;refine Drawn.cl 10 (fun K hK=>?_);go_simp;refine Drawn.bk hK (h:=fun hHeld=>?_);clear hK K;refine Drawn.cl 11 (fun K hK=>?_);go_simp;refine Drawn.bk hK (h:=fun hHeld=>?_);clear hK K;refine dN ?_
   go_wp2_with fail
   go_meet
   exact ⟨_,_,rfl,rfl,Lib.hid (by exact Rd.byB),⟨by simp,by simp⟩,by go_simp,by go_simp,by go_simp,by go_simp⟩
 case rest =>
  obtain ⟨b5,b6,rfl,rfl,hbx,⟨l5,l6⟩,g0,g1,q0,q1⟩:=hcut;have hsx:=hbx.out.size;have hbxx:=hbx.out;replace k0:=kept hbxx hzW k0;replace k1:=kept hbxx hzW k1;replace k2:=kept hbxx hzW k2;replace k3:=kept hbxx hzW k3;replace k4:=kept hbxx hzW k4;replace k5:=kept hbxx hzW k5;replace s0:=kept hbxx hrW s0;replace s1:=kept hbxx hrW s1;replace sf0:=frz_kept hbxx hrW sf0;replace sf1:=frz_kept hbxx hrW sf1;have S4:=SW.out.below hbxx;replace e0:=S4.c0;replace e10:=S4.c10;replace ef10:=S4.fz 10 (by decide)
  replace e11:=S4.c11;replace ef11:=S4.fz 11 (by decide)
  replace e12:=S4.c12;replace ef12:=S4.fz 12 (by decide)
  replace e13:=S4.c13;replace ef13:=S4.fz 13 (by decide)
  replace e14:=S4.c14;replace ef14:=S4.fz 14 (by decide)
  obtain ⟨L6,v6,G6,S6⟩:=(S4.setGiven Vl.nil).opn;obtain ⟨L7,v7,G7,S7⟩:=(S6.setGot Vl.nil).opn;have n0:w.heap.size≠P.cb:=by omega
  have n2:w2.heap.size≠P.cb:=by omega
  have n5:b5≠P.cb:=by omega
  have n6:b6≠P.cb:=by omega
  have GQ:=Lib.hid (G6.trans G7);have GX:=Lib.hid ((G.out.trans (Gr.of_below hbxx)).trans (G6.trans G7));have nz:∀ b,w.heap.size≤b→b < wc.heap.size→¬ Hpr.fo E L7 P v7 b:=fun b hb1 hb2=>GQ.out.nf hb2 (HS.out.fo_new hb1);have SX:=Lib.hid S7;have lw0:=cell_lt s0;have lw2:=cell_lt k0;have lb5:=cell_lt g0;have lb6:=cell_lt q0;have hcbc:P.cb < wc.heap.size:=by omega
  clear G6 G7 S6 S7 S4 GQ
  go_upto_region 7 with (fail)
  generalize hWX:((((wc.setCell ⟨P.cb,11,none⟩ (.int .i64 0)).setCell ⟨P.cb,12,none⟩ (.int .i64 0)).setCell ⟨P.cb,13,none⟩ (.int .i64 0)).setCell ⟨P.cb,14,none⟩ (.int .i64 0))=WX
  replace hWX:=Lib.hid hWX
  have SY:Hid (ST E WX L7 P m d (stepped h) ⟨fr.regs,fr.at_,Vl.nil,Vl.nil⟩ v7):=by
   show ST _ _ _ _ _ _ _ _ _
   rw [← hWX.out];exact SX.out
  have GY:Hid (Gr E L P vs w L7 v7 WX):=by
   show Gr _ _ _ _ _ _ _ _
   rw [← hWX.out];exact GX.out
  have cK0:WX.cell? ⟨w2.heap.size,0,none⟩=some (.int .i64 op):=by rw [← hWX.out];go_simp
  have cK1:WX.cell? ⟨w2.heap.size,1,none⟩=some (.int .i64 a):=by rw [← hWX.out];go_simp
  have cK2:WX.cell? ⟨w2.heap.size,2,none⟩=some (.int .i64 b):=by rw [← hWX.out];go_simp
  have cK3:WX.cell? ⟨w2.heap.size,3,none⟩=some (.int .i64 c):=by rw [← hWX.out];go_simp
  have cK4:WX.cell? ⟨w2.heap.size,4,none⟩=some (.int .i64 n):=by rw [← hWX.out];go_simp
  have cK5:WX.cell? ⟨w2.heap.size,5,none⟩=some (.slice aa args.length acap):=by rw [← hWX.out];go_simp
  have cA0:WX.cell? ⟨b5,0,none⟩=some (.int .i64 fr.given.kind):=by rw [← hWX.out];go_simp
  have cA1:WX.cell? ⟨b5,1,none⟩=some (.int .i64 fr.given.n):=by rw [← hWX.out];go_simp
  have cB0:WX.cell? ⟨b6,0,none⟩=some (.int .i64 fr.got.kind):=by rw [← hWX.out];go_simp
  have cB1:WX.cell? ⟨b6,1,none⟩=some (.int .i64 fr.got.n):=by rw [← hWX.out];go_simp
  have cR0:WX.cell? ⟨w.heap.size,0,none⟩=some (.int .i64 0):=by rw [← hWX.out];go_simp
  have cR1:WX.cell? ⟨w.heap.size,1,none⟩=some (.int .i64 0):=by rw [← hWX.out];go_simp
  have cX0:WX.cell? ⟨P.cb,0,none⟩=some (.pointer (some ⟨E.hb,0,none⟩)):=by rw [← hWX.out];go_simp
  have cX10:WX.cell? ⟨P.cb,10,none⟩=some (.int .i64 fr.at_):=by rw [← hWX.out];go_simp
  have fR0:WX.frozen? ⟨w.heap.size,0,none⟩=false:=by rw [← hWX.out];go_simp
  have fR1:WX.frozen? ⟨w.heap.size,1,none⟩=false:=by rw [← hWX.out];go_simp
  have fX10:=SY.out.fz 10 (by decide)
  have hsWX:WX.heap.size=wc.heap.size:=by rw [← hWX.out];simp
  have nz0:=nz w.heap.size (Nat.le_refl _) lw0;have hcbX:=SY.out.cbw;have lR:=cell_lt cR0;have lK:=cell_lt cK0;have lA:=cell_lt cA0;have lB:=cell_lt cB0;have hBX:=SY.out.base;have hvX:=Lib.hid (Sl.mono mInt hva.out (HS.out.bel GY.out.kp) (Nat.le_refl _));clear hva;clear SX GX hWX e0 e10 e11 e12 e13 e14 ef10 ef11 ef12 ef13 ef14 k0 k1 k2 k3 k4 k5 s0 s1 sf0 sf1 g0 g1 q0 q1;have hB:=HS.out.base;have h1000:fr.regs.length≤1000:=by have:=MS.regs.2.2;have:=hf.len;omega
  have hI0:=Lib.hid hI;simp only [Rform.ins,Bool.and_eq_true] at hI;obtain ⟨⟨_,hb⟩,_⟩:=hI
  by_cases q10:op=10
  ·subst q10;simp [Rform.body,rng_iff] at hb;obtain ⟨ka,rfl⟩:∃ k:Nat,a=(k:Int):=⟨a.toNat,by omega⟩
   go_wp2_with fail
   refine bodyPost_ret (v:=.tuple #[.agg #[.int .i64 0,.int .i64 0],.bool false]) (by simp [results,Tryz.results92,go_sem] <;> go_simp) rfl ?_
   exact goR rfl hB GY.out SY.out lR nz0
  by_cases q11:op=11
  ·subst q11;simp [Rform.body,rng_iff] at hb;obtain ⟨ka,rfl⟩:∃ k:Nat,a=(k:Int):=⟨a.toNat,by omega⟩
   obtain ⟨kc,rfl⟩:∃ k:Nat,c=(k:Int):=⟨c.toNat,by have:=(reg_l hb.2 hf.len).1;omega⟩
   have hkc:kc < fr.regs.length:=by have:=(reg_l hb.2 hf.len).2;rwa [Int.toNat_natCast] at this
   obtain ⟨⟨ck,cn⟩,hxc⟩:∃ v,Hid (fr.regs.getD kc Vl.nil=v):=⟨_,Lib.hid rfl⟩;have hrc:rd fr (kc:Int)=⟨ck,cn⟩:=by unfold rd;rw [Int.toNat_natCast];exact hxc.out
   obtain ⟨p,hp⟩:∃ p,Hid (Num.holds b cn=p):=⟨_,Lib.hid rfl⟩
   go_wp2_with fail
   refine Drawn.hd (fun w'=>w'.cell? ⟨w2.heap.size,2,none⟩=some (.int .i64 b)∧w'.cell? ⟨w2.heap.size,3,none⟩=some (.int .i64 kc)) (h:=fun hHeld=>?_);refine dT 0 69 ?_;refine dT 1 70 ?_;refine dT 2 71 ?_;refine dT 3 72 ?_;refine dT 4 73 ?_;refine Drawn.cl 5 (fun K hK=>?_);go_simp
   by_cases qk:ck=1
   ·subst qk;refine (readOk (SY.out.below (by exact Rd.byB)) kc hkc h1000 ⟨1,cn⟩ hxc.out 1 rfl).mono ?_
    rintro e w5 ⟨rfl,hb5⟩;have HB5:=Lib.hid (show Below WX.heap.size WX w5 from Below.trans (by exact Rd.byB) (hb5.mono Rd.byL))
    have dK2:=kept HB5.out lK cK2;have dK3:=kept HB5.out lK cK3;have hfl:=fieldN
    go_wp2_with fail
    refine Drawn.bk hK (hS:=by (try dsimp only);exact ⟨dK2,dK3⟩) (h:=fun hHeld=>?_)
    clear hK K;refine dT 6 75 ?_;refine Drawn.cl 7 (fun K hK=>?_);go_simp;refine (NumW.holds b cn _).mono ?_;rw [hp.out];rintro e w6 ⟨rfl,hb6⟩;have HB6:=Lib.hid (show Below WX.heap.size WX w6 from HB5.out.trans (hb6.mono HB5.out.size));clear dK2 dK3 hb5 hb6;have S5:=SY.out.below HB6.out;have d10:=S5.c10;have fd10:=S5.fz 10 (by decide)
    have dR0:=kept HB6.out lR cR0;have dR1:=kept HB6.out lR cR1;have fdR0:=frz_kept HB6.out lR fR0;have fdR1:=frz_kept HB6.out lR fR1;have dK1:=kept HB6.out lK cK1;have dK2:=kept HB6.out lK cK2;have dK3:=kept HB6.out lK cK3;have lR5:=cell_lt dR0;have lK5:=cell_lt dK1;have hcb5:=S5.cbw;have nz5:=nz0
    go_wp2_with fail
    refine Drawn.bk hK (hS:=by (try dsimp only);exact ⟨dK2,dK3⟩) (h:=fun hHeld=>?_)
    clear hK K;refine dN ?_;replace S5:=Lib.hid S5
    cases p
    ·skip
     go_wp2_with fail
     refine bodyPost_ret (v:=.tuple #[.agg #[.int .i64 0,.int .i64 0],.bool false]) (by simp [results,Tryz.results92,go_sem] <;> go_simp) rfl ?_
     exact goR (fr1:=⟨fr.regs,fr.at_,Vl.nil,Vl.nil⟩) (t:=fr.at_+1) (by show outA RM E.f E.input E.fuel g d m (rkind (rd fr (kc:Int)) 1 (stepped h) (rgo fr (if Num.holds b (rd fr (kc:Int)).n then (ka:Int).toNat else fr.at_+1) (stepped h)))=_;rw [hrc];unfold rkind;rw [if_pos rfl];simp only [hp.out];rfl) hB (GY.out.trans (Gr.of_below HB6.out)) S5.out lR5 nz5
    ·skip
     go_wp2_with fail
     refine bodyPost_ret (v:=.tuple #[.agg #[.int .i64 0,.int .i64 0],.bool false]) (by simp [results,Tryz.results92,go_sem] <;> go_simp) rfl ?_
     exact goR (fr1:=⟨fr.regs,fr.at_,Vl.nil,Vl.nil⟩) (t:=ka) (by show outA RM E.f E.input E.fuel g d m (rkind (rd fr (kc:Int)) 1 (stepped h) (rgo fr (if Num.holds b (rd fr (kc:Int)).n then (ka:Int).toNat else fr.at_+1) (stepped h)))=_;rw [hrc];unfold rkind;rw [if_pos rfl];simp only [hp.out];rfl) hB (GY.out.trans (Gr.of_below HB6.out)) S5.out lR5 nz5
   ·refine (readBad (SY.out.below (by exact Rd.byB)) kc hkc h1000 ⟨ck,cn⟩ hxc.out 1 qk).mono ?_
    rintro e w5 ⟨rfl,hb5⟩;have HB5:=Lib.hid (show Below WX.heap.size WX w5 from Below.trans (by exact Rd.byB) (hb5.mono Rd.byL))
    unfold pan;refine And.intro rfl ?_;rw [show outA RM E.f E.input E.fuel g d m (RM.step E.f E.input m ⟨11,(ka:Int),b,(kc:Int),n,args⟩ fr (stepped h))=.stop 6 (stepped h) from by show outA RM E.f E.input E.fuel g d m (rkind (rd fr (kc:Int)) 1 (stepped h) _)=_;rw [hrc];unfold rkind;rw [if_neg qk];rfl]
    exact ⟨Pan.one _,((GY.out.trans (Gr.of_below HB5.out)).lft (SY.out.below HB5.out)).stop⟩
  by_cases q12:op=12
  ·subst q12;simp [Rform.body,rng_iff] at hb;obtain ⟨ka,rfl⟩:∃ k:Nat,a=(k:Int):=⟨a.toNat,by omega⟩
   obtain ⟨kc,rfl⟩:∃ k:Nat,c=(k:Int):=⟨c.toNat,by have:=(reg_l hb.2 hf.len).1;omega⟩
   have hkc:kc < fr.regs.length:=by have:=(reg_l hb.2 hf.len).2;rwa [Int.toNat_natCast] at this
   obtain ⟨⟨ck,cn⟩,hxc⟩:∃ v,Hid (fr.regs.getD kc Vl.nil=v):=⟨_,Lib.hid rfl⟩;have hrc:rd fr (kc:Int)=⟨ck,cn⟩:=by unfold rd;rw [Int.toNat_natCast];exact hxc.out
   have hfl:=fieldN
   by_cases qk:ck=3
   ·subst qk
    by_cases qn:cn < 0
    ·have qb:decide (cn < 0)=true:=by simpa using qn
     go_wp2_with fail
     refine (readOk SY.out kc hkc h1000 ⟨3,cn⟩ hxc.out 3 rfl).mono ?_;rintro e w6 ⟨rfl,hb6⟩;have HB6:=Lib.hid (show Below WX.heap.size WX w6 from hb6);clear hb6;have S5:=SY.out.below HB6.out;have d10:=S5.c10;have fd10:=S5.fz 10 (by decide)
     have dR0:=kept HB6.out lR cR0;have dR1:=kept HB6.out lR cR1;have fdR0:=frz_kept HB6.out lR fR0;have fdR1:=frz_kept HB6.out lR fR1;have dK1:=kept HB6.out lK cK1;have dK2:=kept HB6.out lK cK2;have dK3:=kept HB6.out lK cK3;have lR5:=cell_lt dR0;have lK5:=cell_lt dK1;have hcb5:=S5.cbw;have nz5:=nz0;replace S5:=Lib.hid S5
     go_wp2_with fail
     refine bodyPost_ret (v:=.tuple #[.agg #[.int .i64 0,.int .i64 0],.bool false]) (by simp [results,Tryz.results92,go_sem] <;> go_simp) rfl ?_
     exact goR (fr1:=⟨fr.regs,fr.at_,Vl.nil,Vl.nil⟩) (t:=ka) (by show outA RM E.f E.input E.fuel g d m (rkind (rd fr (kc:Int)) 3 (stepped h) (rgo fr (if (rd fr (kc:Int)).n < 0 then (ka:Int).toNat else fr.at_+1) (stepped h)))=_;rw [hrc];unfold rkind;rw [if_pos rfl];rw [if_pos qn];rfl) hB (GY.out.trans (Gr.of_below HB6.out)) S5.out lR5 nz5
    ·have qb:decide (cn < 0)=false:=by simpa using qn
     go_wp2_with fail
     refine (readOk SY.out kc hkc h1000 ⟨3,cn⟩ hxc.out 3 rfl).mono ?_;rintro e w6 ⟨rfl,hb6⟩;have HB6:=Lib.hid (show Below WX.heap.size WX w6 from hb6);clear hb6;have S5:=SY.out.below HB6.out;have d10:=S5.c10;have fd10:=S5.fz 10 (by decide)
     have dR0:=kept HB6.out lR cR0;have dR1:=kept HB6.out lR cR1;have fdR0:=frz_kept HB6.out lR fR0;have fdR1:=frz_kept HB6.out lR fR1;have dK1:=kept HB6.out lK cK1;have dK2:=kept HB6.out lK cK2;have dK3:=kept HB6.out lK cK3;have lR5:=cell_lt dR0;have lK5:=cell_lt dK1;have hcb5:=S5.cbw;have nz5:=nz0;replace S5:=Lib.hid S5
     go_wp2_with fail
     refine bodyPost_ret (v:=.tuple #[.agg #[.int .i64 0,.int .i64 0],.bool false]) (by simp [results,Tryz.results92,go_sem] <;> go_simp) rfl ?_
     exact goR (fr1:=⟨fr.regs,fr.at_,Vl.nil,Vl.nil⟩) (t:=fr.at_+1) (by show outA RM E.f E.input E.fuel g d m (rkind (rd fr (kc:Int)) 3 (stepped h) (rgo fr (if (rd fr (kc:Int)).n < 0 then (ka:Int).toNat else fr.at_+1) (stepped h)))=_;rw [hrc];unfold rkind;rw [if_pos rfl];rw [if_neg (by show ¬ cn < 0;omega)];rfl) hB (GY.out.trans (Gr.of_below HB6.out)) S5.out lR5 nz5
   ·go_wp2_with fail
    refine (readBad SY.out kc hkc h1000 ⟨ck,cn⟩ hxc.out 3 qk).mono ?_;rintro e w5 ⟨rfl,hb5⟩;unfold pan;refine And.intro rfl ?_;rw [show outA RM E.f E.input E.fuel g d m (RM.step E.f E.input m ⟨12,(ka:Int),0,(kc:Int),n,args⟩ fr (stepped h))=.stop 6 (stepped h) from by show outA RM E.f E.input E.fuel g d m (rkind (rd fr (kc:Int)) 3 (stepped h) _)=_;rw [hrc];unfold rkind;rw [if_neg qk];rfl]
    exact ⟨Pan.one _,((GY.out.trans (Gr.of_below hb5)).lft (SY.out.below hb5)).stop⟩
  by_cases q19:op=19
  ·subst q19;simp [Rform.body,rng_iff] at hb;have hreg:Rform.reg m.regs a b=true:=hb.1.2;obtain ⟨ka,rfl⟩:∃ k:Nat,a=(k:Int):=⟨a.toNat,by have:=(reg_l hreg hf.len).1;omega⟩
   by_cases qk:fr.given.kind=b
   ·have qb:(fr.given.kind==b)=true:=by simpa using qk
    have hw:=reg_w (v:=fr.given) hreg hf.len (fun e=>by rw [← qk];exact e)
    rw [Int.toNat_natCast] at hw;have c9:WX.cell? ⟨P.cb,9,none⟩=some (.slice (some ⟨P.lb,0,none⟩) fr.regs.length fr.regs.length):=SY.out.c9;have QK:=Lib.hid qk;clear qk
    go_wp2_with (go_at_call 97;refine (mustT _).mono ?_;rintro e w5 ⟨rfl,rfl⟩)
    refine Drawn.hd (fun w'=>w'.cell? ⟨P.cb,9,none⟩=some (.slice (some ⟨P.lb,0,none⟩) fr.regs.length fr.regs.length)∧w'.cell? ⟨w2.heap.size,1,none⟩=some (.int .i64 ka)∧w'.cell? ⟨b5,0,none⟩=some (.int .i64 fr.given.kind)∧w'.cell? ⟨b5,1,none⟩=some (.int .i64 fr.given.n)) (h:=fun hHeld=>?_);refine dT 0 102 ?_;refine dT 1 103 ?_;refine dT 2 104 ?_;refine dT 3 105 ?_;refine dT 4 106 ?_;refine dT 5 107 ?_;refine dT 6 108 ?_;refine Drawn.cl 7 (fun K hK=>?_);go_simp;refine (storeR (SY.out.below (by exact Rd.byB)) hf.regs.pair ka fr.given hw h1000).mono ?_
    rintro e w6 ⟨rfl,A⟩;have d1:=A.box (b:=w2.heap.size) (o:=1) (v:=.int .i64 ka) (by go_simp) (nz _ (by omega) lw2)
    have d2:=A.box (b:=b5) (o:=0) (v:=.int .i64 fr.given.kind) (by go_simp) (nz _ (by omega) lb5)
    have d3:=A.box (b:=b5) (o:=1) (v:=.int .i64 fr.given.n) (by go_simp) (nz _ (by omega) lb5)
    have dR0:=A.box (b:=w.heap.size) (o:=0) (v:=.int .i64 0) (by go_simp) nz0
    have dR1:=A.box (b:=w.heap.size) (o:=1) (v:=.int .i64 0) (by go_simp) nz0
    have fR0':=A.boxf (b:=w.heap.size) (o:=0) (x:=false) (by go_simp) lR nz0
    have fR1':=A.boxf (b:=w.heap.size) (o:=1) (x:=false) (by go_simp) lR nz0
    obtain ⟨L8,v8,G8,S8⟩:=A.opn;have nz8:=G8.nf lR nz0;have d9:w6.cell? ⟨P.cb,9,none⟩=some (.slice (some ⟨P.lb,0,none⟩) fr.regs.length fr.regs.length):=by have:=S8.c9;rw [Run.store_len] at this;exact this
    have d10:=S8.c10;have fd10:=S8.fz 10 (by decide)
    have lR8:=cell_lt dR0;have hcb8:=S8.cbw;have G9:=Lib.hid (GY.out.trans ((Gr.of_below (w:=WX) (by exact Rd.byB)).trans G8))
    replace S8:=Lib.hid S8;clear A G8
    go_wp2_with fail
    refine Drawn.bk hK (hS:=by (try dsimp only);exact ⟨d9,d1,d2,d3⟩) (h:=fun hHeld=>?_)
    clear hK K;refine dN ?_
    go_wp2_with fail
    refine bodyPost_ret (v:=.tuple #[.agg #[.int .i64 0,.int .i64 0],.bool false]) (by simp [results,Tryz.results92,go_sem] <;> go_simp) rfl ?_
    exact goR (fr1:=⟨Run.store fr.regs ka fr.given,fr.at_,Vl.nil,Vl.nil⟩) (t:=fr.at_+1) (by show outA RM E.f E.input E.fuel g d m (rkind fr.given b (stepped h) _)=_;unfold rkind;rw [if_pos QK.out];rfl) hB G9.out S8.out lR8 nz8
   ·have qb:(fr.given.kind==b)=false:=by simpa using qk
    go_wp2_with (go_at_call 97;refine (mustF _).mono ?_;rintro e w5 ⟨rfl,rfl⟩)
    refine And.intro rfl ?_;rw [show outA RM E.f E.input E.fuel g d m (RM.step E.f E.input m ⟨19,(ka:Int),b,0,n,args⟩ fr (stepped h))=.stop 6 (stepped h) from by show outA RM E.f E.input E.fuel g d m (rkind fr.given b (stepped h) _)=_;unfold rkind;rw [if_neg qk];rfl]
    exact ⟨Pan.one _,(GY.out.lft SY.out).stop⟩
  by_cases q22:op=22
  ·subst q22;simp [Rform.body,rng_iff] at hb;have hreg:Rform.reg m.regs a 3=true:=hb.1.1;obtain ⟨ka,rfl⟩:∃ k:Nat,a=(k:Int):=⟨a.toNat,by have:=(reg_l hreg hf.len).1;omega⟩
   by_cases qk:fr.got.kind=3
   ·have qb:(fr.got.kind==3)=true:=by simpa using qk
    have hw:=reg_w (v:=fr.got) hreg hf.len (fun e=>by rw [← qk];exact e)
    rw [Int.toNat_natCast] at hw;have c9:WX.cell? ⟨P.cb,9,none⟩=some (.slice (some ⟨P.lb,0,none⟩) fr.regs.length fr.regs.length):=SY.out.c9;have QK:=Lib.hid qk;clear qk
    go_wp2_with (go_at_call 97;refine (mustT _).mono ?_;rintro e w5 ⟨rfl,rfl⟩)
    refine Drawn.hd (fun w'=>w'.cell? ⟨P.cb,9,none⟩=some (.slice (some ⟨P.lb,0,none⟩) fr.regs.length fr.regs.length)∧w'.cell? ⟨w2.heap.size,1,none⟩=some (.int .i64 ka)∧w'.cell? ⟨b6,0,none⟩=some (.int .i64 fr.got.kind)∧w'.cell? ⟨b6,1,none⟩=some (.int .i64 fr.got.n)) (h:=fun hHeld=>?_);refine dT 0 116 ?_;refine dT 1 117 ?_;refine dT 2 118 ?_;refine dT 3 119 ?_;refine dT 4 120 ?_;refine dT 5 121 ?_;refine dT 6 122 ?_;refine Drawn.cl 7 (fun K hK=>?_);go_simp;refine (storeR (SY.out.below (by exact Rd.byB)) hf.regs.pair ka fr.got hw h1000).mono ?_
    rintro e w6 ⟨rfl,A⟩;have d1:=A.box (b:=w2.heap.size) (o:=1) (v:=.int .i64 ka) (by go_simp) (nz _ (by omega) lw2)
    have d2:=A.box (b:=b6) (o:=0) (v:=.int .i64 fr.got.kind) (by go_simp) (nz _ (by omega) lb6)
    have d3:=A.box (b:=b6) (o:=1) (v:=.int .i64 fr.got.n) (by go_simp) (nz _ (by omega) lb6)
    have dR0:=A.box (b:=w.heap.size) (o:=0) (v:=.int .i64 0) (by go_simp) nz0
    have dR1:=A.box (b:=w.heap.size) (o:=1) (v:=.int .i64 0) (by go_simp) nz0
    have fR0':=A.boxf (b:=w.heap.size) (o:=0) (x:=false) (by go_simp) lR nz0
    have fR1':=A.boxf (b:=w.heap.size) (o:=1) (x:=false) (by go_simp) lR nz0
    obtain ⟨L8,v8,G8,S8⟩:=A.opn;have nz8:=G8.nf lR nz0;have d9:w6.cell? ⟨P.cb,9,none⟩=some (.slice (some ⟨P.lb,0,none⟩) fr.regs.length fr.regs.length):=by have:=S8.c9;rw [Run.store_len] at this;exact this
    have d10:=S8.c10;have fd10:=S8.fz 10 (by decide)
    have lR8:=cell_lt dR0;have hcb8:=S8.cbw;have G9:=Lib.hid (GY.out.trans ((Gr.of_below (w:=WX) (by exact Rd.byB)).trans G8))
    replace S8:=Lib.hid S8;clear A G8
    go_wp2_with fail
    refine Drawn.bk hK (hS:=by (try dsimp only);exact ⟨d9,d1,d2,d3⟩) (h:=fun hHeld=>?_)
    clear hK K;refine dN ?_
    go_wp2_with fail
    refine bodyPost_ret (v:=.tuple #[.agg #[.int .i64 0,.int .i64 0],.bool false]) (by simp [results,Tryz.results92,go_sem] <;> go_simp) rfl ?_
    exact goR (fr1:=⟨Run.store fr.regs ka fr.got,fr.at_,Vl.nil,Vl.nil⟩) (t:=fr.at_+1) (by show outA RM E.f E.input E.fuel g d m (rkind fr.got 3 (stepped h) _)=_;unfold rkind;rw [if_pos QK.out];rfl) hB G9.out S8.out lR8 nz8
   ·have qb:(fr.got.kind==3)=false:=by simpa using qk
    go_wp2_with (go_at_call 97;refine (mustF _).mono ?_;rintro e w5 ⟨rfl,rfl⟩)
    refine And.intro rfl ?_;rw [show outA RM E.f E.input E.fuel g d m (RM.step E.f E.input m ⟨22,(ka:Int),0,0,n,args⟩ fr (stepped h))=.stop 6 (stepped h) from by show outA RM E.f E.input E.fuel g d m (rkind fr.got 3 (stepped h) _)=_;unfold rkind;rw [if_neg qk];rfl]
    exact ⟨Pan.one _,(GY.out.lft SY.out).stop⟩
  by_cases q18:op=18
  ·subst q18;simp [Rform.body,rng_iff] at hb;obtain ⟨⟨⟨⟨⟨ha0,ha1⟩,hln⟩,hro⟩,rfl⟩,rfl⟩:=hb;obtain ⟨ka,rfl⟩:∃ k:Nat,a=(k:Int):=⟨a.toNat,by omega⟩
   have hka:ka < E.f.methods.length:=by omega
   rw [mAt_eq hka] at hln hro;have M2:=FS.mes _ (meAt_mem hka);have hfY:RfOk m (stepped h).objs.length ⟨fr.regs,fr.at_,Vl.nil,Vl.nil⟩:=⟨hf.regs,hf.len,nil_ok _,nil_ok _⟩;obtain ⟨ac,hac⟩:∃ x,Hid (calA E g d m (meAt E.f ka) ⟨fr.regs,fr.at_,Vl.nil,Vl.nil⟩ args (stepped h)=x):=⟨_,Lib.hid rfl⟩;have hnx:NXA fr.at_ ac:=by rw [← hac.out];exact calA_nx (fr:=⟨fr.regs,fr.at_,Vl.nil,Vl.nil⟩)
   have HACT:=Lib.hid ((act18 (E:=E) (d:=d) (m:=m) (fr:=fr) (h:=stepped h) (g:=g) (k:=ka) (b:=0) (c:=0) (n:=n) (args:=args)).trans hac.out);have HCAL:=Lib.hid (calledP SY.out HO hfY h1000 ka hka rfl M2.params.1 (fun t ht=>ty_kind (M2.params.2 t ht)) 0 0 n 18 args aa acap hln (regs_at hro hf.len hln) hvX.out g HI FS.many.2);clear hro M2 HI hln
   go_wp2_with fail
   refine HCAL.out.mono ?_;rw [hac.out];rintro e w5 R
   cases ac with
   | back v h'=>exact hnx.elim
   | go fr' h' =>
    obtain ⟨l',a',g1,g2⟩:=fr';obtain ⟨ha',hg'⟩:=hnx;simp only at ha' hg';subst ha' hg';obtain ⟨rfl,A⟩:=R;obtain ⟨L8,v8,G8,S8⟩:=A.opn;have dR0:=G8.cell nz0 cR0;have dR1:=G8.cell nz0 cR1;have fR0':=G8.frz nz0 lR fR0;have fR1':=G8.frz nz0 lR fR1;have nz8:=G8.nf lR nz0;have d10:=S8.c10;have fd10:=S8.fz 10 (by decide)
    have lR8:=cell_lt dR0;have hcb8:=S8.cbw;have G9:=Lib.hid (GY.out.trans G8);replace S8:=Lib.hid S8;clear A G8 cR0 cR1 fR0 fR1 cX10 fX10 cK0 cK1 cK2 cK3 cK4 cK5
    go_wp2_with fail
    refine bodyPost_ret (v:=.tuple #[.agg #[.int .i64 0,.int .i64 0],.bool false]) (by simp [results,Tryz.results92,go_sem] <;> go_simp) rfl ?_
    exact goR (fr1:=⟨l',fr.at_,g1,Vl.nil⟩) (t:=fr.at_+1) HACT.out hB G9.out S8.out lR8 nz8
   | thrown o h' =>
    obtain ⟨⟨older,hol,rfl⟩,A⟩:=R;refine And.intro rfl ?_;rw [HACT.out];exact ⟨⟨older,hol,rfl⟩,(),GY.out.comp A⟩
   | stop c2 h' =>
    obtain ⟨⟨older,hol,rfl⟩,A⟩:=R;refine And.intro rfl ?_;rw [HACT.out];exact ⟨⟨older,hol,rfl⟩,GY.out.compS A⟩
  by_cases q20:op=20
  ·subst q20;clear hsWX;have e2:WX.cell? ⟨P.cb,2,none⟩=some (.int .i64 m.ret.kind):=SY.out.c2;have e3:WX.cell? ⟨P.cb,3,none⟩=some (.int .i64 m.ret.cls):=SY.out.c3
   by_cases hr:m.ret.kind=0
   ·have hrb:(m.ret.kind==0)=true:=by simpa using hr
    go_wp2_with fail
    refine bodyPost_ret (v:=.tuple #[.agg #[.int .i64 0,.int .i64 0],.bool true]) (by simp [results,Tryz.results92,go_sem] <;> go_simp) rfl ?_
    exact goB (v:=Vl.nil) (by show outA RM E.f E.input E.fuel g d m (r20 E.f.classes m ⟨20,a,b,c,n,args⟩ fr (stepped h))=_;unfold r20;rw [if_pos hr];rfl) hB GY.out SY.out nz0
   ·have hrb:(m.ret.kind==0)=false:=by simpa using hr
    simp [Rform.body,rng_iff,hr] at hb;obtain ⟨⟨rfl,rfl⟩,hreg⟩:=hb;obtain ⟨ka,rfl⟩:∃ k:Nat,a=(k:Int):=⟨a.toNat,by have:=(reg_l hreg hf.len).1;omega⟩
    have hka:ka < fr.regs.length:=by have:=(reg_l hreg hf.len).2;rwa [Int.toNat_natCast] at this
    obtain ⟨⟨ck,cn⟩,hxc⟩:∃ v,Hid (fr.regs.getD ka Vl.nil=v):=⟨_,Lib.hid rfl⟩;have hrc:rd fr (ka:Int)=⟨ck,cn⟩:=by unfold rd;rw [Int.toNat_natCast];exact hxc.out
    have hact:outA RM E.f E.input E.fuel g d m (RM.step E.f E.input m ⟨20,(ka:Int),0,0,n,args⟩ fr (stepped h))=if ck=m.ret.kind then (if ofT E.f.classes (stepped h) ⟨ck,cn⟩ m.ret=true then .back ⟨ck,cn⟩ (stepped h) else .stop 6 (stepped h)) else .stop 6 (stepped h):=by
     show outA RM E.f E.input E.fuel g d m (r20 E.f.classes m ⟨20,(ka:Int),0,0,n,args⟩ fr (stepped h))=_
     unfold r20;rw [if_neg hr,hrc];unfold rkind
     by_cases q:ck=m.ret.kind
     ·rw [if_pos q,if_pos q];cases ofT E.f.classes (stepped h) ⟨ck,cn⟩ m.ret <;> rfl
     ·rw [if_neg q,if_neg q];rfl
    have EP:=Lib.hid (fun (q:ck=m.ret.kind)=>hact.trans (if_pos q));have EN:=Lib.hid (fun (q:¬ ck=m.ret.kind)=>hact.trans (if_neg q));have v3:ck=3→cn < ((stepped h).objs.length:Int):=fun q=>by have:=rd_ok hf (ka:Int);rw [hrc] at this;exact (this.2.2.2 q).2
    replace v3:=Lib.hid v3;clear hact
    go_upto_region 28 with (fail)
    go_cut [8] from 134 to 145 (fun s8 wx=>∃ b8:Nat,s8=.pointer (some ⟨b8,0,none⟩)∧ck=m.ret.kind∧Hid (Below WX.heap.size WX wx)∧WX.heap.size≤b8∧wx.cell? ⟨b8,0,none⟩=some (.int .i64 ck)∧wx.cell? ⟨b8,1,none⟩=some (.int .i64 cn))
    case first =>
     refine Drawn.hd (fun w'=>w'.cell? ⟨w2.heap.size,1,none⟩=some (.int .i64 ka)∧w'.cell? ⟨P.cb,2,none⟩=some (.int .i64 m.ret.kind)) (h:=fun hHeld=>?_);refine dT 0 134 ?_;refine dT 1 135 ?_;refine dT 2 136 ?_;refine dT 3 137 ?_;refine dT 4 138 ?_;refine dT 5 139 ?_;refine dT 6 140 ?_;refine dT 7 141 ?_;refine dT 8 142 ?_;refine wpAnyH_ready (rs:=[9,10]) (by kernel_rfl) (by simp) ?_
     refine AllReadyH.cons rfl (fun K hK=>?_) (AllReadyH.cons rfl (fun K hK=>?_) AllReadyH.nil)
     ·go_simp
      by_cases qk:ck=m.ret.kind
      ·subst qk;refine (readOk (SY.out.below (by exact Rd.byB)) ka hka h1000 ⟨m.ret.kind,cn⟩ hxc.out m.ret.kind rfl).mono ?_
       rintro e w5 ⟨rfl,hb5⟩;have HB5:=Lib.hid (show Below WX.heap.size WX w5 from Below.trans (by exact Rd.byB) (hb5.mono Rd.byL))
       have dK1:=kept HB5.out lK cK1;have d2:=(SY.out.below HB5.out).c2;have hs5:=HB5.out.size;have lK5:=cell_lt dK1;have hcb5:P.cb < w5.heap.size:=cell_lt d2;clear hb5
       go_wp2_with fail
       refine Drawn.bk hK (hS:=by (try dsimp only);exact ⟨dK1,d2⟩) (h:=fun hHeld=>?_)
       clear hK K;refine Drawn.cl 10 (fun K hK=>?_);go_simp;refine Drawn.bk hK (h:=fun hHeld=>?_);clear hK K;refine Drawn.cl 11 (fun K hK=>?_);go_simp;refine Drawn.bk hK (h:=fun hHeld=>?_);clear hK K;refine dN ?_
       go_wp2_with fail
       go_meet
       exact ⟨_,rfl,by first | rfl | trivial,Lib.hid (by have hb:=HB5.out;exact Rd.byB),by first | exact hs5 | (simp;omega),by go_simp,by go_simp⟩
      ·refine (readBad (SY.out.below (by exact Rd.byB)) ka hka h1000 ⟨ck,cn⟩ hxc.out m.ret.kind qk).mono ?_
       rintro e w5 ⟨rfl,hb5⟩;have HB5:=Lib.hid (show Below WX.heap.size WX w5 from Below.trans (by exact Rd.byB) (hb5.mono Rd.byL))
       unfold pan;refine And.intro rfl ?_;rw [EN.out qk];exact ⟨Pan.one _,((GY.out.trans (Gr.of_below HB5.out)).lft (SY.out.below HB5.out)).stop⟩
     ·go_simp;refine Drawn.bk hK (h:=fun hHeld=>?_);clear hK K;refine Drawn.cl 9 (fun K hK=>?_);go_simp
      by_cases qk:ck=m.ret.kind
      ·subst qk;refine (readOk (SY.out.below (by exact Rd.byB)) ka hka h1000 ⟨m.ret.kind,cn⟩ hxc.out m.ret.kind rfl).mono ?_
       rintro e w5 ⟨rfl,hb5⟩;have HB5:=Lib.hid (show Below WX.heap.size WX w5 from Below.trans (by exact Rd.byB) (hb5.mono Rd.byL))
       have z0:w5.cell? ⟨WX.heap.size,0,none⟩=some (.int .i64 0):=kept hb5 Rd.byL (by go_simp)
       have z1:w5.cell? ⟨WX.heap.size,1,none⟩=some (.int .i64 0):=kept hb5 Rd.byL (by go_simp)
       have zf0:w5.frozen? ⟨WX.heap.size,0,none⟩=false:=frz_kept hb5 Rd.byL (by go_simp)
       have zf1:w5.frozen? ⟨WX.heap.size,1,none⟩=false:=frz_kept hb5 Rd.byL (by go_simp)
       have dK1:=kept HB5.out lK cK1;have d2:=(SY.out.below HB5.out).c2;have lz:=cell_lt z0;have lK5:=cell_lt dK1;have hcb5:P.cb < w5.heap.size:=cell_lt d2;have nz3:w2.heap.size≠WX.heap.size:=by omega
       have nzd:P.cb≠WX.heap.size:=by omega
       have nz2:WX.heap.size≠w2.heap.size:=by omega
       have nzc:WX.heap.size≠P.cb:=by omega
       clear hb5
       go_wp2_with fail
       refine Drawn.bk hK (hS:=by (try dsimp only);exact ⟨dK1,d2⟩) (h:=fun hHeld=>?_)
       clear hK K;refine Drawn.cl 11 (fun K hK=>?_);go_simp;refine Drawn.bk hK (h:=fun hHeld=>?_);clear hK K;refine dN ?_
       go_wp2_with fail
       go_meet
       exact ⟨_,rfl,by first | rfl | trivial,Lib.hid (by have hb:=HB5.out;exact Rd.byB),by first | omega | (simp;omega),by go_simp,by go_simp⟩
      ·refine (readBad (SY.out.below (by exact Rd.byB)) ka hka h1000 ⟨ck,cn⟩ hxc.out m.ret.kind qk).mono ?_
       rintro e w5 ⟨rfl,hb5⟩;have HB5:=Lib.hid (show Below WX.heap.size WX w5 from Below.trans (by exact Rd.byB) (hb5.mono Rd.byL))
       unfold pan;refine And.intro rfl ?_;rw [EN.out qk];exact ⟨Pan.one _,((GY.out.trans (Gr.of_below HB5.out)).lft (SY.out.below HB5.out)).stop⟩
    case rest =>
     obtain ⟨b8,rfl,qk,HB5,hb8,z0,z1⟩:=hcut;subst qk;replace EP:=Lib.hid (EP.out rfl);clear EN;have hbx5:=HB5.out;have S5:=SY.out.below hbx5;have d0:=S5.c0;have d2:=S5.c2;have d3:=S5.c3;have dR0:=kept hbx5 lR cR0;have dR1:=kept hbx5 lR cR1;have fdR0:=frz_kept hbx5 lR fR0;have fdR1:=frz_kept hbx5 lR fR1;have hcb5:=S5.cbw;have lR5:=cell_lt dR0;have lz:=cell_lt z0;have nb8r:w.heap.size≠b8:=by omega
     have hsx5:=hbx5.size;replace S5:=Lib.hid S5;clear hbx5 cK0 cK1 cK2 cK3 cK4 cK5 cR0 cR1 fR0 fR1 cX0 cX10 fX10 e2 e3 cA0 cA1 cB0 cB1
     go_wp2_with fail
     refine Drawn.hd (fun w'=>w'.cell? ⟨P.cb,0,none⟩=some (.pointer (some ⟨E.hb,0,none⟩))∧w'.cell? ⟨P.cb,2,none⟩=some (.int .i64 m.ret.kind)∧w'.cell? ⟨P.cb,3,none⟩=some (.int .i64 m.ret.cls)∧w'.cell? ⟨b8,0,none⟩=some (.int .i64 m.ret.kind)∧w'.cell? ⟨b8,1,none⟩=some (.int .i64 cn)) (h:=fun hHeld=>?_);refine dT 0 144 ?_;refine dT 1 145 ?_;refine dT 2 146 ?_;refine dT 3 147 ?_;refine dT 4 148 ?_;refine dT 5 149 ?_;refine dT 6 150 ?_;refine dT 7 151 ?_;refine dT 8 152 ?_;refine dT 9 153 ?_;refine Drawn.cl 10 (fun K hK=>?_);go_simp;obtain ⟨p,hp⟩:∃ p,Hid (ofT E.f.classes (stepped h) ⟨m.ret.kind,cn⟩ m.ret=p):=⟨_,Lib.hid rfl⟩;refine (of E L7 (stepped h) d ⟨m.ret.kind,cn⟩ m.ret _ (S5.out.below (by exact Rd.byB)).H FS.may (fun q=>v3.out q)).mono ?_
     rw [hp.out];rintro e w6 ⟨rfl,hb6⟩;have HB6:=Lib.hid (show Below wc.heap.size wc w6 from Below.trans (by exact Rd.byB) (hb6.mono Rd.byL))
     have u0:=kept HB6.out hcb5 d0;have u2:=kept HB6.out hcb5 d2;have u3:=kept HB6.out hcb5 d3;have u4:=kept HB6.out lz z0;have u5:=kept HB6.out lz z1;have uR0:=kept HB6.out lR5 dR0;have uR1:=kept HB6.out lR5 dR1;have uf0:=frz_kept HB6.out lR5 fdR0;have uf1:=frz_kept HB6.out lR5 fdR1;have G9:=Lib.hid (GY.out.trans (Gr.of_below (HB5.out.trans (HB6.out.mono hsx5))));have S9:=Lib.hid (S5.out.below HB6.out);have hsw6:w.heap.size < w6.heap.size:=cell_lt uR0;clear hb6 d0 d2 d3 dR0 dR1 fdR0 fdR1 z0 z1
     go_wp2_with fail
     refine Drawn.bk hK (hS:=by (try dsimp only);exact ⟨u0,u2,u3,u4,u5⟩) (h:=fun hHeld=>?_)
     clear hK K;refine Drawn.cl 11 (fun K hK=>?_);go_simp
     go_at_call 97
     cases p
     ·refine (mustF _).mono ?_;rintro e w7 ⟨rfl,rfl⟩
      go_wp2_with fail
      refine And.intro rfl ?_;rw [EP.out,hp.out];exact ⟨Pan.one _,(G9.out.lft S9.out).stop⟩
     ·refine (mustT _).mono ?_;rintro e w7 ⟨rfl,rfl⟩
      go_wp2_with fail
      refine Drawn.bk hK (hS:=by (try dsimp only);exact ⟨u0,u2,u3,u4,u5⟩) (h:=fun hHeld=>?_)
      clear hK K;refine dN ?_
      go_wp2_with fail
      refine bodyPost_ret (v:=.tuple #[.agg #[.int .i64 m.ret.kind,.int .i64 cn],.bool true]) (by simp [results,Tryz.results92,go_sem] <;> go_simp) rfl ?_
      exact goB (v:=⟨m.ret.kind,cn⟩) (by rw [EP.out,hp.out];rfl) hB G9.out S9.out nz0
  by_cases q21:op=21
  ·subst q21;simp [Rform.body,rng_iff] at hb;obtain ⟨⟨hreg,rfl⟩,rfl⟩:=hb;obtain ⟨ka,rfl⟩:∃ k:Nat,a=(k:Int):=⟨a.toNat,by have:=(reg_l hreg hf.len).1;omega⟩
   have hka:ka < fr.regs.length:=by have:=(reg_l hreg hf.len).2;rwa [Int.toNat_natCast] at this
   obtain ⟨⟨ck,cn⟩,hxc⟩:∃ v,Hid (fr.regs.getD ka Vl.nil=v):=⟨_,Lib.hid rfl⟩;have hrc:rd fr (ka:Int)=⟨ck,cn⟩:=by unfold rd;rw [Int.toNat_natCast];exact hxc.out
   have hact:outA RM E.f E.input E.fuel g d m (RM.step E.f E.input m ⟨21,(ka:Int),0,0,n,args⟩ fr (stepped h))=if ck=3 then oA ((Run.throw E.f.classes ⟨ck,cn⟩ (stepped h)).act fun (_:Unit) h=>.stop 6 h) else .stop 6 (stepped h):=by
    show outA RM E.f E.input E.fuel g d m (r21 E.f.classes ⟨21,(ka:Int),0,0,n,args⟩ fr (stepped h))=_
    unfold r21;rw [hrc];unfold rkind
    by_cases q:ck=3
    ·rw [if_pos q,if_pos q];cases Run.throw E.f.classes ⟨ck,cn⟩ (stepped h) <;> rfl
    ·rw [if_neg q,if_neg q];rfl
   obtain ⟨ac,hac⟩:∃ x,Hid ((if ck=3 then oA ((Run.throw E.f.classes ⟨ck,cn⟩ (stepped h)).act fun (_:Unit) h=>.stop 6 h) else .stop 6 (stepped h):Out Rf)=x):=⟨_,Lib.hid rfl⟩;have HACT:=Lib.hid (hact.trans hac.out);clear hact
   go_wp2_with fail
   refine Drawn.hd (fun w'=>w'.cell? ⟨P.cb,0,none⟩=some (.pointer (some ⟨E.hb,0,none⟩))∧w'.cell? ⟨w2.heap.size,1,none⟩=some (.int .i64 ka)) (h:=fun hHeld=>?_);refine dT 0 159 ?_;refine dT 1 160 ?_;refine dT 2 161 ?_;refine dT 3 162 ?_;refine dT 4 163 ?_;refine dT 5 164 ?_;refine dT 6 165 ?_;refine Drawn.cl 7 (fun K hK=>?_);go_simp
   by_cases qk:ck=3
   ·subst qk;obtain ⟨r,hr⟩:∃ r,Hid ((Run.throw E.f.classes ⟨3,cn⟩ (stepped h):Res Unit)=r):=⟨_,Lib.hid rfl⟩;have ea:ac=oA (r.act fun (_:Unit) h=>.stop 6 h):=by rw [← hac.out,if_pos rfl,hr.out]
    replace ea:=Lib.hid (HACT.out.trans ea);refine (readOk (SY.out.below (by exact Rd.byB)) ka hka h1000 ⟨3,cn⟩ hxc.out 3 rfl).mono ?_
    rintro e w5 ⟨rfl,hb5⟩;have HB5:=Lib.hid (show Below WX.heap.size WX w5 from Below.trans (by exact Rd.byB) (hb5.mono Rd.byL))
    have S5:=SY.out.below HB5.out;have d0:=S5.c0;have dK1:=kept HB5.out lK cK1;have hcb5:=S5.cbw;have lK5:=cell_lt dK1;replace S5:=Lib.hid S5;clear hb5
    go_wp2_with fail
    refine Drawn.bk hK (hS:=by (try dsimp only);exact ⟨d0,dK1⟩) (h:=fun hHeld=>?_)
    clear hK K;refine Drawn.cl 8 (fun K hK=>?_);go_simp
    go_at_call 109
    refine (throwP (V:=unitV) S5.out.H FS.may ⟨3,cn⟩).mono ?_;rw [hr.out];rintro e w6 hR
    cases r with
    | ok x h2=>exact (throw_no hr.out).elim
    | thrown o h2 =>
     obtain ⟨rfl,A⟩:=hR;obtain ⟨L8,G8,S8⟩:=Gr.of_heap A S5.out;unfold pan;refine And.intro rfl ?_;rw [ea.out];exact ⟨Pan.one _,(),((GY.out.trans (Gr.of_below HB5.out)).trans G8).lft S8⟩
    | stop c2 h2 =>
     obtain ⟨rfl,A⟩:=hR;obtain ⟨L8,G8,S8⟩:=Gr.of_heap A S5.out;unfold pan;refine And.intro rfl ?_;rw [ea.out];exact ⟨Pan.one _,(((GY.out.trans (Gr.of_below HB5.out)).trans G8).lft S8).stop⟩
   ·have ea:ac=.stop 6 (stepped h):=by rw [← hac.out,if_neg qk]
    refine (readBad (SY.out.below (by exact Rd.byB)) ka hka h1000 ⟨ck,cn⟩ hxc.out 3 qk).mono ?_
    rintro e w5 ⟨rfl,hb5⟩;have HB5:=Lib.hid (show Below WX.heap.size WX w5 from Below.trans (by exact Rd.byB) (hb5.mono Rd.byL))
    unfold pan;refine And.intro rfl ?_;rw [HACT.out,ea];exact ⟨Pan.one _,((GY.out.trans (Gr.of_below HB5.out)).lft (SY.out.below HB5.out)).stop⟩
  have hop:=Lib.hid (show op≠10∧op≠11∧op≠12∧op≠18∧op≠19∧op≠20∧op≠21∧op≠22 from ⟨q10,q11,q12,q18,q19,q20,q21,q22⟩);have hnx:=rstep_nx (fr:=⟨fr.regs,fr.at_,Vl.nil,Vl.nil⟩) (h:=stepped h) (f:=E.f) (input:=E.input) (m:=m) (i:=⟨op,a,b,c,n,args⟩) hop.out;have hfY:RfOk m (stepped h).objs.length ⟨fr.regs,fr.at_,Vl.nil,Vl.nil⟩:=⟨hf.regs,hf.len,nil_ok _,nil_ok _⟩
  have hact:outA RM E.f E.input E.fuel g d m (RM.step E.f E.input m ⟨op,a,b,c,n,args⟩ fr (stepped h))=oA (rstep E.f E.input m ⟨op,a,b,c,n,args⟩ ⟨fr.regs,fr.at_,Vl.nil,Vl.nil⟩ (stepped h)):=by
   have e:=rstep_clr (fr:=fr) (h:=stepped h) (f:=E.f) (input:=E.input) (m:=m) (i:=⟨op,a,b,c,n,args⟩) hop.out
   show outA RM E.f E.input E.fuel g d m (rstep E.f E.input m ⟨op,a,b,c,n,args⟩ fr (stepped h))=_
   rw [e];exact nc_oA hnx
  have HPL:=Lib.hid (fun sa sn sc=>plain FS MS SY.out HO hfY hfu hin ⟨op,a,b,c,n,args⟩ hI0.out hop.out sa sn sc);obtain ⟨ac,hac⟩:∃ x,Hid (rstep E.f E.input m ⟨op,a,b,c,n,args⟩ ⟨fr.regs,fr.at_,Vl.nil,Vl.nil⟩ (stepped h)=x):=⟨_,Lib.hid rfl⟩;rw [hac.out] at hnx hact;have HACT:=Lib.hid hact;clear hact hb;have b10:(op==10)=false:=by simpa using q10
  have b11:(op==11)=false:=by simpa using q11
  have b12:(op==12)=false:=by simpa using q12
  have b18:(op==18)=false:=by simpa using q18
  have b19:(op==19)=false:=by simpa using q19
  have b20:(op==20)=false:=by simpa using q20
  have b21:(op==21)=false:=by simpa using q21
  have b22:(op==22)=false:=by simpa using q22
  clear q10 q11 q12 q18 q19 q20 q21 q22
  go_wp2_with fail
  refine (HPL.out _ _ _).mono ?_;rw [hac.out];rintro e w5 R
  cases ac with
  | back v h'=>exact hnx.elim
  | call k x y z=>exact hnx.elim
  | go fr' h' =>
   obtain ⟨l',a',g1,g2⟩:=fr';obtain ⟨ha',hg',hh'⟩:=hnx;simp only at ha' hg' hh';subst ha' hg' hh';obtain ⟨rfl,A⟩:=R;obtain ⟨L8,v8,G8,S8⟩:=A.opn;have dR0:=G8.cell nz0 cR0;have dR1:=G8.cell nz0 cR1;have fR0':=G8.frz nz0 lR fR0;have fR1':=G8.frz nz0 lR fR1;have nz8:=G8.nf lR nz0;have d10:=S8.c10;have fd10:=S8.fz 10 (by decide)
   have lR8:=cell_lt dR0;have hcb8:=S8.cbw;have G9:=Lib.hid (GY.out.trans G8);replace S8:=Lib.hid S8;clear A G8 cR0 cR1 fR0 fR1 cX10 fX10 cK0 cK1 cK2 cK3 cK4 cK5
   go_wp2_with fail
   refine bodyPost_ret (v:=.tuple #[.agg #[.int .i64 0,.int .i64 0],.bool false]) (by simp [results,Tryz.results92,go_sem] <;> go_simp) rfl ?_
   exact goR (fr1:=⟨l',fr.at_,Vl.nil,Vl.nil⟩) (t:=fr.at_+1) HACT.out hB G9.out S8.out lR8 nz8
  | thrown o h' =>
   obtain ⟨⟨older,hol,rfl⟩,A⟩:=R;refine And.intro rfl ?_;rw [HACT.out];exact ⟨⟨older,hol,rfl⟩,(),GY.out.comp A⟩
  | stop c2 h' =>
   obtain ⟨⟨older,hol,rfl⟩,A⟩:=R;refine And.intro rfl ?_;rw [HACT.out];exact ⟨⟨older,hol,rfl⟩,GY.out.compS A⟩
end
end Hpr
namespace Hpr
open Num Rd D Run Mem HierW Hpw
section
variable {E:Ev}{w:World}{L:Lay}{h:Hp}{d:Nat}{P:PS}{m:Me}{fr:Rf}{vs:Value}
theorem doP (FS:FiR E.f) (hm:m∈E.f.methods) (S:ST E w L P m d h fr vs) (HO:HpOk E.f.classes E.input E.fuel h) (hf:RfOk m h.objs.length fr) (hfu:E.fuel≤60000) (hin:E.input.length≤1000) (g:Nat) (HI:InvOk E d g (stepped h)) :
  Calls Tryz.prog 92 #[.pointer (some ⟨P.cb,0,none⟩)] w (DoR E L P m d vs fr w (outS RM E.f E.input E.fuel g d m fr h)):=by
 have MS:=FS.mes m hm;unfold outS
 by_cases q:E.fuel≤h.steps
 ·rw [if_pos q];exact doFuel S hfu q
 rw [if_neg q];have hs:h.steps < E.fuel:=by omega
 have ea:RM.at_ fr=fr.at_:=rfl;rw [ea]
 cases hi:m.code[fr.at_]? with
 | none=>exact doEnd S hfu hs hi
 | some i =>
  have hI:=MS.ins i (List.mem_of_getElem? hi);have hat:fr.at_ < m.code.length:=(List.getElem?_eq_some_iff.1 hi).1;have hatb:fr.at_≤100000:=by have:=MS.code;omega
  have HO1:HpOk E.f.classes E.input E.fuel (stepped h):=⟨HO.many,HO.obs,HO.out,Nat.le_succ_of_le HO.outs,HO.used,hs⟩;obtain ⟨op,a,b,c,n,args⟩:=i;exact doI FS MS S HO1 hf hatb hs hfu hin op a b c n args hi hI g HI
end
end Hpr
namespace Hpr
open Num Rd D Run Mem HierW Hpw
section
variable {E:Ev}{w w' w1 w2:World}{L L' L1:Lay}{h h' h1 h2:Hp}{d:Nat}{P:PS}{m m2:Me}{fr fr' fr1:Rf}{vs vs1:Value}
theorem ST.newLoc (S:ST E w L P m d h fr vs){l:List Vl}(hl:l.length=fr.regs.length) (K:Kp (· = P.lb) w w') (B:Blk w' P.lb (vcells l)):ST E w' L P m d h ⟨l,fr.at_,fr.given,fr.got⟩ vs:=by
 refine ⟨S.H.keep K (fun k e=>by subst e;exact ⟨S.lo.2,S.far.2.1⟩),S.M.mono (K.below S.base (fun k e=>by subst e;exact S.lo.2)),?_,B,Nat.lt_of_lt_of_le S.lbw K.size,row_keep S.stk K (fun g hg e=>S.ne.2.2 (e ▸ hg)),S.lo,S.far,S.ne⟩
 have:=S.blk.next K S.ne.1
 unfold fcs at this ⊢;rw [hl];exact this
theorem stNew (H:PH E w2 L h d) (vp vc vh:Value) (lb:Nat) (M:Mi E w2 ⟨w2.heap.size,lb,vp,vc,vh⟩ m) (hB:Blk w2 lb (vcells (List.replicate m.regs.toNat Vl.nil))) (hlb:lb < w2.heap.size) (hlo:E.B≤lb) (hfar:∀ k,own E L k→k < lb) (T:TypeId) :
  ST E (w2.alloc (.cells #[.pointer (some ⟨E.hb,0,none⟩),vp,.int .i64 m.ret.kind,.int .i64 m.ret.cls,.int .i64 m.stack,.int .i64 m.locals,.int .i64 m.regs,vc,vh,.slice (some ⟨lb,0,none⟩) m.regs.toNat m.regs.toNat,.int .i64 0,.int .i64 0,.int .i64 0,.int .i64 0,.int .i64 0,.bool false] T)) L ⟨w2.heap.size,lb,vp,vc,vh⟩ m d h ⟨List.replicate m.regs.toNat Vl.nil,0,Vl.nil,Vl.nil⟩ (.slice none 0 0):=by
 have hfc:fcs E ⟨w2.heap.size,lb,vp,vc,vh⟩ m ⟨List.replicate m.regs.toNat Vl.nil,0,Vl.nil,Vl.nil⟩ (.slice none 0 0)=[.pointer (some ⟨E.hb,0,none⟩),vp,.int .i64 m.ret.kind,.int .i64 m.ret.cls,.int .i64 m.stack,.int .i64 m.locals,.int .i64 m.regs,vc,vh,.slice (some ⟨lb,0,none⟩) m.regs.toNat m.regs.toNat,.int .i64 0,.int .i64 0,.int .i64 0,.int .i64 0,.int .i64 0,.bool false]:=by simp [fcs,mcs,Vl.nil]
 have hbe:Below w2.heap.size w2 (w2.alloc (.cells #[.pointer (some ⟨E.hb,0,none⟩),vp,.int .i64 m.ret.kind,.int .i64 m.ret.cls,.int .i64 m.stack,.int .i64 m.locals,.int .i64 m.regs,vc,vh,.slice (some ⟨lb,0,none⟩) m.regs.toNat m.regs.toNat,.int .i64 0,.int .i64 0,.int .i64 0,.int .i64 0,.int .i64 0,.bool false] T)):=by exact Rd.byB
 refine ⟨H.below hbe,M.mono (hbe.mono (by omega)),?_,hB.alloc _,by show lb < _;simp;omega,World.ownsRow_nil _ _ _ _,⟨by show E.B≤w2.heap.size;omega,hlo⟩,⟨fun hk=>?_,fun hk=>?_,fun g hg=>by cases hg⟩,⟨by show w2.heap.size≠lb;omega,by simp [Value.ownBlock],by simp [Value.ownBlock]⟩⟩
 ·rw [hfc];exact Blk.made w2 _ T
 ·have:=hfar _ hk;simp only at this;omega
 ·have:=hfar _ hk;simp only at this;omega
set_option maxRecDepth 100000 in
theorem beginP (H:PH E w L h d) (X:Nat→Prop){va mv:Value}(args:List Vl) (hVM:VMe w E.B mv m) (ha:VS w X va args) (hl4:args.length≤4) (hml:m.regs < 91) (hsz:(size args:Int)≤m.regs) (hv:∀ v∈args,VtOk h.objs.length v)
  (b3 b4 b5:Nat) (c3:w.cell? ⟨b3,0,none⟩=some (.pointer (some ⟨E.hb,0,none⟩))) (c5:w.cell? ⟨b5,0,none⟩=some va)
  (vp vc vh:Value) (hmv:mv=.agg #[vp,.int .i64 m.ret.kind,.int .i64 m.ret.cls,.int .i64 m.stack,.int .i64 m.locals,.int .i64 m.regs,vc,vh]) (B4:Blk w b4 [vp,.int .i64 m.ret.kind,.int .i64 m.ret.cls,.int .i64 m.stack,.int .i64 m.locals,.int .i64 m.regs,vc,vh]) :
  Calls Tryz.prog 91 #[.pointer (some ⟨b3,0,none⟩),.pointer (some ⟨b4,0,none⟩),.pointer (some ⟨b5,0,none⟩)] w fun e w'=>∃ P:PS,e=.returned (frV P.cb)∧Below w.heap.size w w'∧ST E w' L P m d h (renter m args) (.slice none 0 0)∧w.heap.size≤P.cb∧w.heap.size≤P.lb:=by
 have HH:=Lib.hid H;have HA:=Lib.hid ha;have HV:=Lib.hid hv;have hEB:E.B≤w.heap.size:=by have:=H.base;omega
 obtain ⟨vp',vc',vh',hmv',oks,sps,sco,shs⟩:=hVM
 obtain ⟨rfl,rfl,rfl⟩:vp=vp'∧vc=vc'∧vh=vh':=by
  rw [hmv] at hmv';simp at hmv';exact ⟨hmv'.1,hmv'.2.1,hmv'.2.2⟩
 obtain ⟨pa,pcap,rfl,p1,p2,_⟩:=id sps;obtain ⟨ca,ccap,rfl,p3,p4,_⟩:=id sco;obtain ⟨ha',hcap,rfl,p5,p6,_⟩:=id shs;obtain ⟨ax,acap,rfl,a1,a2⟩:=ha.len;have M0:=Lib.hid sps;have M1:=Lib.hid sco;have M2:=Lib.hid shs;have m0:=(B4 0 (by simp)).1
 have m1:=(B4 1 (by simp)).1
 have m2:=(B4 2 (by simp)).1
 have m3:=(B4 3 (by simp)).1
 have m4:=(B4 4 (by simp)).1
 have m5:=(B4 5 (by simp)).1
 have m6:=(B4 6 (by simp)).1
 have m7:=(B4 7 (by simp)).1
 simp only [List.getElem_cons_zero,List.getElem_cons_succ] at m0 m1 m2 m3 m4 m5 m6 m7;have l3:=cell_lt c3;have l4:=cell_lt m0;have l5:=cell_lt c5;clear H hv ha hmv hmv' sps sco shs B4
 go_enter Tryz.func91,Tryz.ntmps91
 go_wp2_with fail
 generalize hW1:World.alloc w _=W1
 replace hW1:=Lib.hid hW1;have s1:W1.heap.size=w.heap.size+1:=by rw [← hW1.out];simp
 have hb1:Below w.heap.size w W1:=by rw [← hW1.out];exact Rd.byB
 have f0:W1.frozen? ⟨w.heap.size,0,none⟩=false:=by rw [← hW1.out];go_simp
 have v0:W1.cell? ⟨w.heap.size,0,none⟩=some Value.nilFunc:=by rw [← hW1.out];go_simp
 have f1:W1.frozen? ⟨w.heap.size,1,none⟩=false:=by rw [← hW1.out];go_simp
 have v1:W1.cell? ⟨w.heap.size,1,none⟩=some Value.nilFunc:=by rw [← hW1.out];go_simp
 have f2:W1.frozen? ⟨w.heap.size,2,none⟩=false:=by rw [← hW1.out];go_simp
 have v2:W1.cell? ⟨w.heap.size,2,none⟩=some Value.nilFunc:=by rw [← hW1.out];go_simp
 clear hW1;have q3:=kept hb1 l3 c3;have q5:=kept hb1 l5 c5;have r0:=kept hb1 l4 m0;have r1:=kept hb1 l4 m1;have r2:=kept hb1 l4 m2;have r3:=kept hb1 l4 m3;have r4:=kept hb1 l4 m4;have r5:=kept hb1 l4 m5;have r6:=kept hb1 l4 m6;have r7:=kept hb1 l4 m7;have hlo:((m.regs.toNat:Nat):Int)=m.regs:=by omega
 obtain ⟨w2,hrun,hblk,hbel,hlt⟩:=mkSlots m.regs.toNat (by omega) W1.drew
 rw [hlo] at hrun;have e1:W1.drew.heap.size=W1.heap.size:=rfl;rw [e1] at hblk hlt hbel hrun;have hb2:Below W1.heap.size W1 w2:=Below.trans (by exact Rd.byB) hbel
 have B2:=Lib.hid hblk;have t3:=kept hb2 (cell_lt q3) q3;have t5:=kept hb2 (cell_lt q5) q5;have t10:=kept hb2 (cell_lt r0) r0;have t11:=kept hb2 (cell_lt r1) r1;have t12:=kept hb2 (cell_lt r2) r2;have t13:=kept hb2 (cell_lt r3) r3;have t14:=kept hb2 (cell_lt r4) r4;have t15:=kept hb2 (cell_lt r5) r5;have t16:=kept hb2 (cell_lt r6) r6;have t17:=kept hb2 (cell_lt r7) r7;have g0:=frz_kept hb2 (by omega) f0
 have u0:=kept hb2 (by omega) v0
 have g1:=frz_kept hb2 (by omega) f1
 have u1:=kept hb2 (by omega) v1
 have g2:=frz_kept hb2 (by omega) f2
 have u2:=kept hb2 (by omega) v2
 have HB1:=Lib.hid hb1;have HB2:=Lib.hid hb2;have l31:=cell_lt q3;have l41:=cell_lt r0;have l32:=cell_lt t3;have l42:=cell_lt t10;have l52:=cell_lt t5;clear hblk hbel hb1 hb2 e1 m0 m1 m2 m3 m4 m5 m6 m7 c3 c5
 go_region
 generalize hWW:World.alloc w2 _=W
 have hbW:Below w2.heap.size w2 W:=by rw [← hWW];exact Rd.byB
 have s2:=HB2.out.size;have hb02:Below w.heap.size w w2:=HB1.out.trans (HB2.out.mono (by omega))
 have hcbW:w2.heap.size < W.heap.size:=by rw [← hWW];simp
 obtain ⟨P,hP⟩:∃ P:PS,Hid (P=⟨w2.heap.size,w.heap.size+1,.slice pa m.params.length pcap,.slice ca m.code.length ccap,.slice ha' m.handlers.length hcap⟩):=⟨_,Lib.hid rfl⟩
 have SN:ST E W L P m d h ⟨List.replicate m.regs.toNat Vl.nil,0,Vl.nil,Vl.nil⟩ (.slice none 0 0):=by
  have hB2:=B2.out;rw [s1] at hB2;rw [hP.out,← hWW];exact stNew (HH.out.below hb02) _ _ _ (w.heap.size+1) (Mi.mono (w:=w) ⟨M0.out,M1.out,M2.out,oks⟩ (hb02.mono hEB)) hB2 (by omega) (by omega) (fun k hk=>by have:=own_lo HH.out hk;omega) _
 have hPc:P.cb=w2.heap.size:=by rw [hP.out]
 have hPl:P.lb=w.heap.size+1:=by rw [hP.out]
 clear hP hWW q3 q5 r0 r1 r2 r3 r4 r5 r6 r7 B2 hrun;have d0:=frz_kept hbW (by omega) g0
 have d1:=frz_kept hbW (by omega) g1
 have d2:=frz_kept hbW (by omega) g2
 have e0:=kept hbW (by omega) u0
 have e1:=kept hbW (by omega) u1
 have e2:=kept hbW (by omega) u2
 have x5:=kept hbW l52 t5;have HBW:=Lib.hid (hb02.trans (hbW.mono (by omega)))
 have SN0:=Lib.hid SN;have VA:=Lib.hid (HA.out.next (Kp.of_below (X:=fun _=>False) HBW.out (Nat.le_refl _)) (fun _ _ e=>e.elim) (X':=fun k=>w.heap.size≤k) (fun b hb e=>by omega))
 have HW0:w.heap.size < W.heap.size:=by omega
 have hbWs:w2.heap.size+1≤W.heap.size:=by omega
 have hcbge:w.heap.size+1 < w2.heap.size:=by omega
 have lbw:l5=l5:=rfl;clear lbw t3 t5 t10 t11 t12 t13 t14 t15 t16 t17 g0 g1 g2 u0 u1 u2 f0 f1 f2 v0 v1 v2 hbW hb02 HB1 HB2 l31 l41 l32 l42 l52 SN hlt s1 hcbW s2;rw [← hPc,← hPl];have hp1:w.heap.size < P.lb:=by omega
 have hp2:P.lb < P.cb:=by omega
 have hp3:w.heap.size < P.cb:=by omega
 clear hPc hPl hcbge hbWs
 go_wp2_with fail
 have hmf:∀ (fn:Fn) (first cap:Array Value) (w:World),(Instr.makeFunc fn first cap).run Tryz.prog w=.ok (.func fn first cap) w:=fun _ _ _ _=>rfl
 have hst:=Lib.hid (fun n (hn:n≤args.length)=>(stores_ok (n:=h.objs.length) (args.take n) (List.replicate m.regs.toNat Vl.nil) 0 (fresh_ok _ _) (fun v hv=>HV.out v (List.mem_of_mem_take hv)) (by have:=size_take_leP (args:=args) n;simp;omega)))
 go_loopw [5,17] (fun a i wr=>∃ n:Nat,i=.int .i64 n∧a=.int .i64 (size (args.take n):Nat)∧n≤args.length∧Hid (Kp (· = P.lb) W wr)∧Hid (ST E wr L P m d h ⟨stores (List.replicate m.regs.toNat Vl.nil) 0 (args.take n),0,Vl.nil,Vl.nil⟩ (.slice none 0 0))) (fun _ i _=>args.length - (intOf i).toNat)
 case atStart=>exact ⟨0,rfl,by simp [size],Nat.zero_le _,Lib.hid (Kp.refl _ _),by simpa [stores] using SN0⟩
 case round =>
  obtain ⟨n,rfl,rfl,hn,KL,SL⟩:=hrel
  by_cases hlt:n < args.length
  ·obtain ⟨ab,ao,acap',heq,hc1,hc2,hab,hnx,hel⟩:=VA.out.form (by omega)
   simp only [Value.slice.injEq] at heq;obtain ⟨rfl,_,rfl⟩:=heq;have hn1:(n:Int) < args.length:=by omega
   obtain ⟨z0,z1⟩:=hel n hlt;have hane:ab≠P.lb:=fun e=>hnx (by omega)
   have y0:=KL.out.cell z0 (fun e=>hane e);have y1:=KL.out.cell z1 (fun e=>hane e);obtain ⟨v,hv⟩:=at_of hlt;rw [hv.out] at y0 y1
   have hfit:size (args.take n)+width v≤m.regs.toNat:=by
    have h1:=size_takeP args n hlt;have h2:=size_take_leP (args:=args) (n+1);rw [hv.out] at h1;omega
   have hstep:Hid (stores (List.replicate m.regs.toNat Vl.nil) 0 (args.take (n+1))=Run.store (stores (List.replicate m.regs.toNat Vl.nil) 0 (args.take n)) (size (args.take n)) v):=by show _=_;rw [stores_takeP hlt,hv.out]
   have hsum:Hid (size (args.take (n+1))=size (args.take n)+width v):=by show _=_;rw [size_takeP args n hlt,hv.out]
   obtain ⟨vk,vn⟩:=v;have c9:=SL.out.c9;have hcb:=SL.out.cbw;have hlbw:=SL.out.lbw;have ln:(stores (List.replicate m.regs.toNat Vl.nil) 0 (args.take n)).length=m.regs.toNat:=by rw [(hst.out n hn).2];simp
   simp only [ln] at c9;have STP:=Lib.hid (fun (w':World) (hB:Blk w' P.lb (vcells (stores (List.replicate m.regs.toNat Vl.nil) 0 (args.take n)))) (hb:P.lb < w'.heap.size)=>storeP hB hb (hst.out n hn).1.pair (size (args.take n)) ⟨vk,vn⟩ (by rw [ln];exact hfit) (by rw [ln];omega))
   rw [ln] at STP;have FB:=Lib.hid SL.out.loc;have hne1:P.cb≠P.lb:=by omega
   have hwl:wr.heap.size≠P.lb:=by omega
   have LN:=Lib.hid ln;have HFIT:=Lib.hid hfit;clear hel z0 z1 ln hfit hv
   go_wp2_with fail
   refine Drawn.hd (fun w'=>w'.cell? ⟨P.cb,9,none⟩=some (.slice (some ⟨P.lb,0,none⟩) m.regs.toNat m.regs.toNat)∧w'.cell? ⟨wr.heap.size,0,none⟩=some (.int .i64 vk)∧w'.cell? ⟨wr.heap.size,1,none⟩=some (.int .i64 vn)) (h:=fun hHeld=>?_);refine dT 0 21 ?_;refine dT 1 22 ?_;refine dT 2 23 ?_;refine dT 3 24 ?_;refine dT 4 25 ?_;refine dT 5 26 ?_;refine Drawn.cl 6 (fun K hK=>?_);go_simp
   go_at_call 52
   refine (STP.out _ (FB.out.next (Kp.of_below (B:=wr.heap.size) (X:=fun _=>False) (by exact Rd.byB) (Nat.le_refl _)) (fun e=>e)) (by simp;omega)).mono ?_
   rintro e w3 ⟨rfl,B3,K3⟩;have y9:=K3.cell (c:=P.cb) (o:=9) (v:=.slice (some ⟨P.lb,0,none⟩) m.regs.toNat m.regs.toNat) (by go_simp) hne1
   have y70:=K3.cell (c:=wr.heap.size) (o:=0) (v:=.int .i64 vk) (by go_simp) hwl
   have y71:=K3.cell (c:=wr.heap.size) (o:=1) (v:=.int .i64 vn) (by go_simp) hwl
   have K4:=Lib.hid ((Kp.of_below (w:=wr) (B:=wr.heap.size) (X:=(· = P.lb)) (by exact Rd.byB) (Nat.le_refl _)).trans K3 (fun _ e=>.inl e))
   have B4:=Lib.hid B3;have l71:=cell_lt y70;clear K3 B3 y0 y1 c9
   go_wp2_with fail
   refine Drawn.bk hK (hS:=by (try dsimp only);exact ⟨y9,y70,y71⟩) (h:=fun hHeld=>?_)
   clear hK K;refine dN ?_
   go_wp2_with fail
   go_at_call 53
   refine (slotsP ⟨vk,vn⟩ _).mono ?_;rintro e w4 ⟨rfl,hb4⟩;have hb4':Below w3.heap.size w3 w4:=Below.trans (by exact Rd.byB) (hb4.mono Rd.byL)
   have K5:=Lib.hid (K4.out.trans (Kp.of_below (X:=(· = P.lb)) hb4' (Nat.le_refl _)) (fun _ e=>.inl e));have B5:=Lib.hid (B4.out.next (Kp.of_below (X:=fun _=>False) hb4' (Nat.le_refl _)) (fun e=>e))
   go_wp2_with fail
   go_roundw
   case rel =>
    refine ⟨n+1,by go_num,?_,hlt,Lib.hid (KL.out.trans K5.out (fun _ e=>.inl e)),?_⟩
    ·rw [hsum.out];have hfi:=HFIT.out;have h2:wrap64 ((size (args.take n):Int)+(width ⟨vk,vn⟩:Nat))=((size (args.take n)+width ⟨vk,vn⟩:Nat):Int):=by rw [← Int.natCast_add];exact wrap64_id (by unfold Ok;omega)
     first | (simp only [Num.wrap_i64];rw [h2]) | rw [h2]
    ·rw [hstep.out];exact Lib.hid (SL.out.newLoc (by simp [store_len]) K5.out B5.out)
   case measure=>first | (simp [intOf];done) | (simp [intOf];omega)
  ·obtain rfl:n=args.length:=by omega
   rw [List.take_length] at SL;have hn1:¬ (args.length:Int) < args.length:=by omega
   have hwl:w.heap.size≠P.lb:=by omega
   have k0:=KL.out.frz d0 HW0 hwl;have k1:=KL.out.frz d1 HW0 hwl;have k2:=KL.out.frz d2 HW0 hwl;have j0:=KL.out.cell e0 hwl;have j1:=KL.out.cell e1 hwl;have j2:=KL.out.cell e2 hwl;have hbf:Below w.heap.size w wr:=HBW.out.trans (KL.out.below (by omega) (fun k e=>by omega))
   have hwr:=cell_lt j0
   have nfr:¬ Hpr.fo E L P (.slice none 0 0) w.heap.size:=fun hk=>by
    rcases hk with q | q | q | q
    ·have:=own_lo HH.out q;omega
    ·omega
    ·omega
    ·simp [Value.ownBlock] at q
   have SF:=SL;clear SL d0 d1 d2 e0 e1 e2
   go_wp2_with fail
   refine bodyPost_ret (v:=frV P.cb) (by unfold frV;simp [results,Tryz.results91,go_sem] <;> go_simp) rfl ?_
   refine ⟨P,rfl,by exact Rd.byB,?_,by omega,by omega⟩
   exact ((SF.out.res (by omega) nfr _ _).res (by omega) nfr _ _).res (by omega) nfr _ _
end
end Hpr
namespace Hpr
open Num Rd D Run Mem HierW Hpw
section
variable {E:Ev}{w w' w1 w2:World}{L L' L1:Lay}{h h' h1 h2:Hp}{d:Nat}{P:PS}{m m2:Me}{fr fr' fr1:Rf}{vs vs1:Value}
set_option maxRecDepth 100000 in
theorem invokeP (H:PH E w L h d) (X:Nat→Prop){va:Value}(args:List Vl){vp vc vh:Value}(hVM:VMe w E.B (.agg #[vp,.int .i64 m.ret.kind,.int .i64 m.ret.cls,.int .i64 m.stack,.int .i64 m.locals,.int .i64 m.regs,vc,vh]) m) (ha:VS w X va args) (r:Res Vl)
  (hC:∀ (W:World) (b3 b4 b5:Nat),Below w.heap.size w W→w.heap.size≤b3→w.heap.size≤b4→w.heap.size≤b5→W.cell? ⟨b3,0,none⟩=some (.pointer (some ⟨E.hb,0,none⟩))→W.cell? ⟨b5,0,none⟩=some va →
   Blk W b4 [vp,.int .i64 m.ret.kind,.int .i64 m.ret.cls,.int .i64 m.stack,.int .i64 m.locals,.int .i64 m.regs,vc,vh] →
   Calls Tryz.prog 50 #[.pointer (some ⟨E.hb,0,none⟩),.agg #[vp,.int .i64 m.ret.kind,.int .i64 m.ret.cls,.int .i64 m.stack,.int .i64 m.locals,.int .i64 m.regs,vc,vh],va,.func (.func 91) #[] #[.pointer (some ⟨b3,0,none⟩),.pointer (some ⟨b4,0,none⟩),.pointer (some ⟨b5,0,none⟩)]] W (InvR E L d W r)) :
  Calls Tryz.prog 45 #[.pointer (some ⟨E.hb,0,none⟩),.agg #[vp,.int .i64 m.ret.kind,.int .i64 m.ret.cls,.int .i64 m.stack,.int .i64 m.locals,.int .i64 m.regs,vc,vh],va] w (InvR E L d w r):=by
 have HH:=Lib.hid H;obtain ⟨vp',vc',vh',hmv',oks,sps,sco,shs⟩:=hVM
 obtain ⟨rfl,rfl,rfl⟩:vp=vp'∧vc=vc'∧vh=vh':=by
  simp at hmv';exact ⟨hmv'.1,hmv'.2.1,hmv'.2.2⟩
 obtain ⟨pa,pcap,rfl,p1,p2,_⟩:=id sps;obtain ⟨ca,ccap,rfl,p3,p4,_⟩:=id sco;obtain ⟨ha',hcap,rfl,p5,p6,_⟩:=id shs;obtain ⟨ax,acap,rfl,a1,a2⟩:=ha.len;have hmf:∀ (fn:Fn) (first cap:Array Value) (w:World),(Instr.makeFunc fn first cap).run Tryz.prog w=.ok (.func fn first cap) w:=fun _ _ _ _=>rfl
 have HC:=Lib.hid hC;have hold:=Lib.hid (fun (k:Nat) (hk:own E L k)=>(own_lo H hk).2);clear H hC ha hmv' sps sco shs
 go_enter Tryz.func45,Tryz.ntmps45
 go_wp2_with fail
 go_at_call 50
 refine (HC.out _ _ _ _ (by exact Rd.byB) (by omega) (by omega) (by omega) (by go_simp) (by go_simp) (blk8 (by go_simp) (by go_simp) (by go_simp) (by go_simp) (by go_simp) (by go_simp) (by go_simp) (by go_simp) (by go_simp) (by go_simp) (by go_simp) (by go_simp) (by go_simp) (by go_simp) (by go_simp) (by go_simp))).mono ?_
 rintro e w2 R;have nr:¬ own E L (w.heap.size+1+1+1):=fun hk=>by have:=hold.out _ hk;omega
 cases r with
 | thrown o h2 =>
  obtain ⟨⟨older,hol,rfl⟩,A⟩:=R;refine And.intro rfl ?_;exact ⟨⟨older,hol,rfl⟩,A.before (by exact Rd.byB)⟩
 | stop c h2 =>
  obtain ⟨⟨older,hol,rfl⟩,A⟩:=R;refine And.intro rfl ?_;exact ⟨⟨older,hol,rfl⟩,A.before (by exact Rd.byB)⟩
 | ok v h2 =>
  obtain ⟨vk,vn⟩:=v;obtain ⟨rfl,A⟩:=R;have x0:=A.cell (b:=w.heap.size+1+1+1) (o:=0) (v:=.int .i64 0) (by go_simp) nr
  have x1:=A.cell (b:=w.heap.size+1+1+1) (o:=1) (v:=.int .i64 0) (by go_simp) nr
  have f0:=A.frz (b:=w.heap.size+1+1+1) (o:=0) (x:=false) (by simp) (by go_simp) nr
  have f1:=A.frz (b:=w.heap.size+1+1+1) (o:=1) (x:=false) (by simp) (by go_simp) nr
  have hlt:=cell_lt x0;unfold vl;replace A:=Lib.hid A
  go_wp2_with fail
  refine bodyPost_ret (v:=.agg #[.int .i64 vk,.int .i64 vn]) (by simp [results,Tryz.results45,go_sem] <;> go_simp) rfl ?_
  exact ⟨rfl,A.out.res2 HH.out (by exact Rd.byB) (by omega) (by simp) _ _⟩
end
end Hpr
namespace Hpr
open Num Rd D Run Mem HierW Hpw
section
variable {E:Ev}{w w' w0 w1 w2 w6 w9:World}{L L' L1 L4:Lay}{h h' h0 h1 h2:Hp}{d d0 b1:Nat}{P:PS}{m:Me}{fr fr' fr1:Rf}{vs vs1:Value}
theorem Lft.ofS (K:Kp (own E L) w w9) (g1:w.heap.size≤P.cb) (g2:w.heap.size≤P.lb) (A:LftS E L P d (.slice none 0 0) w9 w6 h):Lft E L d w w6 h:=by
 have hs:=K.size;obtain ⟨L4,K4,N4,H4⟩:=A;refine ⟨L4,K.trans K4 (fun y hy=>?_),fun k hk=>(N4 k hk).imp id (fun q=>by omega),H4⟩
 rcases hy with e | e | e | e
 ·exact .inl e
 ·subst e;exact .inr g1
 ·subst e;exact .inr g2
 ·cases e
theorem Lft.ofS2 (H:PH E w L h0 d0) (K:Kp (own E L) w w9) (g1:w.heap.size≤P.cb) (g2:w.heap.size≤P.lb) (A:LftS E L P d (.slice none 0 0) w9 w6 h){b:Nat}(h1:w.heap.size≤b) (h2:b < w9.heap.size) (x y:Value):Lft E L d w ((w6.setCell ⟨b,0,none⟩ x).setCell ⟨b,1,none⟩ y) h:=by
 have hs:=K.size;have hEB:=H.base;obtain ⟨L4,K4,N4,H4⟩:=A
 have nb:¬ own E L4 b:=fun hk=>by
  rcases N4 b hk with q | q
  ·have:=own_lo H q;omega
  ·omega
 have K3:Kp (fun k=>k=b) w6 ((w6.setCell ⟨b,0,none⟩ x).setCell ⟨b,1,none⟩ y):=((Kp.refl (fun k=>k=b) w6).setCell (p:=⟨b,0,none⟩) (.inl rfl) x).setCell (p:=⟨b,1,none⟩) (.inl rfl) y;obtain ⟨L5,K5,N5,H5⟩:=Lft.ofS K g1 g2 ⟨L4,K4,N4,H4⟩
 have K6:Kp (own E L) w w6:=K.trans K4 (fun y hy=>by
  rcases hy with e | e | e | e
  ·exact .inl e
  ·subst e;exact .inr g1
  ·subst e;exact .inr g2
  ·cases e)
 exact ⟨L4,(K6.setCell (p:=⟨b,0,none⟩) (.inr h1) x).setCell (p:=⟨b,1,none⟩) (.inr h1) y,fun k hk=>(N4 k hk).imp id (fun q=>by omega),H4.keep K3 (fun k e=>by subst e;exact ⟨by omega,nb⟩)⟩
theorem notFo (H:PH E w L h0 d0) (g1:b1≤P.cb) (g2:b1≤P.lb){b:Nat}(h1:w.heap.size≤b) (h2:b < b1):¬ Hpr.fo E L P (.slice none 0 0) b:=fun hk=>by
 rcases hk with e | e | e | e
 ·have:=own_lo H e;omega
 ·omega
 ·omega
 ·cases e
end
end Hpr
namespace Hpr
open Num Rd D Run Mem HierW Hpw
section
variable {E:Ev}{w w' w1 w2:World}{L L' L1:Lay}{h h' h1 h2:Hp}{d:Nat}{P:PS}{m m2:Me}{fr fr' fr1:Rf}{vs vs1:Value}
set_option maxRecDepth 100000 in
theorem callRun (hm:Hier.may E.f.classes=true) (H:PH E w L h d) (X:Nat→Prop){va:Value}(args:List Vl){vp vc vh:Value}(hVM:VMe w E.B (.agg #[vp,.int .i64 m.ret.kind,.int .i64 m.ret.cls,.int .i64 m.stack,.int .i64 m.locals,.int .i64 m.regs,vc,vh]) m) (ha:VS w X va args) (hlen:args.length=m.params.length) (h4:args.length≤4) (hv:∀ v∈args,VtOk h.objs.length v) (hc:allOf E.f.classes h args m.params=true) (hd:d < 20) (hX:∀ j,own E L j→X j) (hml:m.regs < 91) (hsz:(size args:Int)≤m.regs) (b3 b4 b5:Nat) (hb3:¬ own E L b3) (hb4:¬ own E L b4) (hb5:¬ own E L b5) (c3:w.cell? ⟨b3,0,none⟩=some (.pointer (some ⟨E.hb,0,none⟩))) (c5:w.cell? ⟨b5,0,none⟩=some va) (B4:Blk w b4 [vp,.int .i64 m.ret.kind,.int .i64 m.ret.cls,.int .i64 m.stack,.int .i64 m.locals,.int .i64 m.regs,vc,vh]) (r:Res Vl) (HO:HpOk E.f.classes E.input E.fuel h) (HS0:RfOk m h.objs.length (renter m args)) (g:Nat) (hr:loop RM E.f E.input E.fuel g (d+1) m (renter m args) h=r) (hg:E.fuel < g+h.steps) (FS:FiR E.f) (hmm:m∈E.f.methods) (hfu:E.fuel≤60000) (hin:E.input.length≤1000) (KM:MachOk RM RfOk E.f E.input E.fuel) (HIN:Hid (∀ (g:Nat) (h1:Hp),E.fuel < g+h1.steps→InvOk E (d+1) g h1)) :
  Calls Tryz.prog 50 #[.pointer (some ⟨E.hb,0,none⟩),.agg #[vp,.int .i64 m.ret.kind,.int .i64 m.ret.cls,.int .i64 m.stack,.int .i64 m.locals,.int .i64 m.regs,vc,vh],va,.func (.func 91) #[] #[.pointer (some ⟨b3,0,none⟩),.pointer (some ⟨b4,0,none⟩),.pointer (some ⟨b5,0,none⟩)]] w (InvR E L d w r):=by
 have HH:=Lib.hid H;have hd1:d≤1000:=by omega
 have HVM:=Lib.hid hVM;have HB4:=Lib.hid B4;have HC3:=Lib.hid c3;have HC5:=Lib.hid c5;clear c3 c5 B4;have HRR:=Lib.hid hr;clear hr;obtain ⟨vp',vc',vh',hmv',oks,sps,sco,shs⟩:=hVM
 obtain ⟨rfl,rfl,rfl⟩:vp=vp'∧vc=vc'∧vh=vh':=by
  simp at hmv';exact ⟨hmv'.1,hmv'.2.1,hmv'.2.2⟩
 obtain ⟨pa,pcap,rfl,p1,p2,pel⟩:=id sps;obtain ⟨ca,ccap,rfl,p3,p4,_⟩:=id sco;obtain ⟨ha',hcap,rfl,p5,p6,_⟩:=id shs;have HA:=Lib.hid ha;obtain ⟨ax,acap,rfl,a1,a2⟩:=ha.len;have PEL:=Lib.hid pel;have hlq:((args.length:Int)==(m.params.length:Int))=true:=by rw [hlen];simp
 have hEB:E.B≤w.heap.size:=by have:=H.base;omega
 clear H ha hmv' sps sco shs pel
 go_enter_defers Tryz.func50,Tryz.ntmps50
 go_wp2_with fail
 refine (mustT _).mono ?_;rintro e w2 ⟨rfl,rfl⟩
 go_wp2_with fail
 generalize hWW:World.alloc _ (.cells #[.int .i64 0,.int .i64 0] 46)=W
 replace hWW:=Lib.hid hWW;have e0:W.cell? ⟨w.heap.size,0,none⟩=some (.pointer (some ⟨E.hb,0,none⟩)):=by rw [← hWW.out];go_simp
 have HB:=Lib.hid (show Below w.heap.size w W from by rw [← hWW.out];exact Rd.byB)
 have hsW:w.heap.size+2 < W.heap.size:=by rw [← hWW.out];simp
 have X0:=Lib.hid (show Blk W w.heap.size [.pointer (some ⟨E.hb,0,none⟩)] from by rw [← hWW.out];exact ((Blk.made w [.pointer (some ⟨E.hb,0,none⟩)] _).alloc _).alloc _)
 have X1:=Lib.hid (show Blk W (w.heap.size+1) [.slice pa m.params.length pcap,.int .i64 m.ret.kind,.int .i64 m.ret.cls,.int .i64 m.stack,.int .i64 m.locals,.int .i64 m.regs,.slice ca m.code.length ccap,.slice ha' m.handlers.length hcap] from by rw [← hWW.out];exact (Blk.made1 w _ [.slice pa m.params.length pcap,.int .i64 m.ret.kind,.int .i64 m.ret.cls,.int .i64 m.stack,.int .i64 m.locals,.int .i64 m.regs,.slice ca m.code.length ccap,.slice ha' m.handlers.length hcap] _).alloc _)
 have X2:=Lib.hid (show Blk W (w.heap.size+2) [.int .i64 0,.int .i64 0] from by rw [← hWW.out];exact Blk.made2 w _ _ [.int .i64 0,.int .i64 0] _)
 clear hWW;have HC:=Lib.hid hc;clear hc
 go_loopw [28] (fun i wr=>∃ n:Nat,i=.int .i64 n∧n≤args.length∧Hid (Below W.heap.size W wr)∧Hid (allOf E.f.classes h args m.params=allOf E.f.classes h (args.drop n) (m.params.drop n))) (fun i _=>args.length - (intOf i).toNat)
 case atStart=>exact ⟨0,rfl,Nat.zero_le _,Lib.hid (Below.refl _ _),Lib.hid rfl⟩
 case round =>
  obtain ⟨n,rfl,hn,BW,HD⟩:=hrel
  by_cases hlt:n < args.length
  ·have hltp:n < m.params.length:=by omega
   have hni:(n:Int) < m.params.length:=by omega
   have hni2:(n:Int) < args.length:=by omega
   obtain ⟨pb,po,rfl,hpb,hpe⟩:=PEL.out n hltp;obtain ⟨ab,ao,acap',heq,hc1,hc2,hab,hnx,hel⟩:=HA.out.form (by omega)
   simp only [Value.slice.injEq] at heq;obtain ⟨rfl,_,rfl⟩:=heq;obtain ⟨z0,z1⟩:=hel n hlt;obtain ⟨v,hvv⟩:=at_of hlt;obtain ⟨t,htt⟩:=at_of hltp;rw [hvv.out] at z0 z1;rw [htt.out] at hpe;obtain ⟨y0,y1,_,_⟩:=hpe
   have hv3:v.kind=3→v.n < h.objs.length:=fun e=>by
    have hmem:v∈args:=by rw [← hvv.out];exact List.getElem_mem hlt
    exact ((hv v hmem).1.2.2.2 e).2
   have HBr:=Lib.hid (HB.out.trans (BW.out.mono (by omega)))
   have x0:=kept HBr.out (by omega) z0
   have x1:=kept HBr.out (by omega) z1
   have t0:=kept HBr.out (by omega) y0
   have t1:=kept HBr.out (by omega) y1
   have e0':=kept BW.out (by omega) e0
   have q0:=cell_lt x0;have q1:=cell_lt t0;have q2:=cell_lt e0';obtain ⟨tk,tc⟩:=t;obtain ⟨vk,vn⟩:=v;clear z0 z1 y0 y1 hel e0;simp only at t0 t1 x0 x1
   go_wp2_with fail
   refine wp_region_noPanic ?_;refine Drawn.hd (fun w'=>w'.cell? ⟨w.heap.size,0,none⟩=some (.pointer (some ⟨E.hb,0,none⟩))∧w'.cell? ⟨ab,ao+n*2,none⟩=some (.int .i64 vk)∧w'.cell? ⟨ab,ao+n*2+1,none⟩=some (.int .i64 vn)∧w'.cell? ⟨wr.heap.size,0,none⟩=some (.int .i64 tk)∧w'.cell? ⟨wr.heap.size,1,none⟩=some (.int .i64 tc)) (h:=fun hHeld=>?_);refine Drawn.tk 0 (some 33) rfl rfl (by assumption) ?_
   try simp only [Act.put,List.setIfInBounds_toArray,List.set_cons_zero,List.set_cons_succ]
   refine Drawn.tk 1 (some 34) rfl rfl (by assumption) ?_
   try simp only [Act.put,List.setIfInBounds_toArray,List.set_cons_zero,List.set_cons_succ]
   refine Drawn.tk 2 (some 35) rfl rfl (by assumption) ?_
   try simp only [Act.put,List.setIfInBounds_toArray,List.set_cons_zero,List.set_cons_succ]
   refine Drawn.tk 3 (some 36) rfl rfl (by assumption) ?_
   try simp only [Act.put,List.setIfInBounds_toArray,List.set_cons_zero,List.set_cons_succ]
   refine Drawn.tk 4 (some 37) rfl rfl (by assumption) ?_
   try simp only [Act.put,List.setIfInBounds_toArray,List.set_cons_zero,List.set_cons_succ]
   refine Drawn.tk 5 (some 38) rfl rfl (by assumption) ?_
   try simp only [Act.put,List.setIfInBounds_toArray,List.set_cons_zero,List.set_cons_succ]
   refine Drawn.cl 6 (fun K hK=>?_);go_simp;refine (of E L h d ⟨vk,vn⟩ ⟨tk,tc⟩ _ (HH.out.below (w':=(wr.alloc (.cells #[.int .i64 tk,.int .i64 tc] 50)).drew) (by have hb:=HBr.out;exact Rd.byB)) hm hv3).mono ?_
   rintro e w3 ⟨rfl,hb3⟩;obtain ⟨p,hp⟩:∃ p,Hid (ofT E.f.classes h ⟨vk,vn⟩ ⟨tk,tc⟩=p):=⟨_,Lib.hid rfl⟩;rw [hp.out];have kk:∀ (b o:Nat) (u:Value),World.cell? _ ⟨b,o,none⟩=some u→w3.cell? ⟨b,o,none⟩=some u:=fun b o u hc=>kept hb3 (cell_lt hc) hc;have k0:=kk w.heap.size 0 (.pointer (some ⟨E.hb,0,none⟩)) (by go_simp)
   have k1:=kk ab (ao+n*2) (.int .i64 vk) (by go_simp)
   have k2:=kk ab (ao+n*2+1) (.int .i64 vn) (by go_simp)
   have k3:=kk wr.heap.size 0 (.int .i64 tk) (by go_simp)
   have k4:=kk wr.heap.size 1 (.int .i64 tc) (by go_simp)
   have HB3:=Lib.hid (show Below wr.heap.size wr w3 from Below.trans (by exact Rd.byB) (hb3.mono Rd.byL))
   clear kk hb3
   go_wp2_with fail
   refine Drawn.bk hK (hS:=by (try dsimp only);exact ⟨k0,k1,k2,k3,k4⟩) (h:=fun hHeld=>?_)
   clear hK K;refine Drawn.cl 7 (fun K hK=>?_);go_simp
   cases p with
   | false =>
    exfalso;have h1:=HD.out;rw [HC.out,List.drop_eq_getElem_cons hlt,List.drop_eq_getElem_cons hltp,hvv.out,htt.out] at h1;simp [allOf,hp.out] at h1
   | true =>
    refine (mustT _).mono ?_;rintro e w4 ⟨rfl,rfl⟩
    go_wp2_with fail
    refine Drawn.bk hK (hS:=by (try dsimp only);exact ⟨k0,k1,k2,k3,k4⟩) (h:=fun hHeld=>?_)
    clear hK K;refine dN ?_;refine NoPanic.normal ?_
    go_wp2_with fail
    go_roundw
    case rel =>
     refine ⟨n+1,by go_num,hlt,Lib.hid (BW.out.trans (HB3.out.mono BW.out.size)),?_⟩
     show _=_
     rw [HD.out,List.drop_eq_getElem_cons hlt,List.drop_eq_getElem_cons hltp,hvv.out,htt.out];simp [allOf,hp.out]
    case measure=>first | (simp [intOf];done) | (simp [intOf];omega)
  ·obtain rfl:n=args.length:=by omega
   have hn2:¬ ((args.length:Int) < m.params.length):=by omega
   have hn3:¬ (args.length < m.params.length):=by omega
   have HBr:=Lib.hid (HB.out.trans (BW.out.mono (by omega)))
   have c10:=(HH.out.below HBr.out).c10;have e0':=kept BW.out (by omega) e0
   have hdd:decide ((20:Int)≤d)=false:=by simp;omega
   have f10:=(HH.out.below HBr.out).fz 10 (by decide)
   have hhb:=(HH.out.below HBr.out).hbw;have hwd:IntKind.i64.wrap ((d:Int)+1)=((d+1:Nat):Int):=by rw [Num.wrap_i64,wrap64_id (by unfold Ok;omega)];omega
   have hwd2:wrap64 ((d:Int)+1)=((d+1:Nat):Int):=by rw [wrap64_id (by unfold Ok;omega)];omega
   have hmf:∀ (fn:Fn) (first cap:Array Value) (w:World),(Instr.makeFunc fn first cap).run Tryz.prog w=.ok (.func fn first cap) w:=fun _ _ _ _=>rfl
   clear e0
   go_wp2_with fail
   have hbE:=(HH.out).base;have KW:=Lib.hid (show Kp (· = E.hb) w (wr.setCell ⟨E.hb,10,none⟩ (.int .i64 ((d:Int)+1))) from (Kp.of_below (X:=(· = E.hb)) HBr.out (Nat.le_refl _)).setCell (p:=⟨E.hb,10,none⟩) (.inl rfl) _)
   have HD1:=Lib.hid (show PH E (wr.setCell ⟨E.hb,10,none⟩ (.int .i64 ((d:Int)+1))) L h (d+1) from by
    have:=(HH.out.below HBr.out).deep (d+1)
    rw [show ((d+1:Nat):Int)=(d:Int)+1 from by omega] at this
    exact this)
   have ne3:b3≠E.hb:=fun e=>hb3 (.inl e);have ne4:b4≠E.hb:=fun e=>hb4 (.inl e);have ne5:b5≠E.hb:=fun e=>hb5 (.inl e);refine (beginP HD1.out X args (HVM.out.mono (KW.out.below hEB (fun k e=>by rw [e];exact hbE.1)) (Nat.le_refl _)) (HA.out.next KW.out (fun b _ e=>by rw [e];exact hX _ (.inl rfl)) (fun _ _ e=>e)) h4 hml hsz hv b3 b4 b5 (KW.out.cell HC3.out ne3) (KW.out.cell HC5.out ne5) _ _ _ rfl (HB4.out.next KW.out ne4)).mono ?_
   rintro e w5 ⟨P,rfl,hb5,S5,g1,g2⟩;unfold frV;have e0w:=kept hb5 (by have:=cell_lt e0';simp;omega) (show World.cell? (wr.setCell ⟨E.hb,10,none⟩ (.int .i64 ((d:Int)+1))) ⟨w.heap.size,0,none⟩=some (.pointer (some ⟨E.hb,0,none⟩)) from by go_simp)
   replace S5:=Lib.hid S5;replace hb5:=Lib.hid hb5
   go_wp2_with fail
   generalize hW9:World.alloc w5 _=W9
   replace hW9:=Lib.hid hW9;have t0:W9.cell? ⟨w5.heap.size,0,none⟩=some (.func (.func 92) #[.pointer (some ⟨P.cb,0,none⟩)] #[]):=by rw [← hW9.out];go_simp
   have t1:W9.cell? ⟨w5.heap.size,1,none⟩=some (.func (.func 93) #[.pointer (some ⟨P.cb,0,none⟩)] #[]):=by rw [← hW9.out];go_simp
   have t2:W9.cell? ⟨w5.heap.size,2,none⟩=some (.func (.func 94) #[.pointer (some ⟨P.cb,0,none⟩)] #[]):=by rw [← hW9.out];go_simp
   have hb9:Below w5.heap.size w5 W9:=by rw [← hW9.out];exact Rd.byB
   have S9:=Lib.hid (S5.out.below hb9);have e09:=kept hb9 (cell_lt e0w) e0w;clear hW9;have K9:=Lib.hid (show Kp (own E L) w W9 from ((KW.out.mono (fun k e=>.inl e)).trans (Kp.of_below (X:=fun _=>False) hb5.out (Nat.le_refl _)) (fun _ e=>e.elim)).trans (Kp.of_below (X:=fun _=>False) hb9 (Nat.le_refl _)) (fun _ e=>e.elim));have hbig:W.heap.size≤(wr.setCell ⟨E.hb,10,none⟩ (.int .i64 ((d:Int)+1))).heap.size:=by simp;exact BW.out.size
   have hlow:=Lib.hid (fun (b:Nat) (cs:List Value) (l1:w.heap.size≤b) (l2:b < W.heap.size) (hB:Blk W b cs)=>(show Blk W9 b cs∧¬ Hpr.fo E L P (.slice none 0 0) b from
    ⟨((((hB.next (Kp.of_below (X:=fun _=>False) BW.out (Nat.le_refl _)) (fun e=>e)).far (b2:=E.hb) (o2:=10) (by have:=HH.out.hbw;omega) _).next (Kp.of_below (X:=fun _=>False) hb5.out (Nat.le_refl _)) (fun e=>e)).next (Kp.of_below (X:=fun _=>False) hb9 (Nat.le_refl _)) (fun e=>e)),notFo HH.out g1 g2 l1 (by omega)⟩))
   have gw:w.heap.size≤P.cb∧w.heap.size≤P.lb:=by omega
   have hs9:w.heap.size+2 < W9.heap.size:=by have q1:=hb5.out.size;have q2:=hb9.size;omega
   go_loopw [15] (fun _ wr2=>∃ L2 h2 fr vs2 g2,Hid (Gr E L P (.slice none 0 0) W9 L2 vs2 wr2)∧Hid (ST E wr2 L2 P m (d+1) h2 fr vs2)∧Hid (HpOk E.f.classes E.input E.fuel h2)∧Hid (RfOk m h2.objs.length fr)∧Hid (loop RM E.f E.input E.fuel g2 (d+1) m fr h2=r)∧E.fuel < g2+h2.steps) (fun _ wr2=>E.fuel - (match wr2.cell? ⟨E.hb,7,none⟩ with | some (.int _ n)=>n.toNat | _=>0))
   case atStart=>exact ⟨L,h,renter m args,.slice none 0 0,g,Lib.hid ⟨Kp.refl _ _,fun _ e=>.inl e,fun _ e=>.inl e⟩,S9,Lib.hid HO,Lib.hid HS0,HRR,hg⟩
   case round =>
    obtain ⟨L2,h2,fr,vs2,g2,G2,S2,HO2,SO2,HR2,hg2⟩:=hrel;obtain ⟨g3,rfl⟩:∃ g3,g2=g3+1:=⟨g2 - 1,by have:=HO2.out.steps;omega⟩
    have nfF:=S5.out.fo_new (Nat.le_refl _);have lF:=cell_lt t0;have y0:=G2.out.cell nfF t0;have y1:=G2.out.cell nfF t1;have y2:=G2.out.cell nfF t2;have nfF2:=G2.out.nf lF nfF;obtain ⟨ou,hou⟩:∃ x,Hid (outS RM E.f E.input E.fuel g3 (d+1) m fr h2=x):=⟨_,Lib.hid rfl⟩
    have hdo:∀ (W L3:_) (vs3:Value),ST E W L3 P m (d+1) h2 fr vs3→Calls Tryz.prog 92 #[.pointer (some ⟨P.cb,0,none⟩)] W (DoR E L3 P m (d+1) vs3 fr W ou):=fun W L3 vs3 hS=>by
     rw [← hou.out];exact doP FS hmm hS HO2.out SO2.out hfu hin g3 (HIN.out g3 (stepped h2) (by show E.fuel < g3+(h2.steps+1);omega))
    have HDO:=Lib.hid hdo;have SS2:=Lib.hid S2.out;clear hdo S2 t0 t1 t2;have lF2:=cell_lt y0
    go_wp2_with fail
    refine (tryP (w0:=wr) (b11:=w5.heap.size) (b12:=wr.heap.size) (b13:=wr.heap.size+1) SS2.out (by exact Rd.byB) ⟨Nat.le_refl _,by simp;omega⟩ ⟨by omega,by simp⟩ (by omega) (by go_simp) (by go_simp) (by go_simp) (by go_simp) (by go_simp) (by go_simp) (by go_simp) ou (fun W hb=>HDO.out W _ _ (SS2.out.below (Below.trans (by exact Rd.byB) (hb.mono Rd.byL))))).mono ?_
    rintro e w6 R
    cases ou with
    | go fr' h' =>
     obtain ⟨rfl,z12,A⟩:=R
     have hok:h2.steps < E.fuel∧OutOk RfOk E.f E.input E.fuel m { h2 with steps:=h2.steps+1 } (.go fr' h'):=by
      rcases outS_ok (g:=g3) (d:=d+1) KM hmm HO2.out SO2.out with ⟨c,h9,e9⟩ | q
      ·rw [hou.out] at e9;cases e9
      ·rw [hou.out] at q;exact q
     obtain ⟨hq1,⟨hq2,_,hq3⟩,hq4⟩:=hok
     have hrn:loop RM E.f E.input E.fuel g3 (d+1) m fr' h'=r:=by
      have e:=HR2.out;rw [loop_out rm_same,hou.out] at e;exact e
     have c7a:=SS2.out.H.c7;obtain ⟨L4,v4,G4,S4⟩:=A.opn;have c7b:=S4.H.c7;have hq3':h2.steps+1≤h'.steps:=hq3;have HX1:=Lib.hid (show Gr E L P (.slice none 0 0) W9 L4 v4 w6 from G2.out.trans G4);have HX2:=Lib.hid S4;have HX3:=Lib.hid hrn;have HX4:=Lib.hid hq2;have HX5:=Lib.hid hq4;clear A G4 S4 hrn hq2 hq4 hq3
     go_wp2_with fail
     refine ⟨⟨L4,h',fr',v4,g3,HX1,HX2,HX4,HX5,HX3,by omega⟩,?_⟩
     rw [c7a,c7b];simp only [Int.toNat_natCast];omega
    | back v h' =>
     obtain ⟨rfl,z12,z130,z131,st,A⟩:=R
     have hrn:r=.ok v h':=by
      have e:=HR2.out;rw [loop_out rm_same,hou.out] at e;exact e.symm
     obtain ⟨vk,vn⟩:=v;simp only at z130 z131;have A9:=Lib.hid (G2.out.comp A);obtain ⟨L4,v4,G4,S4⟩:=A9.out.opn;obtain ⟨q0,n0⟩:=hlow.out _ _ (by omega) (by omega) X0.out
     obtain ⟨q2,n2⟩:=hlow.out _ _ (by omega) (by omega) X2.out
     have b0c:=((q0.next G4.kp n0) 0 (by simp)).1
     have r0:=((q2.next G4.kp n2) 0 (by simp)).1
     have r1:=((q2.next G4.kp n2) 1 (by simp)).1
     have f0:=((q2.next G4.kp n2) 0 (by simp)).2
     have f1:=((q2.next G4.kp n2) 1 (by simp)).2
     simp only [List.getElem_cons_zero,List.getElem_cons_succ] at b0c r0 r1;have A10:=Lib.hid (Lft.ofS2 HH.out K9.out gw.1 gw.2 A9.out.stop (b:=w.heap.size+1+1) (by omega) (by omega) (.int .i64 vk) (.int .i64 vn))
     clear A G4 S4 q0 q2 n0 n2;have l0:=cell_lt b0c;have l2:=cell_lt r0;have nh:w.heap.size+1+1≠E.hb:=by have:=HH.out.hbw;omega
     have nh2:=nh.symm
     go_wp2_with fail
     obtain ⟨L5,K5,N5,H5⟩:=A10.out;refine leaves_cons (f:=99) (args:=#[.pointer (some ⟨w.heap.size,0,none⟩)]) (by simp) (by simp [go_sem]) ?_
     refine (leaveP w.heap.size _ H5 hd1 (by go_simp)).mono ?_
     rintro e u' w'' ⟨rfl,rfl,rfl⟩;simp [Leaves,settle,results,Tryz.results50,go_sem,r0,r1,l2,nh,nh2]
     have hret:=Lib.hid (show InvR E L d w r (Ending.returned (.agg #[.int .i64 vk,.int .i64 vn])) ((((w6.setCell ⟨w.heap.size+1+1,0,none⟩ (.int .i64 vk)).setCell ⟨w.heap.size+1+1,1,none⟩ (.int .i64 vn)).setCell ⟨E.hb,10,none⟩ (.int .i64 d))) from by
      rw [hrn]
      exact ⟨rfl,Lft.deep ⟨L5,K5,N5,H5⟩ d⟩)
     exact hret.out
    | thrown o h' =>
     obtain ⟨rfl,z12,st,L4,v4,G4a,S4a,nb12⟩:=R
     have hok:h2.steps < E.fuel∧OutOk RfOk E.f E.input E.fuel m { h2 with steps:=h2.steps+1 } (.thrown o h'):=by
      rcases outS_ok (g:=g3) (d:=d+1) KM hmm HO2.out SO2.out with ⟨c,h9,e9⟩ | q
      ·rw [hou.out] at e9;cases e9
      ·rw [hou.out] at q;exact q
     obtain ⟨hq1,⟨hq2,hqo,hq3⟩,hq4⟩:=hok;have hq3':h2.steps+1≤h'.steps:=hq3;have c7a:=SS2.out.H.c7;have GX:=Lib.hid (show Gr E L P (.slice none 0 0) W9 L4 v4 w6 from G2.out.trans G4a);obtain ⟨q0,n0⟩:=hlow.out _ _ (by omega) (by omega) X0.out
     obtain ⟨q1,n1⟩:=hlow.out _ _ (by omega) (by omega) X1.out
     have b0c:=((q0.next GX.out.kp n0) 0 (by simp)).1
     have mX:=q1.next GX.out.kp n1;have m0:=(mX 0 (by simp)).1
     have m1:=(mX 1 (by simp)).1
     have m2:=(mX 2 (by simp)).1
     have m3:=(mX 3 (by simp)).1
     have m4:=(mX 4 (by simp)).1
     have m5:=(mX 5 (by simp)).1
     have m6:=(mX 6 (by simp)).1
     have m7:=(mX 7 (by simp)).1
     simp only [List.getElem_cons_zero,List.getElem_cons_succ] at b0c m0 m1 m2 m3 m4 m5 m6 m7;have y1':=G4a.cell nfF2 y1;have y2':=G4a.cell nfF2 y2;have SX:=Lib.hid (show ST E w6 L4 P m (d+1) h' ⟨fr.regs,fr.at_,Vl.nil,Vl.nil⟩ v4 from S4a)
     have shX:=Lib.hid (show Sl 4 EHd w6 E.B (.slice ha' m.handlers.length hcap) m.handlers from by
      obtain ⟨L5,K5,_,_⟩:=Lft.ofS K9.out gw.1 gw.2 (GX.out.lft S4a).stop;obtain ⟨vp9,vc9,vh9,e9,_,_,_,shs9⟩:=HVM.out;simp at e9;obtain ⟨_,_,rfl⟩:=e9
      exact shs9.mono mHd (K5.below hEB (fun k hk=>(own_lo HH.out hk).1)) (Nat.le_refl _))
     obtain ⟨x,hx⟩:∃ x,Hid (handler E.f.classes m fr.at_ (obj h' o).cls=x):=⟨_,Lib.hid rfl⟩;have l0:=cell_lt b0c;have l1:=cell_lt m0;have l5:=cell_lt y1';have l12:=cell_lt z12;clear q0 q1 n0 n1 mX G4a S4a
     cases x with
     | none =>
      have hrr:r=.thrown o h':=by
       have ea:after RM E.f m fr o h'=.thrown:=by
        unfold after;rw [show RM.at_ fr=fr.at_ from rfl,hx.out]
       have e:=HR2.out;rw [loop_out rm_same,hou.out] at e;simp only [ea] at e;exact e.symm
      go_wp2_with fail
      refine wp_region_noPanic ?_;refine Drawn.hd (fun w'=>w'.cell? ⟨w.heap.size,0,none⟩=some (.pointer (some ⟨E.hb,0,none⟩))∧w'.cell? ⟨w.heap.size+1,0,none⟩=some (.slice pa m.params.length pcap)∧w'.cell? ⟨w.heap.size+1,1,none⟩=some (.int .i64 m.ret.kind)∧w'.cell? ⟨w.heap.size+1,2,none⟩=some (.int .i64 m.ret.cls)∧w'.cell? ⟨w.heap.size+1,3,none⟩=some (.int .i64 m.stack)∧w'.cell? ⟨w.heap.size+1,4,none⟩=some (.int .i64 m.locals)∧w'.cell? ⟨w.heap.size+1,5,none⟩=some (.int .i64 m.regs)∧w'.cell? ⟨w.heap.size+1,6,none⟩=some (.slice ca m.code.length ccap)∧w'.cell? ⟨w.heap.size+1,7,none⟩=some (.slice ha' m.handlers.length hcap)∧w'.cell? ⟨w5.heap.size,1,none⟩=some (.func (.func 93) #[.pointer (some ⟨P.cb,0,none⟩)] #[])) (h:=fun hHeld=>?_);refine dT 0 66 ?_;refine dT 1 67 ?_;refine dT 2 68 ?_;refine dT 3 69 ?_;refine dT 5 71 ?_;refine Drawn.cl 4 (fun K hK=>?_);go_simp;refine (atP (SX.out.below (w':=w6.drew) (by exact Rd.byB))).mono ?_
      rintro e w7 ⟨rfl,rfl⟩
      go_wp2_with fail
      refine Drawn.bk hK (h:=fun hHeld=>?_);clear hK K;refine Drawn.cl 6 (fun K hK=>?_);go_simp;refine (caughtP (SX.out.below (w':=w6.drew) (by exact Rd.byB)).H hq4 FS.may m (shX.out.mono mHd (by exact Rd.byB) (Nat.le_refl _)) fr.at_ (.tuple #[.int .i64 0,.bool false]) (by rw [hx.out];rfl)).mono ?_
      rintro e w8 ⟨rfl,hb8⟩;have kk:∀ (b o:Nat) (u:Value),World.cell? _ ⟨b,o,none⟩=some u→w8.cell? ⟨b,o,none⟩=some u:=fun b o u hc=>kept hb8 (cell_lt hc) hc;have v0:=kk w.heap.size 0 _ b0c;have v10:=kk (w.heap.size+1) 0 _ m0;have v11:=kk (w.heap.size+1) 1 _ m1;have v12:=kk (w.heap.size+1) 2 _ m2;have v13:=kk (w.heap.size+1) 3 _ m3;have v14:=kk (w.heap.size+1) 4 _ m4;have v15:=kk (w.heap.size+1) 5 _ m5;have v16:=kk (w.heap.size+1) 6 _ m6;have v17:=kk (w.heap.size+1) 7 _ m7;have va:=kk w5.heap.size 1 _ y1';have vb:=kk w5.heap.size 2 _ y2';have zb:=kk wr.heap.size 0 _ z12;have HB8:=Lib.hid (show Below w6.heap.size w6 w8 from Below.trans (by exact Rd.byB) (hb8.mono Rd.byL))
      clear kk hb8
      go_wp2_with fail
      refine Drawn.bk hK (hS:=by (try dsimp only);exact ⟨v0,v10,v11,v12,v13,v14,v15,v16,v17,va⟩) (h:=fun hHeld=>?_)
      clear hK K;refine dT 7 65 ?_;refine dT 8 73 ?_;refine dT 9 74 ?_;refine dT 10 16 ?_;refine dT 11 17 ?_;refine dN ?_;refine NoPanic.normal ?_
      go_wp2_with fail
      obtain ⟨L5,K5,N5,H5⟩:=Lft.ofS K9.out gw.1 gw.2 ((GX.out.lft SX.out).below HB8.out).stop;refine leaves_cons (f:=99) (args:=#[.pointer (some ⟨w.heap.size,0,none⟩)]) (by simp) (by simp [go_sem]) ?_
      refine (leaveP w.heap.size _ H5 hd1 v0).mono ?_;rintro e u' w'' ⟨rfl,rfl,rfl⟩
      have hret:=Lib.hid (show InvR E L d w r (.panicked [{ v:=thrownV o,recovered:=false }]) (w8.setCell ⟨E.hb,10,none⟩ (.int .i64 d)) from by
       rw [hrr]
       exact ⟨Pan.one _,Lft.deep ⟨L5,K5,N5,H5⟩ d⟩)
      exact hret.out
     | some hd =>
      have hhd:=(FS.mes m hmm).hds.2 hd (List.mem_of_find?_eq_some hx.out);obtain ⟨lo,hi,go,hcl⟩:=hd
      obtain ⟨ga,rfl⟩:∃ ga:Nat,go=(ga:Int):=by
       simp only [Form.hd,Bool.and_eq_true,decide_eq_true_eq,rng_iff] at hhd;exact ⟨go.toNat,by omega⟩
      clear hhd
      go_wp2_with fail
      refine wp_region_noPanic ?_;refine Drawn.hd (fun w'=>w'.cell? ⟨w.heap.size,0,none⟩=some (.pointer (some ⟨E.hb,0,none⟩))∧w'.cell? ⟨w.heap.size+1,0,none⟩=some (.slice pa m.params.length pcap)∧w'.cell? ⟨w.heap.size+1,1,none⟩=some (.int .i64 m.ret.kind)∧w'.cell? ⟨w.heap.size+1,2,none⟩=some (.int .i64 m.ret.cls)∧w'.cell? ⟨w.heap.size+1,3,none⟩=some (.int .i64 m.stack)∧w'.cell? ⟨w.heap.size+1,4,none⟩=some (.int .i64 m.locals)∧w'.cell? ⟨w.heap.size+1,5,none⟩=some (.int .i64 m.regs)∧w'.cell? ⟨w.heap.size+1,6,none⟩=some (.slice ca m.code.length ccap)∧w'.cell? ⟨w.heap.size+1,7,none⟩=some (.slice ha' m.handlers.length hcap)∧w'.cell? ⟨w5.heap.size,1,none⟩=some (.func (.func 93) #[.pointer (some ⟨P.cb,0,none⟩)] #[])) (h:=fun hHeld=>?_);refine dT 0 66 ?_;refine dT 1 67 ?_;refine dT 2 68 ?_;refine dT 3 69 ?_;refine dT 5 71 ?_;refine Drawn.cl 4 (fun K hK=>?_);go_simp;refine (atP (SX.out.below (w':=w6.drew) (by exact Rd.byB))).mono ?_
      rintro e w7 ⟨rfl,rfl⟩
      go_wp2_with fail
      refine Drawn.bk hK (h:=fun hHeld=>?_);clear hK K;refine Drawn.cl 6 (fun K hK=>?_);go_simp;refine (caughtP (SX.out.below (w':=w6.drew) (by exact Rd.byB)).H hq4 FS.may m (shX.out.mono mHd (by exact Rd.byB) (Nat.le_refl _)) fr.at_ (.tuple #[.int .i64 ga,.bool true]) (by rw [hx.out];rfl)).mono ?_
      rintro e w8 ⟨rfl,hb8⟩;have kk:∀ (b o:Nat) (u:Value),World.cell? _ ⟨b,o,none⟩=some u→w8.cell? ⟨b,o,none⟩=some u:=fun b o u hc=>kept hb8 (cell_lt hc) hc;have v0:=kk w.heap.size 0 _ b0c;have v10:=kk (w.heap.size+1) 0 _ m0;have v11:=kk (w.heap.size+1) 1 _ m1;have v12:=kk (w.heap.size+1) 2 _ m2;have v13:=kk (w.heap.size+1) 3 _ m3;have v14:=kk (w.heap.size+1) 4 _ m4;have v15:=kk (w.heap.size+1) 5 _ m5;have v16:=kk (w.heap.size+1) 6 _ m6;have v17:=kk (w.heap.size+1) 7 _ m7;have va:=kk w5.heap.size 1 _ y1';have vb:=kk w5.heap.size 2 _ y2';have zb:=kk wr.heap.size 0 _ z12;have HB8:=Lib.hid (show Below w6.heap.size w6 w8 from Below.trans (by exact Rd.byB) (hb8.mono Rd.byL))
      clear kk hb8
      go_wp2_with fail
      refine Drawn.bk hK (hS:=by (try dsimp only);exact ⟨v0,v10,v11,v12,v13,v14,v15,v16,v17,va⟩) (h:=fun hHeld=>?_)
      clear hK K;refine dT 7 65 ?_;refine dT 8 73 ?_;refine dT 9 74 ?_;refine dT 10 16 ?_;refine dT 11 17 ?_;refine dN ?_;refine NoPanic.normal ?_
      go_wp2_with fail
      refine (catchP (SX.out.below HB8.out) ga o).mono ?_;rintro e w9 ⟨rfl,A0⟩;have A:LftF E L4 P m (d+1) v4 w8 w9 h' ⟨fr.regs,ga,Vl.nil,⟨3,o⟩⟩:=A0;clear A0;have z:=A.box zb nb12;have lz:=cell_lt z;obtain ⟨L6,v6,G6,S6⟩:=A.opn;have c7b:=S6.H.c7;have hcg:RM.caught m fr ga o=some ⟨fr.regs,ga,Vl.nil,⟨3,o⟩⟩:=rfl
      have ea:after RM E.f m fr o h'=.go ⟨fr.regs,ga,Vl.nil,⟨3,o⟩⟩:=by
       unfold after;rw [show RM.at_ fr=fr.at_ from rfl,hx.out];simp only [Int.toNat_natCast];rw [hcg]
      have hrr:loop RM E.f E.input E.fuel g3 (d+1) m ⟨fr.regs,ga,Vl.nil,⟨3,o⟩⟩ h'=r:=by
       have e:=HR2.out;rw [loop_out rm_same,hou.out] at e;simp only [ea] at e;exact e
      have HX1:=Lib.hid (show Gr E L P (.slice none 0 0) W9 L6 v6 w9 from (GX.out.trans (Gr.of_below HB8.out)).trans G6);have HX2:=Lib.hid S6;have HX3:=Lib.hid hrr;have HX4:=Lib.hid hq2;have HX5:=Lib.hid (show RfOk m h'.objs.length ⟨fr.regs,ga,Vl.nil,⟨3,o⟩⟩ from KM.caught m hmm _ o ga fr _ hq4 hq2.many (KM.mono m _ _ fr hqo SO2.out) hcg);clear A G6 S6 hrr hq2 ea hcg hq3
      go_wp2_with fail
      refine ⟨⟨L6,h',_,v6,g3,HX1,HX2,HX4,HX5,HX3,by omega⟩,?_⟩
      rw [c7a,c7b];simp only [Int.toNat_natCast];omega
    | stop c h' =>
     obtain ⟨⟨older,hol,rfl⟩,A⟩:=R
     have hrn:r=.stop c h':=by
      have e:=HR2.out;rw [loop_out rm_same,hou.out] at e;exact e.symm
     have A9:=G2.out.compS A;obtain ⟨q0,n0⟩:=hlow.out _ _ (by omega) (by omega) X0.out
     obtain ⟨L4,K4,N4,H4⟩:=id A9;have b0c:=((q0.next K4 n0) 0 (by simp)).1
     simp only [List.getElem_cons_zero] at b0c;have A10:=Lib.hid (Lft.ofS K9.out gw.1 gw.2 A9);clear A A9 q0 n0 K4 N4 H4
     go_wp2_with fail
     obtain ⟨L5,K5,N5,H5⟩:=A10.out;refine leaves_cons (f:=99) (args:=#[.pointer (some ⟨w.heap.size,0,none⟩)]) (by simp) (by simp [go_sem]) ?_
     refine (leaveP w.heap.size _ H5 hd1 b0c).mono ?_;rintro e u' w'' ⟨rfl,rfl,rfl⟩
     have hret:=Lib.hid (show InvR E L d w r (.panicked ({ v:=stopV c,recovered:=false } :: older)) (w6.setCell ⟨E.hb,10,none⟩ (.int .i64 d)) from by
      rw [hrn]
      exact ⟨⟨older,hol,rfl⟩,Lft.deep ⟨L5,K5,N5,H5⟩ d⟩)
     exact hret.out
end
end Hpr
end Go.Proofs.YtncmhenfgbcihabGreat
