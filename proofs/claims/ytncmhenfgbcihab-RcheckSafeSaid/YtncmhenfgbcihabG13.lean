/- Parts of the proof: Zh, Zw3. -/
import Derived.Test.YtncmhenfgbcihabG12
import Derived.Test.YtncmhenfgbcihabG09
set_option linter.unusedSimpArgs false
set_option linter.unusedVariables false
set_option maxHeartbeats 8000000
namespace Go.Proofs.Ytncmhenfgbcihab
open Go.RowKit
namespace Rhq
open Num Rd D Run Mem HierW Hpw Rhw
section
variable {E:Ev}
theorem runQ (S:FiR E.f) (MO:MachOk RM RfOk E.f E.input E.fuel) (hfu:E.fuel≤60000) (hin:E.input.length≤1000):∀ (n d:Nat),d+n=20→∀ (g:Nat) (h:Hp),E.fuel < g+h.steps→RunQ E d g h:=by
 intro n
 induction n with
 | zero =>
  intro d hd g h hg k args h1 hk HO hs hv hl L W mv va X H hmv hva hX
  have hv3:∀ v∈args,v.kind=3→v.n < h1.objs.length:=fun v hv' e=>((hv v hv').1.2.2.2 e).2
  cases hall:allOf E.f.classes h1 args (meAt E.f k).params with
  | false =>
   have e:call RM E.f E.input E.fuel g d (meAt E.f k) args h1=.stop 6 h1:=by unfold call;rw [if_pos hall]
   rw [e];exact runFq S H _ hmv args X hva hX hl hv3 (by omega) 6 (.inl ⟨hall,rfl⟩)
  | true =>
   have e:call RM E.f E.input E.fuel g d (meAt E.f k) args h1=.stop 5 h1:=by unfold call;rw [if_neg (by rw [hall];simp),if_pos (by omega)]
   rw [e];exact runFq S H _ hmv args X hva hX hl hv3 (by omega) 5 (.inr ⟨hall,by omega,rfl⟩)
 | succ n ih =>
  intro d hd g h hg k args h1 hk HO hs hv hl L W mv va X H hmv hva hX
  have hv3:∀ v∈args,v.kind=3→v.n < h1.objs.length:=fun v hv' e=>((hv v hv').1.2.2.2 e).2
  cases hall:allOf E.f.classes h1 args (meAt E.f k).params with
  | false =>
   have e:call RM E.f E.input E.fuel g d (meAt E.f k) args h1=.stop 6 h1:=by unfold call;rw [if_pos hall]
   rw [e];exact runFq S H _ hmv args X hva hX hl hv3 (by omega) 6 (.inl ⟨hall,rfl⟩)
  | true =>
   have e:call RM E.f E.input E.fuel g d (meAt E.f k) args h1=loop RM E.f E.input E.fuel g (d+1) (meAt E.f k) (RM.enter (meAt E.f k) args) h1:=by unfold call;rw [if_neg (by rw [hall];simp),if_neg (by omega)]
   have hmem:=meAt_mem hk;have M:=S.mes _ hmem
   have hsz:size args≤(meAt E.f k).regs.toNat:=by
    have:=size_slots args _ hl (fun i hi=>allOf_kind args _ hall i hi (by omega))
    have:=M.regs.2.1
    omega
   exact runTq S M H hmv args X hva hX hl hv (by omega) hall hsz _ HO hmem MO hfu hin g (by omega) e.symm (fun h2 g2 hg2 _=>ih (d+1) (by omega) g2 h2 hg2)
end
end Rhq
namespace Rhq
open Num Rd D Run Mem HierW Hpw Rhw
section
variable {w:World}{B:Nat}{f:Fi}{E:Ev}{L:RL}{d:Nat}
def ShV (w:World) (B:Nat) (s:Sh) (v:Value):Prop:=∃ vo,v=.agg #[.int .i64 s.fin,.int .i64 s.value,.int .i64 s.cls,vo,.int .i64 s.used,.int .i64 s.steps]∧w.ownsRow B 2 1 vo s.out.length (s.out.map (.int .i64 ·))
def PlayR (w:World) (s:Sh) (c:Int) (e:Ending) (w':World):Prop:=∃ v,e=.returned (.tuple #[v,.int .i64 c])∧ShV w' w.heap.size s v∧Below w.heap.size w w'
def DoneA (E:Ev) (s:Sh) (w:World) (e:Ending) (w':World):Prop:=∃ v,e=.returned v∧ShV w' E.B s v∧Below E.B w w'
theorem done_sh {w w2:World}{h:Hp}{x y z:Int}{e:Ending}(hb:RB E w L h) (D:DoneR E L w h x y z e w2):DoneA E ⟨x,y,z,h.out,h.used,h.steps⟩ w e w2:=by
 obtain ⟨rfl,R,K⟩:=D;exact ⟨_,rfl,⟨_,rfl,R.out⟩,K.below (Nat.le_of_lt (Nat.lt_of_le_of_lt hb.base.1 hb.base.2)) (fun k hk=>(own_lo hb hk).1)⟩
theorem doneA {w1 w:World}{r:Res Vl}{m:Me}{h1:Hp}{e:Ending}(hr:RRv E L d w1 r e w) (ho:CallOk E.f E.input E.fuel m h1 r){k n:Int}(he:e=.returned (.agg #[.int .i64 k,.int .i64 n])) :
  Calls Try.prog 56 #[.pointer (some ⟨E.hb,0,none⟩),.agg #[.int .i64 k,.int .i64 n]] w (DoneA E (shown r) w):=by
 obtain ⟨k',n',he',hr⟩:=hr;subst he;injection he' with he'
 injection he' with he'
 simp at he';obtain ⟨rfl,rfl⟩:=he'
 cases r with
 | ok v h =>
  obtain ⟨⟨rfl,rfl⟩,L',K,_,H⟩:=hr;exact (doneO H _ _ _ rfl).mono fun e w2 D=>done_sh H.rows D
 | thrown o h =>
  obtain ⟨L',K,_,H⟩:=hr;exact (doneT H ho.2 _ _).mono fun e w2 D=>done_sh H.rows D
 | stop c h =>
  obtain ⟨L',K,_,H⟩:=hr;exact (doneE H _ _).mono fun e w2 D=>done_sh H.rows D
theorem res6 {w w2:World}{x y:Value}(hb:Below (w.heap.size+2) ((w.alloc (.cells #[x,y] 25)).alloc (.cells #[.int .i64 0,.int .i64 0,.int .i64 0,.slice none 0 0,.int .i64 0,.int .i64 0] 41)) w2):Blk w2 (w.heap.size+1) [.int .i64 0,.int .i64 0,.int .i64 0,.slice none 0 0,.int .i64 0,.int .i64 0]:=by
 have h:=Blk.made (w.alloc (.cells #[x,y] 25)) [.int .i64 0,.int .i64 0,.int .i64 0,.slice none 0 0,.int .i64 0,.int .i64 0] 41;have e:(w.alloc (.cells #[x,y] 25)).heap.size=w.heap.size+1:=by simp
 rw [e] at h;exact h.next (X:=fun _=>False) (Kp.of_below hb (by simp)) (fun e=>e)
set_option maxRecDepth 100000 in
theorem playE {vc vm va vi:Value}(entry fuel c:Int) (hc:c≠0) (hb:∀ W,Below w.heap.size w W→Calls Try.prog 54 #[.agg #[vc,vm],.int .i64 entry,va,vi,.int .i64 fuel] W (BeginE W c)) (hl1:∃ a n cap,vc=.slice a n cap) (hl2:∃ a n cap,vm=.slice a n cap):Calls Try.prog 22 #[.agg #[vc,vm],.int .i64 entry,va,vi,.int .i64 fuel] w (PlayR w Sh.nil c):=by
 obtain ⟨a1,n1,c1,rfl⟩:=hl1;obtain ⟨a2,n2,c2,rfl⟩:=hl2;have hcb:(c != 0)=true:=by simpa using hc
 go_enter Try.func22,Try.ntmps22
 go_wp2_with (go_at_call 54;refine (hb _ (by exact Rd.byB)).mono ?_;rintro e w2 ⟨rfl,hb2⟩;have hB:=res6 (w:=w) (hb2.mono Rd.byL);have c0:=(hB 0 (by simp)).1;have c1:=(hB 1 (by simp)).1;have c2:=(hB 2 (by simp)).1;have c3:=(hB 3 (by simp)).1;have c4:=(hB 4 (by simp)).1;have c5:=(hB 5 (by simp)).1;have f0:=(hB 0 (by simp)).2;have f1:=(hB 1 (by simp)).2;have f2:=(hB 2 (by simp)).2;have f3:=(hB 3 (by simp)).2;have f4:=(hB 4 (by simp)).2;have f5:=(hB 5 (by simp)).2;simp only [List.getElem_cons_zero,List.getElem_cons_succ] at c0 c1 c2 c3 c4 c5;clear hB;have hbw:Below w.heap.size w w2:=Below.trans (by exact Rd.byB) (hb2.mono Rd.byL);have hsz:=hb2.size)
 refine bodyPost_ret (v:=.tuple #[.agg #[.int .i64 0,.int .i64 0,.int .i64 0,.slice none 0 0,.int .i64 0,.int .i64 0],.int .i64 c]) (by simp [results,Try.results22,go_sem] <;> go_simp) rfl ?_
 simp at hsz;exact ⟨_,rfl,⟨_,rfl,World.ownsRow_nil _ _ _ _⟩,by exact Rd.byB⟩
theorem begR {W w2:World}{m:Me}{args input:List Int}{fuel:Int}{vc vm vi:Value}{e:Ending}(hno:m.params.any (fun t=>decide (t.kind=3))=false) (h:BegR W f m args input fuel vc vm vi e w2) :
  ∃ (E:Ev) (vl:Value),e=.returned (.tuple #[.pointer (some ⟨E.hb,0,none⟩),vl,.int .i64 0])∧(E.f=f∧E.input=input∧E.fuel=fuel.toNat∧E.B=W.heap.size∧E.vc=vc∧E.vm=vm∧E.vi=vi)∧RH E w2 L0 h0 0 Sv.run∧VS w2 (own E L0) vl (List.zipWith argOf m.params args)∧Below W.heap.size W w2:=by
 unfold BegR at h;rw [if_neg (by rw [hno];simp)] at h
 obtain ⟨hb,vl,rfl,H,V,hbl⟩:=h;refine ⟨_,vl,rfl,⟨rfl,rfl,rfl,rfl,rfl,rfl,rfl⟩,H,V.mono (fun b _ hx=>?_),hbl⟩
 rcases hx with e | e
 ·exact e
 ·exact absurd e (by simp [L0,rows,Value.ownBlock])
def hcells (E:Ev):Array Value:=#[E.vc,E.vm,.slice none 0 0,E.vi,.int .i64 0,.int .i64 E.fuel,.int .i64 0,.int .i64 0,.int .i64 0,.slice none 0 0,.int .i64 0,.int .i64 0,.bool false,.int .i64 (-1)]
def cp (E:Ev) (b:Nat):Ev:=⟨E.f,E.input,E.fuel,b,E.B,E.vc,E.vm,E.vi⟩
theorem rhCopy {w2:World}(H:RH E w2 L0 h0 0 Sv.run) (T:TypeId):RH (cp E w2.heap.size) (w2.alloc (.cells (hcells E) T)) L0 h0 0 Sv.run :=
 rhNew H.rows.cls H.rows.mes H.rows.inp (Nat.le_trans H.rows.base.1 (Nat.le_of_lt H.rows.base.2)) E.fuel T
theorem runP {w2:World}{input:List Int}{fuel k:Nat}{args:List Vl}{mv vl:Value}(S:FiR f) (MO:MachOk RM RfOk f input fuel) (hfu:fuel≤60000) (hin:input.length≤1000) (hE:E.f=f∧E.input=input∧E.fuel=fuel) (H:RH E w2 L0 h0 0 Sv.run) (T:TypeId) (hk:k < f.methods.length) (hv:∀ v∈args,VtOk 0 v) (hl:args.length=(meAt f k).params.length) (hm:VMe w2 E.B mv (meAt f k)) (V:VS w2 (own E L0) vl args) :
  Calls Try.prog 60 #[.pointer (some ⟨w2.heap.size,0,none⟩),mv,vl] (w2.alloc (.cells (hcells E) T)) (RRq (cp E w2.heap.size) L0 0 (w2.alloc (.cells (hcells E) T)) (call RM f input fuel (fuel+1) 0 (meAt f k) args h0)):=by
 obtain ⟨rfl,rfl,rfl⟩:=hE;have hb:Below w2.heap.size w2 (w2.alloc (.cells (hcells E) T)):=(Below.refl _ _).alloc (Nat.le_refl _) _;have hB:E.B≤w2.heap.size:=Nat.le_trans H.rows.base.1 (Nat.le_of_lt H.rows.base.2);refine runQ (E:=cp E w2.heap.size) S MO hfu hin 20 0 rfl (E.fuel+1) h0 (by unfold h0 cp;simp only;omega) k args h0 hk ⟨Nat.zero_le _,(fun o ho=>by cases ho),(fun x hx=>by cases hx),Nat.le_refl _,Nat.zero_le _,Nat.zero_le _⟩ rfl hv hl L0 _ mv vl (own (cp E w2.heap.size) L0) (rhCopy H T) (hm.mono (hb.mono hB) (Nat.le_refl _)) ?_ (fun _ e=>e)
 refine V.next (Y:=fun _=>False) (Kp.of_below hb (Nat.le_refl _)) (fun _ _ e=>e.elim) (fun b hb e=>?_)
 rcases e with e | e
 ·exact absurd e (Nat.ne_of_lt hb)
 ·exact .inr e
theorem copyC {w2:World}(H:RH E w2 L0 h0 0 Sv.run){vc vm vi:Value}(h1:E.vc=vc) (h2:E.vm=vm) (h3:E.vi=vi) :
  (w2.cell? ⟨E.hb,0,none⟩=some vc∧w2.cell? ⟨E.hb,1,none⟩=some vm∧w2.cell? ⟨E.hb,2,none⟩=some (.slice none 0 0)∧w2.cell? ⟨E.hb,3,none⟩=some vi∧w2.cell? ⟨E.hb,4,none⟩=some (.int .i64 0)∧w2.cell? ⟨E.hb,5,none⟩=some (.int .i64 E.fuel)∧w2.cell? ⟨E.hb,6,none⟩=some (.int .i64 0)) ∧
  w2.cell? ⟨E.hb,7,none⟩=some (.int .i64 0)∧w2.cell? ⟨E.hb,8,none⟩=some (.int .i64 0)∧w2.cell? ⟨E.hb,9,none⟩=some (.slice none 0 0)∧w2.cell? ⟨E.hb,10,none⟩=some (.int .i64 0)∧w2.cell? ⟨E.hb,11,none⟩=some (.int .i64 0)∧w2.cell? ⟨E.hb,12,none⟩=some (.bool false)∧w2.cell? ⟨E.hb,13,none⟩=some (.int .i64 (-1)):=by
 subst h1 h2 h3;have hB:=H.cells;have k:∀ j (hj:j < (cellsR E L0 h0 0 Sv.run).length),w2.cell? ⟨E.hb,j,none⟩=some (cellsR E L0 h0 0 Sv.run)[j]:=fun j hj=>(hB j hj).1;exact ⟨⟨k 0 (by simp [cellsR]),k 1 (by simp [cellsR]),k 2 (by simp [cellsR]),k 3 (by simp [cellsR]),k 4 (by simp [cellsR]),k 5 (by simp [cellsR]),k 6 (by simp [cellsR])⟩,k 7 (by simp [cellsR]),k 8 (by simp [cellsR]),k 9 (by simp [cellsR]),k 10 (by simp [cellsR]),k 11 (by simp [cellsR]),k 12 (by simp [cellsR]),k 13 (by simp [cellsR])⟩
theorem row_low {w:World}{base b2 n size:Nat}{T:TypeId}{v:Value}{xs:List Value}(h:w.ownsRow base T size v n xs) (hb:b2≤base):w.ownsRow b2 T size v n xs:=by
 refine ⟨h.1,?_⟩
 rcases h.2 with e | ⟨g,cap,cur,e,hg,rest⟩
 ·exact .inl e
 ·exact .inr ⟨g,cap,cur,e,Nat.le_trans hb hg,rest⟩
theorem rrv_low {w1 w:World}{r:Res Vl}{e:Ending}{h1:Hp}{s:Sv}(H:RH E w1 L h1 d s) (hr:RRv E L d w1 r e w):Below E.B w1 w:=by
 obtain ⟨k',n',he',hr⟩:=hr;have hb:=H.rows;have key:∀ {h2:Hp}{s:Sv},RL2 E L d w1 w h2 s→Below E.B w1 w:=fun ⟨L',K,_⟩=>K.below (Nat.le_of_lt (Nat.lt_of_le_of_lt hb.base.1 hb.base.2)) (fun k hk=>(own_lo hb hk).1)
 cases r with
 | ok v h=>exact key hr.2
 | thrown o h=>exact key hr
 | stop c h=>exact key hr
set_option maxRecDepth 100000 in
theorem playO {vc vm va vi:Value}{input args:List Int}{fuel:Int}(S:FiR f) (MO:MachOk RM RfOk f input fuel.toNat) (hc:Sl 2 ECls w B vc f.classes) (hm:Sl 8 EMe w B vm f.methods) (hB:B≤w.heap.size) (k:Nat) (hk:k < f.methods.length) (hq:FormR.within k 0 (f.methods.length - 1)=true) (hq2:FormR.within fuel 0 60000=true) (hi:Sl 1 EInt w B vi input) (h3:input.length≤1000) (ha:Sl 1 EInt w B va args) (h4:args.length=(f.methods[k]).params.length) (h5:(f.methods[k]).params.length≤4) (hno:(f.methods[k]).params.any (fun t=>decide (t.kind=3))=false) (hv:∀ v∈List.zipWith argOf (f.methods[k]).params args,VtOk 0 v) :
  Calls Try.prog 22 #[.agg #[vc,vm],.int .i64 k,va,vi,.int .i64 fuel] w (PlayR w (shown (call RM f input fuel.toNat (fuel.toNat+1) 0 (meAt f k) (List.zipWith argOf (f.methods[k]).params args) h0)) 0):=by
 have em:f.methods[k]=meAt f k:=by unfold meAt;rw [List.getD_eq_getElem?_getD,List.getElem?_eq_getElem hk];rfl
 have hf2:0≤fuel∧fuel≤60000:=by simpa only [FormR.within,decide_eq_true_eq] using hq2
 have HCL:=Lib.hid hc;have HME:=Lib.hid hm;have HIN:=Lib.hid hi;have HAR:=Lib.hid ha;obtain ⟨a,cap,rfl,k1,k2,_⟩:=hc;obtain ⟨ma,mcap,rfl,k3,k4,hel⟩:=hm;obtain ⟨ia,icap,rfl,k5,k6,_⟩:=hi;obtain ⟨aa,acap,rfl,k7,k8,hea⟩:=ha;obtain ⟨mb,mo,rfl,hmb,vp,vco,vh,m0,m1,m2,m3,m4,m5,m6,m7,mok,hp,hco,hh⟩:=hel k hk;have HP:=Lib.hid hp;have HCO:=Lib.hid hco;have HH:=Lib.hid hh;obtain ⟨pa,pcap,rfl,k9,k10,hep⟩:=hp;obtain ⟨ca,ccap,rfl,k11,k12,_⟩:=hco;obtain ⟨xa,xcap,rfl,k13,k14,_⟩:=hh;clear hel hea hep;have hk':(k:Int) < f.methods.length:=by omega
 have hmb2:mb < w.heap.size:=by omega
 have HQ:=Lib.hid hq;have HQ2:=Lib.hid hq2;have HNO:=Lib.hid hno;have HV:=Lib.hid hv;have H4:=Lib.hid h4;clear hq hq2 hno hv;replace hf2:=Lib.hid hf2;have H3:=Lib.hid h3;have H5:=Lib.hid h5;clear h3 h4 h5;have HBC:∀ W:World,Below w.heap.size w W→Calls Try.prog 54 #[.agg #[.slice a f.classes.length cap,.slice (some ⟨mb,mo,none⟩) f.methods.length mcap],.int .i64 k,.slice aa args.length acap,.slice ia input.length icap,.int .i64 fuel] W (BegR W f f.methods[k] args input fuel (.slice a f.classes.length cap) (.slice (some ⟨mb,mo,none⟩) f.methods.length mcap) (.slice ia input.length icap)):=fun W hW=>begin5 (HCL.out.mono mCls (hW.mono hB) (Nat.le_refl _)) (HME.out.mono mMe (hW.mono hB) (Nat.le_refl _)) (Nat.le_trans hB hW.size) k hk fuel HQ.out HQ2.out (HIN.out.mono mInt (hW.mono hB) (Nat.le_refl _)) H3.out (HAR.out.mono mInt (hW.mono hB) (Nat.le_refl _)) H4.out H5.out
 have HRU:∀ (W1 w2:World) (E:Ev) (vl:Value),(E.f=f∧E.input=input∧E.fuel=fuel.toNat∧E.B=W1.heap.size∧E.vc=.slice a f.classes.length cap∧E.vm=.slice (some ⟨mb,mo,none⟩) f.methods.length mcap∧E.vi=.slice ia input.length icap)→Below w.heap.size w W1→Below W1.heap.size W1 w2→RH E w2 L0 h0 0 Sv.run→VS w2 (own E L0) vl (List.zipWith argOf (f.methods[k]).params args)→Calls Try.prog 60 #[.pointer (some ⟨w2.heap.size,0,none⟩),.agg #[.slice pa f.methods[k].params.length pcap,.int .i64 f.methods[k].ret.kind,.int .i64 f.methods[k].ret.cls,.int .i64 f.methods[k].stack,.int .i64 f.methods[k].locals,.int .i64 f.methods[k].regs,.slice ca f.methods[k].code.length ccap,.slice xa f.methods[k].handlers.length xcap],vl] (w2.alloc (.cells #[.slice a f.classes.length cap,.slice (some ⟨mb,mo,none⟩) f.methods.length mcap,.slice none 0 0,.slice ia input.length icap,.int .i64 0,.int .i64 E.fuel,.int .i64 0,.int .i64 0,.int .i64 0,.slice none 0 0,.int .i64 0,.int .i64 0,.bool false,.int .i64 (-1)] 112)) (RRq (cp E w2.heap.size) L0 0 (w2.alloc (.cells #[.slice a f.classes.length cap,.slice (some ⟨mb,mo,none⟩) f.methods.length mcap,.slice none 0 0,.slice ia input.length icap,.int .i64 0,.int .i64 E.fuel,.int .i64 0,.int .i64 0,.int .i64 0,.slice none 0 0,.int .i64 0,.int .i64 0,.bool false,.int .i64 (-1)] 112)) (call RM f input fuel.toNat (fuel.toNat+1) 0 (meAt f k) (List.zipWith argOf (f.methods[k]).params args) h0)):=fun W1 w2 E vl hE hW h2 H V=>by
  have hbb:Below B w w2:=(hW.mono hB).trans (h2.mono (Nat.le_trans hB hW.size));have hcs:hcells E=#[.slice a f.classes.length cap,.slice (some ⟨mb,mo,none⟩) f.methods.length mcap,.slice none 0 0,.slice ia input.length icap,.int .i64 0,.int .i64 E.fuel,.int .i64 0,.int .i64 0,.int .i64 0,.slice none 0 0,.int .i64 0,.int .i64 0,.bool false,.int .i64 (-1)]:=by unfold hcells;rw [hE.2.2.2.2.1,hE.2.2.2.2.2.1,hE.2.2.2.2.2.2]
  rw [← hcs];refine runP S MO (by have:=hf2.out;omega) H3.out ⟨hE.1,hE.2.1,hE.2.2.1⟩ H _ hk HV.out (by rw [List.length_zipWith,H4.out,← em];omega) ?_ V
  rw [← em,hE.2.2.2.1];exact ⟨_,_,_,rfl,mok,HP.out.mono mTy hbb (Nat.le_trans hB hW.size),HCO.out.mono mIns hbb (Nat.le_trans hB hW.size),HH.out.mono mHd hbb (Nat.le_trans hB hW.size)⟩
 have HCO2:Hid (CallOk f input fuel.toNat (meAt f k) h0 (call RM f input fuel.toNat (fuel.toNat+1) 0 (meAt f k) (List.zipWith argOf (f.methods[k]).params args) h0)):=call_ok MO _ _ _ _ _ (meAt_mem hk) ⟨Nat.zero_le _,(fun o ho=>by cases ho),(fun x hx=>by cases hx),Nat.le_refl _,Nat.zero_le _,Nat.zero_le _⟩ HV.out (by rw [List.length_zipWith,H4.out,← em];omega)
 replace em:=Lib.hid em;obtain ⟨r,hr⟩:∃ r,Hid (call RM f input fuel.toNat (fuel.toNat+1) 0 (meAt f k) (List.zipWith argOf (f.methods[k]).params args) h0=r):=⟨_,Lib.hid rfl⟩;rw [hr.out] at HRU HCO2 ⊢
 generalize f.methods[k].params.length=np at m0 HRU
 go_enter Try.func22,Try.ntmps22
 go_wp2_with (first
  | (go_at_call 54;refine (HBC _ (by exact Rd.byB)).mono ?_;rintro e w2 HBG;obtain ⟨E,vl,rfl,hE,H,V,hbl⟩:=begR HNO.out HBG;clear HBG;obtain ⟨⟨d0,d1,d2,d3,d4,d5,d6⟩,d7,d8,d9,d10,d11,d12,d13⟩:=copyC H hE.2.2.2.2.1 hE.2.2.2.2.2.1 hE.2.2.2.2.2.2;have hhb:=H.rows.base.2;have b1:w2.cell? ⟨w.heap.size,1,none⟩=some (.slice (some ⟨mb,mo,none⟩) f.methods.length mcap):=kept hbl Rd.byL (by go_simp);have hbw:Below w.heap.size w w2:=Below.trans (by exact Rd.byB) (hbl.mono Rd.byL);have hw2s:=cell_lt b1;have hmb3:mb < w2.heap.size:=Nat.lt_trans hmb2 hw2s;have n0:=kept hbw hmb2 m0;have n1:=kept hbw hmb2 m1;have n2:=kept hbw hmb2 m2;have n3:=kept hbw hmb2 m3;have n4:=kept hbw hmb2 m4;have n5:=kept hbw hmb2 m5;have n6:=kept hbw hmb2 m6;have n7:=kept hbw hmb2 m7;replace H:=Lib.hid H;replace V:=Lib.hid V;replace hE:=Lib.hid hE)
  | (go_at_call 60;refine (HRU _ _ _ _ hE.out (by exact Rd.byB) hbl H.out V.out).mono ?_;rintro e w3 ⟨hr3,_⟩;obtain ⟨kv,nv,he3,hm3⟩:=id hr3;subst he3;clear hm3;have hq4:E.B=w.heap.size+2:=(by rw [hE.out.2.2.2.1];simp);have hb3:=rrv_low (rhCopy H.out 112) (by rw [show hcells E=#[.slice a f.classes.length cap,.slice (some ⟨mb,mo,none⟩) f.methods.length mcap,.slice none 0 0,.slice ia input.length icap,.int .i64 0,.int .i64 E.fuel,.int .i64 0,.int .i64 0,.int .i64 0,.slice none 0 0,.int .i64 0,.int .i64 0,.bool false,.int .i64 (-1)] from by unfold hcells;rw [hE.out.2.2.2.2.1,hE.out.2.2.2.2.2.1,hE.out.2.2.2.2.2.2]];exact hr3);rw [show (cp E w2.heap.size).B=w.heap.size+2 from hq4] at hb3;have hs2:w.heap.size+2≤w2.heap.size:=(by have:=hbl.size;simp at this;omega);have hs3:w.heap.size+2≤w3.heap.size:=Nat.le_trans (by simp;omega) hb3.size;have hb3':Below (w.heap.size+2) w2 w3:=Below.trans ((Below.refl (w.heap.size+2) w2).alloc hs2 _) hb3;replace hr3:=Lib.hid hr3;have hco:Hid (CallOk E.f E.input E.fuel (meAt f k) h0 r):=(by obtain ⟨q1,q2,q3,_⟩:=hE.out;rw [q1,q2,q3];exact HCO2)))
 refine Drawn.hd (fun _=>True) (hS:=by (try dsimp only);try exact trivial) (h:=fun hHeld=>?_)
 refine dT 0 44 ?_;refine dT 1 45 ?_;refine dT 2 46 ?_;refine Drawn.cl 3 (fun K hK=>?_);go_simp;refine Drawn.bk hK (hS:=by (try dsimp only);try exact trivial) (h:=fun hHeld=>?_)
 clear hK K;refine Drawn.cl 4 (fun K hK=>?_);go_simp;refine (doneA (e:=.returned (.agg #[.int .i64 kv,.int .i64 nv])) (rrv_below hr3.out (by exact Rd.byB)) hco.out rfl).mono ?_;rintro e w4 ⟨v4,rfl,⟨vo,rfl,hrow⟩,hb4⟩;obtain ⟨oa,on,oc,rfl⟩:=own_sl hrow;rw [show (cp E w2.heap.size).B=w.heap.size+2 from hq4] at hb4 hrow;replace hrow:=Lib.hid hrow;have hT:=(hbl.mono (B':=w.heap.size+2) Rd.byL).trans (hb3'.trans (Below.trans (by exact Rd.byB) hb4));have hB6:=res6 (w:=w) hT;have c0:=(hB6 0 (by simp)).1;have c1:=(hB6 1 (by simp)).1;have c2:=(hB6 2 (by simp)).1;have c3:=(hB6 3 (by simp)).1;have c4:=(hB6 4 (by simp)).1;have c5:=(hB6 5 (by simp)).1;have f0:=(hB6 0 (by simp)).2;have f1:=(hB6 1 (by simp)).2;have f2:=(hB6 2 (by simp)).2;have f3:=(hB6 3 (by simp)).2;have f4:=(hB6 4 (by simp)).2;have f5:=(hB6 5 (by simp)).2;simp only [List.getElem_cons_zero,List.getElem_cons_succ] at c0 c1 c2 c3 c4 c5;clear hB6;have hb5:Below w.heap.size w w4:=Below.trans (by exact Rd.byB) (hT.mono Rd.byL)
 go_wp2_with fail
 refine Drawn.bk hK (hS:=by (try dsimp only);try exact trivial) (h:=fun hHeld=>?_)
 clear hK K;refine Drawn.cl 5 (fun K hK=>?_);go_simp;refine Drawn.bk hK (hS:=by (try dsimp only);try exact trivial) (h:=fun hHeld=>?_)
 clear hK K;refine dT 6 11 ?_;refine dN ?_
 go_wp2_with fail
 refine bodyPost_ret (v:=.tuple #[.agg #[.int .i64 (shown r).fin,.int .i64 (shown r).value,.int .i64 (shown r).cls,.slice oa on oc,.int .i64 (shown r).used,.int .i64 (shown r).steps],.int .i64 0]) (by simp [results,Try.results22,go_sem] <;> go_simp) rfl ?_
 have K:∀ (W:World) (j:Nat) (u:Value),Kp (fun k=>k=w.heap.size+1) w4 W→Kp (fun k=>k=w.heap.size+1) w4 (W.setCell ⟨w.heap.size+1,j,none⟩ u):=fun W j u K=>K.setCell (p:=⟨w.heap.size+1,j,none⟩) (.inl rfl) u;have KK:=K _ 5 (.int .i64 (shown r).steps) (K _ 4 (.int .i64 (shown r).used) (K _ 3 (.slice oa on oc) (K _ 2 (.int .i64 (shown r).cls) (K _ 1 (.int .i64 (shown r).value) (K _ 0 (.int .i64 (shown r).fin) (Kp.refl _ w4))))));refine ⟨_,rfl,⟨_,rfl,row_low (row_keep hrow.out KK (fun g hg e=>?_)) Rd.byL⟩,hb5.trans (KK.below hb5.size (fun k e=>by omega))⟩
 have:=(World.ownsRow.lt hrow.out g hg).1
 omega
theorem argOf_vt {nc:Int}{t:Ty}{n:Int}(ht:Hier.ty nc t=true) (h3:t.kind≠3) (hn:Ok n):VtOk 0 (argOf t n):=by
 unfold Hier.ty at ht;unfold argOf
 split at ht
 ·rename_i e
  by_cases e1:t.kind=1
  ·rw [if_pos e1];exact ⟨⟨wrap32_ok n,by simp,by simp,by simp⟩,by simp,by simp⟩
  ·rw [if_neg e1];refine ⟨⟨hn,?_,?_,?_⟩,?_,?_⟩ <;> simp only <;> omega
 ·exact absurd ht (by simp [h3])
theorem play {vf va vi:Value}{input args:List Int}{entry fuel:Int}(hmay:Rform.rmay f=true) (Hf:VFi w w.heap.size vf f) (hi:Sl 1 EInt w w.heap.size vi input) (ha:Sl 1 EInt w w.heap.size va args) :
  Calls Try.prog 22 #[vf,.int .i64 entry,va,vi,.int .i64 fuel] w (PlayR w (Run.play RM f entry args input fuel).1 (Run.play RM f entry args input fuel).2):=by
 have S:=fiR_of hmay
 have hn:∀ m∈f.methods,∀ i∈m.code,Ok i.n:=by
  intro m hm i hi
  obtain ⟨_,_,_,_,hms⟩:=Hf;obtain ⟨_,_,_,_,_,hel⟩:=hms;obtain ⟨k,hk,rfl⟩:=List.getElem_of_mem hm;obtain ⟨_,_,_,_,vp,vco,vh,_,_,_,_,_,_,_,_,_,_,hco,_⟩:=hel k hk;obtain ⟨_,_,_,_,_,hec⟩:=hco;obtain ⟨j,hj,rfl⟩:=List.getElem_of_mem hi;obtain ⟨_,_,_,_,_,_,_,_,_,ho,_⟩:=hec j hj;exact ho.2.2.2.2
 have hin:∀ x∈input,Ok x:=by
  intro x hx
  obtain ⟨_,_,_,_,_,hel⟩:=hi;obtain ⟨k,hk,rfl⟩:=List.getElem_of_mem hx;obtain ⟨_,_,_,_,_,h⟩:=hel k hk;exact h
 have har:∀ x∈args,Ok x:=by
  intro x hx
  obtain ⟨_,_,_,_,_,hel⟩:=ha;obtain ⟨k,hk,rfl⟩:=List.getElem_of_mem hx;obtain ⟨_,_,_,_,_,h⟩:=hel k hk;exact h
 have Hf2:=Hf;obtain ⟨vc,vm,rfl,hc,hm⟩:=Hf2;have s1:∃ a n cap,vc=.slice a n cap:=by obtain ⟨a,cap,e,_⟩:=hc;exact ⟨_,_,_,e⟩
 have s2:∃ a n cap,vm=.slice a n cap:=by obtain ⟨a,cap,e,_⟩:=hm;exact ⟨_,_,_,e⟩
 have out:∀ c:Int,c≠0→begin_ f entry args input fuel=c→(∀ W,Below w.heap.size w W→Calls Try.prog 54 #[.agg #[vc,vm],.int .i64 entry,va,vi,.int .i64 fuel] W (BeginE W c))→Calls Try.prog 22 #[.agg #[vc,vm],.int .i64 entry,va,vi,.int .i64 fuel] w (PlayR w (Run.play RM f entry args input fuel).1 (Run.play RM f entry args input fuel).2):=fun c h0 he h=>by
  have e:Run.play RM f entry args input fuel=(Sh.nil,c):=by unfold Run.play;rw [he,if_pos h0]
  rw [e];exact playE entry fuel c h0 h s1 s2
 have wi:∀ (x lo hi:Int),FormR.within x lo hi=false→x < lo∨hi < x:=fun x lo hi h=>by
  have:=of_decide_eq_false h
  omega
 have wt:∀ (x lo hi:Int),FormR.within x lo hi=true→lo≤x∧x≤hi:=fun x lo hi h=>of_decide_eq_true h
 cases hq:FormR.within entry 0 (f.methods.length - 1)
 ·have:=wi _ _ _ hq
  exact out 4 (by decide) (by unfold begin_;rw [if_pos (by omega)]) (fun W hW=>begin1 (Hf.mono hW hW.size) entry fuel hq)
 have r1:=wt _ _ _ hq
 cases hq2:FormR.within fuel 0 60000
 ·have:=wi _ _ _ hq2
  exact out 4 (by decide) (by unfold begin_;rw [if_pos (by omega)]) (fun W hW=>begin2 (Hf.mono hW hW.size) entry fuel hq hq2)
 have r2:=wt _ _ _ hq2;have b0:¬ (entry < 0∨(f.methods.length:Int)≤entry∨fuel < 0∨60000 < fuel):=by omega
 by_cases h3:1000 < input.length
 ·exact out 1 (by decide) (by unfold begin_;rw [if_neg b0,if_pos h3]) (fun W hW=>begin3 (Hf.mono hW hW.size) entry fuel hq hq2 (hi.mono mInt hW hW.size) h3)
 obtain ⟨k,rfl⟩:∃ k:Nat,entry=(k:Int):=⟨entry.toNat,by omega⟩
 have hk:k < f.methods.length:=by omega
 have em:f.methods[k]=meAt f k:=by unfold meAt;rw [List.getD_eq_getElem?_getD,List.getElem?_eq_getElem hk];rfl
 have M:=S.mes _ (List.getElem_mem hk);have ek:((k:Int)).toNat=k:=by omega
 by_cases h4:args.length=(f.methods[k]).params.length
 ·cases hany:(f.methods[k]).params.any (fun t=>decide (t.kind=3))
  ·have hb0:begin_ f k args input fuel=0:=by unfold begin_;rw [if_neg b0,if_neg h3,ek,← em,if_neg (by rw [hany];simp [h4])]
   have e:Run.play RM f k args input fuel=(shown (call RM f input fuel.toNat (fuel.toNat+1) 0 (meAt f k) (List.zipWith argOf (f.methods[k]).params args) h0),0):=by unfold Run.play;rw [hb0,if_neg (by simp),ek,← em];rfl
   rw [e];refine playO S (rm_ok S hn hin) hc hm (Nat.le_refl _) k hk hq hq2 hi (by omega) ha h4 M.params.1 hany (fun v hv=>?_)
   obtain ⟨i,hi2,rfl⟩:=List.getElem_of_mem hv;rw [List.getElem_zipWith];simp only [List.length_zipWith] at hi2;have ht:=M.params.2 _ (List.getElem_mem (show i < (f.methods[k]).params.length by omega))
   refine argOf_vt ht (fun e3=>?_) (har _ (List.getElem_mem _))
   have:=List.any_eq_false.1 hany _ (List.getElem_mem (show i < (f.methods[k]).params.length by omega))
   simp [e3] at this
  ·refine out 3 (by decide) (by unfold begin_;rw [if_neg b0,if_neg h3,ek,← em,if_pos (.inr hany)]) (fun W hW=>(begin5 (hc.mono mCls hW hW.size) (hm.mono mMe hW hW.size) (Nat.le_refl _) k hk fuel hq hq2 (hi.mono mInt hW hW.size) (by omega) (ha.mono mInt hW hW.size) h4 M.params.1).mono fun e w' h=>?_)
   unfold BegR at h;rw [if_pos hany] at h;exact h
 ·exact out 3 (by decide) (by unfold begin_;rw [if_neg b0,if_neg h3,ek,← em,if_pos (.inl h4)]) (fun W hW=>begin4 (Hf.mono hW hW.size) (Nat.le_refl _) k hk fuel hq hq2 (hi.mono mInt hW hW.size) (by omega) (ha.mono mInt hW hW.size) h4)
end
end Rhq
end Go.Proofs.Ytncmhenfgbcihab
