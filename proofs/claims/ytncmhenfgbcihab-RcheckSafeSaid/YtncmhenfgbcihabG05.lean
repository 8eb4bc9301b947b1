/- Parts of the proof: RefIN, RefI, FormF, FormG, FormM. -/
import Derived.Test.YtncmhenfgbcihabG02
import Derived.Test.YtncmhenfgbcihabG03
import Derived.Test.YtncmhenfgbcihabG04
import Derived.Test.YtncmhenfgbcihabG01
set_option linter.unusedSimpArgs false
set_option linter.unusedVariables false
set_option maxHeartbeats 8000000
namespace Go.Proofs.Ytncmhenfgbcihab
open Go.RowKit
namespace RefG
open Num Rd D HierW FormW FormR
set_option maxRecDepth 100000 in
theorem insN (f:Fi) (m:Me) (i:Ins) (vf vm vi:Value) (w:World) (hf:VFi w w.heap.size vf f) (hm:VMe w w.heap.size vm m) (hi:VIns w w.heap.size vi i) (hop:¬ (1≤i.op∧i.op≤24)) :
  Calls Try.prog 59 #[vf,vm,vi] w fun e w'=>e=.returned (.bool (Rform.ins f m i))∧Below w.heap.size w w':=by
 have hk:Rform.kinds i.op=none:=by
  unfold Rform.kinds
  repeat rw [if_neg (by omega)]
 have hX:=Lib.hid (Rform.ins_none (f:=f) (m:=m) hk);have hK:=Lib.hid hk;clear hop hk;obtain ⟨vc,vme,rfl,⟨ca,ccap,rfl,clc,ccc,cel⟩,⟨ma,mcap,rfl,mlc,mcc,mel⟩⟩:=hf;obtain ⟨vp,vcd,vh,rfl,_,_,⟨da,dcap,rfl,dlc,dcc,_⟩,_⟩:=hm;obtain ⟨va,rfl,_,⟨aa,acap,rfl,alc,acc,ael⟩⟩:=hi;obtain ⟨op,a,b,c,n,args⟩:=i;simp only at *
 clear cel mel ael
 go_enter Try.func59,Try.ntmps59
 go_wp2_with fail
 refine (namedB w _ op ?_).mono ?_
 ·exact Rd.byB
 rintro e w1 ⟨hw1,hb1,⟨hk,rfl⟩ | ⟨k0,k1,k2,kn,hk,rfl,hkn,e0,e1,e2⟩⟩
 ·clear hk hb1
  go_wp2_with fail
  go_ret;exact ⟨ret_bool hX.out.symm,hw1⟩
 ·exfalso;rw [hK.out] at hk
  cases hk
end RefG
namespace RefG
open Num Rd D HierW FormW FormR
theorem ins (f:Fi) (m:Me) (i:Ins) (vf vm vi:Value) (w:World) (hf:VFi w w.heap.size vf f) (hm:VMe w w.heap.size vm m) (hi:VIns w w.heap.size vi i) (hr:0≤m.regs∧m.regs≤90) :
  Calls Try.prog 59 #[vf,vm,vi] w fun e w'=>e=.returned (.bool (Rform.ins f m i))∧Below w.heap.size w w':=by
 by_cases hA:i.op=1∨i.op=2∨i.op=3∨i.op=4∨i.op=5∨i.op=6∨i.op=7∨i.op=8∨i.op=9∨i.op=10∨i.op=11∨i.op=12∨i.op=13∨i.op=16∨i.op=17∨i.op=19∨i.op=21∨i.op=22∨i.op=23∨i.op=24∨i.op=20
 ·exact insA f m i vf vm vi w hf hm hi hr hA
 by_cases hD:i.op=14∨i.op=15∨i.op=18
 ·exact insD f m i vf vm vi w hf hm hi hr hD
 exact insN f m i vf vm vi w hf hm hi (by omega)
end RefG
namespace FormW
open Num Rd D HierW
theorem ret_bool3 {a b c d e f:Bool}(h1:a=d) (h2:b=e) (h3:c=f):Ending.returned (.tuple #[.bool a,.bool b,.bool c])=.returned (.tuple #[.bool d,.bool e,.bool f]):=by rw [h1,h2,h3]
set_option maxRecDepth 100000 in
theorem fields (f:Fi) (m:Me) (i:Ins) (vf vm vi:Value) (w:World) (hf:VFi w w.heap.size vf f) (hm:VMe w w.heap.size vm m) (hi:VIns w w.heap.size vi i) (hloc:0≤m.locals∧m.locals≤60) :
  Calls Try.prog 142 #[vf,vm,vi] w fun e w'=>e=.returned (.tuple #[.bool (Form.sa f.classes f.methods.length m.code.length m.locals i),.bool (Form.sb f.classes i),.bool (Form.sn i)])∧Below w.heap.size w w':=by
 obtain ⟨vc,vme,rfl,⟨ca,ccap,rfl,clc,ccc,cel⟩,⟨ma,mcap,rfl,mlc,mcc,_⟩⟩:=hf;obtain ⟨vp,vcd,vh,rfl,⟨_,_,_,okl,_⟩,_,⟨da,dcap,rfl,dlc,dcc,_⟩,_⟩:=hm;obtain ⟨va,rfl,⟨oop,oa,ob,oc,on⟩,_⟩:=hi;obtain ⟨op,a,b,c,n,args⟩:=i;simp only at *
 unfold Ok at *
 obtain ⟨hloc1,hloc2⟩:=hloc
 go_enter Try.func142,Try.ntmps142
 go_wp2
 go_quiet (fail)
 refine name_world (fun W=>Below w.heap.size w W∧w.heap.size+3≤W.heap.size ∧
  (W.cell? ⟨w.heap.size,0,none⟩=some (.slice ca f.classes.length ccap)∧W.cell? ⟨w.heap.size,1,none⟩=some (.slice ma f.methods.length mcap)) ∧
  (W.cell? ⟨w.heap.size+1,4,none⟩=some (.int .i64 m.locals)∧W.cell? ⟨w.heap.size+1,6,none⟩=some (.slice da m.code.length dcap)) ∧
  W.cell? ⟨w.heap.size+1+1,0,none⟩=some (.int .i64 op)∧W.cell? ⟨w.heap.size+1+1,1,none⟩=some (.int .i64 a)∧W.cell? ⟨w.heap.size+1+1,2,none⟩=some (.int .i64 b)∧W.cell? ⟨w.heap.size+1+1,4,none⟩=some (.int .i64 n))
  ?_ ?_
 ·refine ⟨Rd.byB,?_,⟨?_,?_⟩,⟨?_,?_⟩,?_,?_,?_,?_⟩
  all_goals go_simp
 rintro W ⟨hbw,hsz,⟨f1,f2⟩,⟨m1,m2⟩,i1,i2,i3,i4⟩;have hbs:=Lib.hid hbw
 go_wp2_with (go_at_call 89;refine (sin _ _ _ _).mono ?_;rintro e w' ⟨rfl,rfl⟩)
 all_goals first
  | (
       go_ret3
       refine ⟨ret_bool3 ?_ ?_ ?_,Rd.byB⟩
       all_goals go_tidy
       all_goals simp_all [Form.sa,Form.sb,Form.sn]
       all_goals first | rfl | (intros;omega) | (rw [wrap64_id (wrap32_ok _),Bool.eq_iff_iff];simp;exact eq_comm))
  | skip
 ·have o1:Ok b:=ob;have o2:Ok 0:=by unfold Ok;omega
  obtain ⟨S,hS⟩:∃ S,Hid (Form.slots [⟨b,0⟩]=S):=⟨_,rfl⟩;have hS':Hid ((S:Int)=Form.wide b):=by show _=_;rw [← hS.out];exact slots_one b 0
  have hS2:(S:Int)≤2:=by rw [hS'.out];unfold Form.wide;split <;> omega
  go_region_held3 (fun w'=>w'.cell? ⟨w.heap.size+1+1,1,none⟩=some (.int .i64 a)∧w'.cell? ⟨w.heap.size+1+1,2,none⟩=some (.int .i64 b)∧w'.cell? ⟨w.heap.size+1,4,none⟩=some (.int .i64 m.locals))
   (first | exact ⟨i2,i3,m1⟩ | exact ⟨k2,k3,k1⟩ | go_keep)
   (first
   | (go_at_call 92;refine (slotsV _ [⟨b,0⟩] S _ (Ts.one (by go_simp) (by go_simp) o1 o2) (by simp) hS.out).mono ?_;rintro e w2 ⟨rfl,hb2⟩;have hbW:Below W.heap.size W w2:=Below.trans Rd.byB (hb2.mono (by simp));have k1:=kept hbW (by omega) m1;have k2:=kept hbW (by omega) i2;have k3:=kept hbW (by omega) i3)
   | (go_at_call 89;refine (sin _ _ _ _).mono ?_;rintro e w3 ⟨rfl,rfl⟩))
  go_wp2
  go_ret3
  have hS3:=hS'.out;have hbW2:Below w.heap.size w w2:=hbs.out.trans (hbW.mono hbs.out.size);refine ⟨ret_bool3 ?_ ?_ ?_,hbW2⟩
  all_goals go_tidy
  ·rw [Num.wrap_i64,Num.wrap_i64,wrap64_id (show Ok (m.locals+1) from ⟨by omega,by omega⟩),wrap64_id (show Ok (m.locals+1 - S) from ⟨by omega,by omega⟩),hS3]
   simp_all [Form.sa]
  ·simp_all [Form.sb]
  ·simp_all [Form.sn]
   try rfl
 ·have o1:Ok b:=ob;have o2:Ok 0:=by unfold Ok;omega
  obtain ⟨S,hS⟩:∃ S,Hid (Form.slots [⟨b,0⟩]=S):=⟨_,rfl⟩;have hS':Hid ((S:Int)=Form.wide b):=by show _=_;rw [← hS.out];exact slots_one b 0
  have hS2:(S:Int)≤2:=by rw [hS'.out];unfold Form.wide;split <;> omega
  go_region_held3 (fun w'=>w'.cell? ⟨w.heap.size+1+1,1,none⟩=some (.int .i64 a)∧w'.cell? ⟨w.heap.size+1+1,2,none⟩=some (.int .i64 b)∧w'.cell? ⟨w.heap.size+1,4,none⟩=some (.int .i64 m.locals))
   (first | exact ⟨i2,i3,m1⟩ | exact ⟨k2,k3,k1⟩ | go_keep)
   (first
   | (go_at_call 92;refine (slotsV _ [⟨b,0⟩] S _ (Ts.one (by go_simp) (by go_simp) o1 o2) (by simp) hS.out).mono ?_;rintro e w2 ⟨rfl,hb2⟩;have hbW:Below W.heap.size W w2:=Below.trans Rd.byB (hb2.mono (by simp));have k1:=kept hbW (by omega) m1;have k2:=kept hbW (by omega) i2;have k3:=kept hbW (by omega) i3)
   | (go_at_call 89;refine (sin _ _ _ _).mono ?_;rintro e w3 ⟨rfl,rfl⟩))
  go_wp2
  go_ret3
  have hS3:=hS'.out;have hbW2:Below w.heap.size w w2:=hbs.out.trans (hbW.mono hbs.out.size);refine ⟨ret_bool3 ?_ ?_ ?_,hbW2⟩
  all_goals go_tidy
  ·rw [Num.wrap_i64,Num.wrap_i64,wrap64_id (show Ok (m.locals+1) from ⟨by omega,by omega⟩),wrap64_id (show Ok (m.locals+1 - S) from ⟨by omega,by omega⟩),hS3]
   simp_all [Form.sa]
  ·simp_all [Form.sb]
  ·simp_all [Form.sn]
   try rfl
 ·obtain ⟨p,hp⟩:∃ p,Hid (Form.rng a 0 f.classes.length=p):=⟨_,rfl⟩;rw [hp.out]
  cases p
  ·have hr:=hp.out
   go_quiet (fail)
   go_wp2
   go_ret3
   refine ⟨ret_bool3 ?_ ?_ ?_,Rd.byB⟩
   all_goals go_tidy
   all_goals simp_all [Form.sa,Form.sb,Form.sn]
   all_goals first | rfl | (intros;omega)
  ·have hr:=hp.out;have hr2:0≤a∧a < f.classes.length:=by simpa [Form.rng] using hr
   obtain ⟨k,rfl⟩:=Int.eq_ofNat_of_zero_le hr2.1;have hk:k < f.classes.length:=by omega
   obtain ⟨b0,o0,rfl,hb0,he⟩:=cel k hk
   have hnf:Hid (Form.nf f.classes (k:Int)=(f.classes[k]).fields.length):=by
    show _=_
    rw [Form.nf,Int.toNat_natCast,Hier.at_eq hk]
   obtain ⟨x,hx⟩:=at_of hk;rw [hx.out] at he hnf;obtain ⟨_,_,fv,g3,fa,fcap,rfl,flc,fcc,_⟩:=he;have g4:=kept hbw hb0 g3;clear cel g3;have hr3:=hr2.2
   go_quiet ((go_at_call 89;exact Calls.quiet_of_same (sin' _ _ _ _)))
   go_wp2
   go_ret3
   refine ⟨ret_bool3 ?_ ?_ ?_,Rd.byB⟩
   all_goals go_tidy
   all_goals simp_all [Form.sa,Form.sb,Form.sn,hnf.out]
   all_goals first | rfl | (intros;omega)
 ·obtain ⟨p,hp⟩:∃ p,Hid (Form.rng a 0 f.classes.length=p):=⟨_,rfl⟩;rw [hp.out]
  cases p
  ·have hr:=hp.out
   go_quiet (fail)
   go_wp2
   go_ret3
   refine ⟨ret_bool3 ?_ ?_ ?_,Rd.byB⟩
   all_goals go_tidy
   all_goals simp_all [Form.sa,Form.sb,Form.sn]
   all_goals first | rfl | (intros;omega)
  ·have hr:=hp.out;have hr2:0≤a∧a < f.classes.length:=by simpa [Form.rng] using hr
   obtain ⟨k,rfl⟩:=Int.eq_ofNat_of_zero_le hr2.1;have hk:k < f.classes.length:=by omega
   obtain ⟨b0,o0,rfl,hb0,he⟩:=cel k hk
   have hnf:Hid (Form.nf f.classes (k:Int)=(f.classes[k]).fields.length):=by
    show _=_
    rw [Form.nf,Int.toNat_natCast,Hier.at_eq hk]
   obtain ⟨x,hx⟩:=at_of hk;rw [hx.out] at he hnf;obtain ⟨_,_,fv,g3,fa,fcap,rfl,flc,fcc,_⟩:=he;have g4:=kept hbw hb0 g3;clear cel g3;have hr3:=hr2.2
   go_quiet ((go_at_call 89;exact Calls.quiet_of_same (sin' _ _ _ _)))
   go_wp2
   go_ret3
   refine ⟨ret_bool3 ?_ ?_ ?_,Rd.byB⟩
   all_goals go_tidy
   all_goals simp_all [Form.sa,Form.sb,Form.sn,hnf.out]
   all_goals first | rfl | (intros;omega)
end FormW
namespace FormW
open Num Rd D HierW
theorem headV (f:Fi) (m:Me) (most:Int) (p:Bool) (vf vm:Value) (w:World) (hp:Form.head f.classes.length m most=p) (hf:VFi w w.heap.size vf f) (hm:VMe w w.heap.size vm m) (hmost:0≤most∧most≤100000) :
  Calls Try.prog 111 #[vf,vm,.int .i64 most] w fun e w'=>e=.returned (.bool p)∧Below w.heap.size w w':=by
 subst hp;exact head f m most vf vm w hf hm hmost
def B2 (w:World) (n:Nat) (v0 v1:Value):Prop:=w.cell? ⟨n,0,none⟩=some v0∧w.cell? ⟨n,1,none⟩=some v1
def B8 (w:World) (n:Nat) (v0 v1 v2 v3 v4 v5 v6 v7:Value):Prop:=w.cell? ⟨n,0,none⟩=some v0∧w.cell? ⟨n,1,none⟩=some v1∧w.cell? ⟨n,2,none⟩=some v2∧w.cell? ⟨n,3,none⟩=some v3 ∧
 w.cell? ⟨n,4,none⟩=some v4∧w.cell? ⟨n,5,none⟩=some v5∧w.cell? ⟨n,6,none⟩=some v6∧w.cell? ⟨n,7,none⟩=some v7
theorem B2.next {w w':World}{B n:Nat}{v0 v1:Value}(h:B2 w n v0 v1) (hb:Below B w w') (hlt:n < B):B2 w' n v0 v1:=⟨kept hb hlt h.1,kept hb hlt h.2⟩
theorem B8.next {w w':World}{B n:Nat}{v0 v1 v2 v3 v4 v5 v6 v7:Value}(h:B8 w n v0 v1 v2 v3 v4 v5 v6 v7) (hb:Below B w w') (hlt:n < B):B8 w' n v0 v1 v2 v3 v4 v5 v6 v7:=by
 obtain ⟨h0,h1,h2,h3,h4,h5,h6,h7⟩:=h;exact ⟨kept hb hlt h0,kept hb hlt h1,kept hb hlt h2,kept hb hlt h3,kept hb hlt h4,kept hb hlt h5,kept hb hlt h6,kept hb hlt h7⟩
theorem mayV (v:Value) (l:List Cls) (p:Bool) (w:World) (hp:Hier.may l=p) (h:Cs w v l):Calls Try.prog 88 #[v] w fun e w'=>e=.returned (.bool p)∧Below w.heap.size w w':=by
 subst hp;exact may v l w h
end FormW
namespace FormW
open Num Rd D HierW
theorem fieldsV (f:Fi) (m:Me) (i:Ins) (pa pb pn:Bool) (vf vm vi:Value) (w:World) (ha:Form.sa f.classes f.methods.length m.code.length m.locals i=pa) (hb:Form.sb f.classes i=pb) (hn:Form.sn i=pn)
  (hf:VFi w w.heap.size vf f) (hm:VMe w w.heap.size vm m) (hi:VIns w w.heap.size vi i) (hloc:0≤m.locals∧m.locals≤60) :
  Calls Try.prog 142 #[vf,vm,vi] w fun e w'=>e=.returned (.tuple #[.bool pa,.bool pb,.bool pn])∧Below w.heap.size w w':=by
 subst ha hb hn;exact fields f m i vf vm vi w hf hm hi hloc
set_option maxRecDepth 100000 in
theorem method (f:Fi) (m:Me) (vf vm:Value) (w:World) (hf:VFi w w.heap.size vf f) (hm:VMe w w.heap.size vm m) :
  Calls Try.prog 90 #[vf,vm] w fun e w'=>e=.returned (.bool (Form.sme f m))∧Below w.heap.size w w':=by
 have hf0:=hf;have hm0:=hm;obtain ⟨vc,vme,rfl,_,_⟩:=hf;obtain ⟨vp,vcd,vh,rfl,⟨ok1,ok2,ok3,ok4,ok5⟩,hpar,⟨da,dcap,rfl,dlc,dcc,del⟩,_⟩:=hm;unfold Ok at ok1 ok2 ok3 ok4 ok5;obtain ⟨pa,pcap,rfl,plc,pcc,pel⟩:=hpar;have hts0:Ts w (.slice pa m.params.length pcap) m.params:=⟨pa,pcap,rfl,plc,pcc,pel⟩;clear pel;obtain ⟨S,hS⟩:∃ S,Hid (Form.slots m.params=S):=⟨_,rfl⟩;obtain ⟨ph,hph⟩:∃ p,Hid (Form.head f.classes.length m 400=p):=⟨_,rfl⟩;obtain ⟨pst,hps⟩:∃ p,Hid (Form.rng m.stack 0 31=p):=⟨_,rfl⟩;obtain ⟨pl,hpl⟩:∃ p,Hid (Form.rng m.locals S 61=p):=⟨_,rfl⟩
 have hsme:Hid (Form.sme f m=(ph && decide (m.regs=0) && pst && pl && m.code.all (Form.sins f.classes f.methods.length m.code.length m.locals))):=by
  show _=_
  rw [← hph.out,← hps.out,← hpl.out,← hS.out];rfl
 go_enter Try.func90,Try.ntmps90
 go_wp2_with fail
 refine name_world (fun W=>Below w.heap.size w W∧w.heap.size+2≤W.heap.size∧B2 W w.heap.size vc vme∧B8 W (w.heap.size+1) (.slice pa m.params.length pcap) (.int .i64 m.ret.kind) (.int .i64 m.ret.cls) (.int .i64 m.stack) (.int .i64 m.locals) (.int .i64 m.regs) (.slice da m.code.length dcap) vh)
  ?_ ?_
 ·refine ⟨Rd.byB,?_,⟨?_,?_⟩,⟨?_,?_,?_,?_,?_,?_,?_,?_⟩⟩
  all_goals go_simp
 rintro W ⟨hbw,hsz,b2,b8⟩;have hbs:=hbw.size;have hfW:=hf0.mono hbw hbs;have hmW:=hm0.mono hbw hbs;have htW:=hts0.next hbw;obtain ⟨f1,f2⟩:=b2;obtain ⟨m0,m1,m2,m3,m4,m5,m6,m7⟩:=b8
 cases ph
 ·
  refine Drawn.hd (fun w'=>(w'.cell? ⟨w.heap.size,0,none⟩=some vc∧w'.cell? ⟨w.heap.size,1,none⟩=some vme)∧w'.cell? ⟨w.heap.size+1,0,none⟩=some (.slice pa m.params.length pcap)∧w'.cell? ⟨w.heap.size+1,1,none⟩=some (.int .i64 m.ret.kind)∧w'.cell? ⟨w.heap.size+1,2,none⟩=some (.int .i64 m.ret.cls)∧w'.cell? ⟨w.heap.size+1,3,none⟩=some (.int .i64 m.stack)∧w'.cell? ⟨w.heap.size+1,4,none⟩=some (.int .i64 m.locals)∧w'.cell? ⟨w.heap.size+1,5,none⟩=some (.int .i64 m.regs)∧w'.cell? ⟨w.heap.size+1,6,none⟩=some (.slice da m.code.length dcap)∧w'.cell? ⟨w.heap.size+1,7,none⟩=some (vh)) (hS:=by (try dsimp only);first | exact ⟨⟨f1,f2⟩,m0,m1,m2,m3,m4,m5,m6,m7⟩ | go_keep) (h:=fun hHeld=>?_)
  refine dT 0 10 ?_;refine dT 1 11 ?_;refine Drawn.cl 2 (fun K hK=>?_);go_simp
  go_at_call 111
  refine (headV f m 400 _ _ _ _ hph.out (hfW.mono Rd.byB (by simp)) (hmW.mono Rd.byB (by simp)) (by omega)).mono ?_
  rintro e w2 ⟨rfl,hb2⟩;have hbW:Below W.heap.size W w2:=Below.trans Rd.byB (hb2.mono (by simp))
  have k2:=B2.next ⟨f1,f2⟩ hbW (by omega)
  have k8:=B8.next ⟨m0,m1,m2,m3,m4,m5,m6,m7⟩ hbW (by omega)
  go_wp2_with fail
  refine Drawn.bk hK (hS:=by (try dsimp only);exact ⟨k2,k8⟩) (h:=fun hHeld=>?_)
  clear hK K;refine dT 3 13 ?_;refine dT 4 14 ?_;refine dS 5 15 ?_;refine dS 6 16 ?_;refine dS 7 17 ?_;refine dT 8 18 ?_;refine dT 9 19 ?_;refine dS 10 20 ?_;refine dS 11 21 ?_;refine dS 12 22 ?_;refine dS 13 23 ?_;refine dT 14 24 ?_;refine dT 15 25 ?_;refine dS 16 26 ?_;refine dS 17 27 ?_;refine dS 18 28 ?_;refine dS 19 29 ?_;refine dS 20 30 ?_;refine dS 21 31 ?_;refine dS 22 32 ?_;refine dT 23 33 ?_;refine dN ?_
  go_wp2
  go_ret;exact ⟨ret_bool (by rw [hsme.out];rfl),hbw.trans (hbW.mono hbs)⟩
 ·have hreg:(m.regs != 0)=true∨(m.regs != 0)=false:=by cases (m.regs != 0) <;> simp
  rcases hreg with hreg | hreg
  ·
   have hz:decide (m.regs=0)=false:=by simpa using hreg
   refine Drawn.hd (fun w'=>(w'.cell? ⟨w.heap.size,0,none⟩=some vc∧w'.cell? ⟨w.heap.size,1,none⟩=some vme)∧w'.cell? ⟨w.heap.size+1,0,none⟩=some (.slice pa m.params.length pcap)∧w'.cell? ⟨w.heap.size+1,1,none⟩=some (.int .i64 m.ret.kind)∧w'.cell? ⟨w.heap.size+1,2,none⟩=some (.int .i64 m.ret.cls)∧w'.cell? ⟨w.heap.size+1,3,none⟩=some (.int .i64 m.stack)∧w'.cell? ⟨w.heap.size+1,4,none⟩=some (.int .i64 m.locals)∧w'.cell? ⟨w.heap.size+1,5,none⟩=some (.int .i64 m.regs)∧w'.cell? ⟨w.heap.size+1,6,none⟩=some (.slice da m.code.length dcap)∧w'.cell? ⟨w.heap.size+1,7,none⟩=some (vh)) (hS:=by (try dsimp only);first | exact ⟨⟨f1,f2⟩,m0,m1,m2,m3,m4,m5,m6,m7⟩ | go_keep) (h:=fun hHeld=>?_)
   refine dT 0 10 ?_;refine dT 1 11 ?_;refine Drawn.cl 2 (fun K hK=>?_);go_simp
   go_at_call 111
   refine (headV f m 400 _ _ _ _ hph.out (hfW.mono Rd.byB (by simp)) (hmW.mono Rd.byB (by simp)) (by omega)).mono ?_
   rintro e w2 ⟨rfl,hb2⟩;have hbW:Below W.heap.size W w2:=Below.trans Rd.byB (hb2.mono (by simp))
   have k2:=B2.next ⟨f1,f2⟩ hbW (by omega)
   have k8:=B8.next ⟨m0,m1,m2,m3,m4,m5,m6,m7⟩ hbW (by omega)
   go_wp2_with fail
   refine Drawn.bk hK (hS:=by (try dsimp only);exact ⟨k2,k8⟩) (h:=fun hHeld=>?_)
   clear hK K;refine dT 3 13 ?_;refine dT 4 14 ?_;refine dT 5 15 ?_;refine dT 6 16 ?_;refine dT 7 17 ?_;refine dT 8 18 ?_;refine dT 9 19 ?_;refine dS 10 20 ?_;refine dS 11 21 ?_;refine dS 12 22 ?_;refine dS 13 23 ?_;refine dT 14 24 ?_;refine dT 15 25 ?_;refine dS 16 26 ?_;refine dS 17 27 ?_;refine dS 18 28 ?_;refine dS 19 29 ?_;refine dS 20 30 ?_;refine dS 21 31 ?_;refine dS 22 32 ?_;refine dT 23 33 ?_;refine dN ?_
   go_wp2
   go_ret;exact ⟨ret_bool (by rw [hsme.out];rw [hz];rfl),hbw.trans (hbW.mono hbs)⟩
  ·have hz:decide (m.regs=0)=true:=by simpa using hreg
   cases pst
   ·
    refine Drawn.hd (fun w'=>(w'.cell? ⟨w.heap.size,0,none⟩=some vc∧w'.cell? ⟨w.heap.size,1,none⟩=some vme)∧w'.cell? ⟨w.heap.size+1,0,none⟩=some (.slice pa m.params.length pcap)∧w'.cell? ⟨w.heap.size+1,1,none⟩=some (.int .i64 m.ret.kind)∧w'.cell? ⟨w.heap.size+1,2,none⟩=some (.int .i64 m.ret.cls)∧w'.cell? ⟨w.heap.size+1,3,none⟩=some (.int .i64 m.stack)∧w'.cell? ⟨w.heap.size+1,4,none⟩=some (.int .i64 m.locals)∧w'.cell? ⟨w.heap.size+1,5,none⟩=some (.int .i64 m.regs)∧w'.cell? ⟨w.heap.size+1,6,none⟩=some (.slice da m.code.length dcap)∧w'.cell? ⟨w.heap.size+1,7,none⟩=some (vh)) (hS:=by (try dsimp only);first | exact ⟨⟨f1,f2⟩,m0,m1,m2,m3,m4,m5,m6,m7⟩ | go_keep) (h:=fun hHeld=>?_)
    refine dT 0 10 ?_;refine dT 1 11 ?_;refine Drawn.cl 2 (fun K hK=>?_);go_simp
    go_at_call 111
    refine (headV f m 400 _ _ _ _ hph.out (hfW.mono Rd.byB (by simp)) (hmW.mono Rd.byB (by simp)) (by omega)).mono ?_
    rintro e w2 ⟨rfl,hb2⟩;have hbW:Below W.heap.size W w2:=Below.trans Rd.byB (hb2.mono (by simp))
    have k2:=B2.next ⟨f1,f2⟩ hbW (by omega)
    have k8:=B8.next ⟨m0,m1,m2,m3,m4,m5,m6,m7⟩ hbW (by omega)
    go_wp2_with fail
    refine Drawn.bk hK (hS:=by (try dsimp only);exact ⟨k2,k8⟩) (h:=fun hHeld=>?_)
    clear hK K;refine dT 3 13 ?_;refine dT 4 14 ?_;refine dT 5 15 ?_;refine dT 6 16 ?_;refine dT 7 17 ?_;refine dT 8 18 ?_;refine dT 9 19 ?_;refine dT 10 20 ?_;refine dT 11 21 ?_;refine Drawn.cl 12 (fun K hK=>?_);go_simp
    go_at_call 89
    refine (sinV _ _ _ _ _ hps.out).mono ?_;rintro e w3 ⟨rfl,rfl⟩
    go_wp2_with fail
    refine Drawn.bk hK (hS:=by (try dsimp only);exact ⟨k2,k8⟩) (h:=fun hHeld=>?_)
    clear hK K;refine dT 13 23 ?_;refine dT 14 24 ?_;refine dT 15 25 ?_;refine dS 16 26 ?_;refine dS 17 27 ?_;refine dS 18 28 ?_;refine dS 19 29 ?_;refine dS 20 30 ?_;refine dS 21 31 ?_;refine dS 22 32 ?_;refine dT 23 33 ?_;refine dN ?_
    go_wp2
    go_ret;exact ⟨ret_bool (by rw [hsme.out];simp),hbw.trans (hbW.mono hbs)⟩
   ·
    have hp4:m.params.length≤4:=by
     have h:=hph.out;simp only [Form.head,Bool.and_eq_true,decide_eq_true_eq] at h;exact h.1.1.1.2
    refine Drawn.hd (fun w'=>(w'.cell? ⟨w.heap.size,0,none⟩=some vc∧w'.cell? ⟨w.heap.size,1,none⟩=some vme)∧w'.cell? ⟨w.heap.size+1,0,none⟩=some (.slice pa m.params.length pcap)∧w'.cell? ⟨w.heap.size+1,1,none⟩=some (.int .i64 m.ret.kind)∧w'.cell? ⟨w.heap.size+1,2,none⟩=some (.int .i64 m.ret.cls)∧w'.cell? ⟨w.heap.size+1,3,none⟩=some (.int .i64 m.stack)∧w'.cell? ⟨w.heap.size+1,4,none⟩=some (.int .i64 m.locals)∧w'.cell? ⟨w.heap.size+1,5,none⟩=some (.int .i64 m.regs)∧w'.cell? ⟨w.heap.size+1,6,none⟩=some (.slice da m.code.length dcap)∧w'.cell? ⟨w.heap.size+1,7,none⟩=some (vh)) (hS:=by (try dsimp only);first | exact ⟨⟨f1,f2⟩,m0,m1,m2,m3,m4,m5,m6,m7⟩ | go_keep) (h:=fun hHeld=>?_)
    refine dT 0 10 ?_;refine dT 1 11 ?_;refine Drawn.cl 2 (fun K hK=>?_);go_simp
    go_at_call 111
    refine (headV f m 400 _ _ _ _ hph.out (hfW.mono Rd.byB (by simp)) (hmW.mono Rd.byB (by simp)) (by omega)).mono ?_
    rintro e w2 ⟨rfl,hb2⟩;have hbW:Below W.heap.size W w2:=Below.trans Rd.byB (hb2.mono (by simp))
    have k2:=B2.next ⟨f1,f2⟩ hbW (by omega)
    have k8:=B8.next ⟨m0,m1,m2,m3,m4,m5,m6,m7⟩ hbW (by omega)
    go_wp2_with fail
    refine Drawn.bk hK (hS:=by (try dsimp only);exact ⟨k2,k8⟩) (h:=fun hHeld=>?_)
    clear hK K;refine dT 3 13 ?_;refine dT 4 14 ?_;refine dT 5 15 ?_;refine dT 6 16 ?_;refine dT 7 17 ?_;refine dT 8 18 ?_;refine dT 9 19 ?_;refine dT 10 20 ?_;refine dT 11 21 ?_;refine Drawn.cl 12 (fun K hK=>?_);go_simp
    go_at_call 89
    refine (sinV _ _ _ _ _ hps.out).mono ?_;rintro e w3 ⟨rfl,rfl⟩
    go_wp2_with fail
    refine Drawn.bk hK (hS:=by (try dsimp only);exact ⟨k2,k8⟩) (h:=fun hHeld=>?_)
    clear hK K;refine dT 13 23 ?_;refine dT 14 24 ?_;refine dT 15 25 ?_;refine dT 16 26 ?_;refine dT 17 27 ?_;refine dT 18 28 ?_;refine dT 19 29 ?_;refine Drawn.cl 20 (fun K hK=>?_);go_simp
    go_at_call 92
    refine (slotsV _ m.params S _ (htW.next hbW) (by omega) hS.out).mono ?_
    rintro e w4 ⟨rfl,hb4⟩;have hbX:Below W.heap.size W w4:=hbW.trans (hb4.mono hbW.size);have x2:=B2.next ⟨f1,f2⟩ hbX (by omega)
    have x8:=B8.next ⟨m0,m1,m2,m3,m4,m5,m6,m7⟩ hbX (by omega)
    go_wp2_with fail
    refine Drawn.bk hK (hS:=by (try dsimp only);exact ⟨x2,x8⟩) (h:=fun hHeld=>?_)
    clear hK K;refine Drawn.cl 21 (fun K hK=>?_);go_simp
    go_at_call 89
    refine (sinV _ _ _ _ _ hpl.out).mono ?_;rintro e w5 ⟨rfl,rfl⟩
    go_wp2_with fail
    refine Drawn.bk hK (hS:=by (try dsimp only);exact ⟨x2,x8⟩) (h:=fun hHeld=>?_)
    clear hK K;refine dT 22 32 ?_;refine dT 23 33 ?_;refine dN ?_;have hbX2:Below w.heap.size w w4:=hbw.trans (hbX.mono hbs);have hbX3:=hbX2.size;have hbX4:=hbX.size
    cases pl
    ·go_wp2
     go_ret;exact ⟨ret_bool (by rw [hsme.out];simp),hbX2⟩
    ·have hloc:0≤m.locals∧m.locals≤60:=by
      have h:=hpl.out;simp only [Form.rng,decide_eq_true_eq] at h;omega
     have hsme2:Hid (Form.sme f m=m.code.all (Form.sins f.classes f.methods.length m.code.length m.locals)):=by
      show _=_
      rw [hsme.out,hz];rfl
     clear hsme f1 f2 m0 m1 m2 m3 m4 m5 m6 m7 k2 k8 htW hfW hmW hts0;obtain ⟨f1,f2⟩:=x2;obtain ⟨m0,m1,m2,m3,m4,m5,m6,m7⟩:=x8
     go_wp2_with fail
     go_loopw [37] (fun i wr=>∃ k:Nat,k≤m.code.length∧i=.int .i64 k∧Below w4.heap.size w4 wr∧Hid (∀ j (h:j < m.code.length),j < k→Form.sins f.classes f.methods.length m.code.length m.locals m.code[j]=true)) (fun i _=>m.code.length - (intOf i).toNat)
     case atStart=>exact ⟨0,by omega,rfl,Rd.byB,fun j _ h=>absurd h (by omega)⟩
     case round =>
      obtain ⟨k,hk,rfl,hq,hall⟩:=hrel;have hqs:=hq.size;have hwr:Below w.heap.size w wr:=hbX2.trans (hq.mono hbX3);have hwrs:=hwr.size;have n3:w.heap.size < wr.heap.size:=by omega
      have n4:w.heap.size+1 < wr.heap.size:=by omega
      have c1:=kept hq (by omega) f1
      have c2:=kept hq (by omega) f2
      have c3:=kept hq (by omega) m0
      have c4:=kept hq (by omega) m1
      have c5:=kept hq (by omega) m2
      have c6:=kept hq (by omega) m3
      have c7:=kept hq (by omega) m4
      have c8:=kept hq (by omega) m5
      have c9:=kept hq (by omega) m6
      have c10:=kept hq (by omega) m7
      clear f1 f2 m0 m1 m2 m3 m4 m5 m6 m7
      by_cases hlt:k < m.code.length
      ·obtain ⟨b,o,rfl,hb,he⟩:=del k hlt;have hyes:=Lib.hid (Form.all_step (p:=Form.sins f.classes f.methods.length m.code.length m.locals) hall.out hlt);have hno:=Lib.hid (Form.all_not (p:=Form.sins f.classes f.methods.length m.code.length m.locals) hlt);obtain ⟨t,ht⟩:=at_of hlt;rw [ht.out] at he hyes hno;obtain ⟨g1,g2,g3,g4,g5,oks,va,g6,gargs⟩:=he;have hvi:VIns w w.heap.size (.agg #[.int .i64 t.op,.int .i64 t.a,.int .i64 t.b,.int .i64 t.c,.int .i64 t.n,va]) t:=⟨va,rfl,oks,gargs⟩;obtain ⟨aa,acap,rfl,alc,acc,_⟩:=gargs;have k1:=kept hwr hb g1;have k2:=kept hwr hb g2;have k3:=kept hwr hb g3;have k4:=kept hwr hb g4;have k5:=kept hwr hb g5;have k6:=kept hwr hb g6;obtain ⟨xa,hxa⟩:∃ p,Hid (Form.sa f.classes f.methods.length m.code.length m.locals t=p):=⟨_,rfl⟩;obtain ⟨xb,hxb⟩:∃ p,Hid (Form.sb f.classes t=p):=⟨_,rfl⟩;obtain ⟨xn,hxn⟩:∃ p,Hid (Form.sn t=p):=⟨_,rfl⟩
       have hins:Hid (Form.sins f.classes f.methods.length m.code.length m.locals t=(xa && xb && xn && decide (t.c=0) && decide (t.args.length=0))):=by
        show _=_
        rw [← hxa.out,← hxb.out,← hxn.out];rfl
       have hq2:=Lib.hid hq;have hwr2:=Lib.hid hwr;clear del g1 g2 g3 g4 g5 g6
       go_wp2_with (go_at_call 142;refine (fieldsV f m t xa xb xn _ _ _ _ hxa.out hxb.out hxn.out (hf0.mono Rd.byB (by simp;omega)) (hm0.mono Rd.byB (by simp;omega)) (hvi.mono Rd.byB (by simp;omega)) hloc).mono ?_;rintro e w6 ⟨rfl,hb6⟩;have hw6:Below wr.heap.size wr w6:=Below.trans Rd.byB (hb6.mono (by simp));have y4:w6.cell? ⟨wr.heap.size,3,none⟩=some (.int .i64 t.c):=kept hb6 (by simp) (by go_simp);have y6:w6.cell? ⟨wr.heap.size,5,none⟩=some (.slice aa t.args.length acap):=kept hb6 (by simp) (by go_simp))
       all_goals first
        | (
                   go_ret;refine ⟨ret_bool (hsme2.out.trans (hno.out ?_)).symm,hwr2.out.trans (hw6.mono hwrs)⟩;go_tidy;rw [hins.out]
                   first | (simp_all;done) | (rw [show decide (t.args.length=0)=false from decide_eq_false (by omega)];simp;done))
        | skip
       refine ⟨?_,?measure⟩
       iterate 39 apply Exists.intro
       refine ⟨?rel,rfl⟩
       case rel =>
        refine ⟨k+1,by omega,by go_num,hq2.out.trans (hw6.mono hqs),hyes.out ?_⟩
        go_tidy;rw [hins.out];simp_all
       case measure=>simp [intOf];omega
      ·have hst:m.code.all (Form.sins f.classes f.methods.length m.code.length m.locals)=true:=Form.all_of (fun j hj=>hall.out j hj (by omega))
       have hst2:=Lib.hid hst;clear hst hall del
       go_wp2
       go_ret;exact ⟨ret_bool (by rw [hsme2.out,hst2.out]),hwr⟩
end FormW
end Go.Proofs.Ytncmhenfgbcihab
