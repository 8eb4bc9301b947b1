/- Parts of the proof: FormRY, RefY. -/
import Derived.Test.YtncmhenfgbcihabG02
import Derived.Test.YtncmhenfgbcihabG05
set_option linter.unusedSimpArgs false
set_option linter.unusedVariables false
set_option maxHeartbeats 8000000
namespace Go.Proofs.Ytncmhenfgbcihab
open Go.RowKit
namespace FormR
open Num Rd D HierW FormW
theorem headV (f:Fi) (m:Me) (most:Int) (p:Bool) (vf vm:Value) (w:World) (hp:Form.head f.classes.length m most=p) (hf:VFi w w.heap.size vf f) (hm:VMe w w.heap.size vm m) (hmost:0≤most∧most≤100000) :
  Calls Try.prog 51 #[vf,vm,.int .i64 most] w fun e w'=>e=.returned (.bool p)∧Below w.heap.size w w':=by
 subst hp;exact head f m most vf vm w hf hm hmost
theorem insV (f:Fi) (m:Me) (i:Ins) (p:Bool) (vf vm vi:Value) (w:World) (hp:Form.sins f.classes f.methods.length m.code.length m.locals i=p) (hf:VFi w w.heap.size vf f) (hm:VMe w w.heap.size vm m) (hi:VIns w w.heap.size vi i) (hloc:0≤m.locals∧m.locals≤60) :
  Calls Try.prog 53 #[vf,vm,vi] w fun e w'=>e=.returned (.bool p)∧Below w.heap.size w w':=by
 subst hp;exact ins f m i vf vm vi w hf hm hi hloc
theorem rmayV (v:Value) (l:List Cls) (p:Bool) (w:World) (hp:Hier.may l=p) (h:Cs w v l):Calls Try.prog 49 #[v] w fun e w'=>e=.returned (.bool p)∧Below w.heap.size w w':=by
 subst hp;exact rmay v l w h
theorem sme_head {f:Fi}{m:Me}(h:Form.head f.classes.length m 400=false):Form.sme f m=false:=by simp [Form.sme,h]
theorem sme_regs {f:Fi}{m:Me}(h:m.regs≠0):Form.sme f m=false:=by simp [Form.sme,h]
theorem sme_stack {f:Fi}{m:Me}(h:Form.rng m.stack 0 31=false):Form.sme f m=false:=by simp [Form.sme,h]
theorem sme_locals {f:Fi}{m:Me}(h:Form.rng m.locals (Form.slots m.params) 61=false):Form.sme f m=false:=by simp [Form.sme,h]
theorem sme_ins {f:Fi}{m:Me}{k:Nat}(hk:k < m.code.length) (h:Form.sins f.classes f.methods.length m.code.length m.locals m.code[k]=false):Form.sme f m=false:=by
 simp [Form.sme,Form.all_not hk h]
theorem sme_yes {f:Fi}{m:Me}(h1:Form.head f.classes.length m 400=true) (h2:m.regs=0) (h3:Form.rng m.stack 0 31=true) (h4:Form.rng m.locals (Form.slots m.params) 61=true)
  (h5:∀ j (h:j < m.code.length),Form.sins f.classes f.methods.length m.code.length m.locals m.code[j]=true):Form.sme f m=true:=by
 have:=Form.all_of h5
 simp [Form.sme,h1,h2,h3,h4,this]
end FormR
namespace RefG
open Num Rd D HierW FormW FormR
theorem insV (f:Fi) (m:Me) (i:Ins) (p:Bool) (vf vm vi:Value) (w:World) (hp:Rform.ins f m i=p) (hf:VFi w w.heap.size vf f) (hm:VMe w w.heap.size vm m) (hi:VIns w w.heap.size vi i) (hr:0≤m.regs∧m.regs≤90) :
  Calls Try.prog 59 #[vf,vm,vi] w fun e w'=>e=.returned (.bool p)∧Below w.heap.size w w':=by
 subst hp;exact ins f m i vf vm vi w hf hm hi hr
theorem rme_head {f:Fi}{m:Me}(h:Form.head f.classes.length m 2400=false):Rform.rme f m=false:=by simp [Rform.rme,h]
theorem rme_stack {f:Fi}{m:Me}(h:m.stack≠0):Rform.rme f m=false:=by simp [Rform.rme,h]
theorem rme_locals {f:Fi}{m:Me}(h:m.locals≠0):Rform.rme f m=false:=by simp [Rform.rme,h]
theorem rme_regs {f:Fi}{m:Me}(h:within m.regs 1 90=false∨m.regs < (Form.slots m.params:Nat)):Rform.rme f m=false:=by
 have h2:Form.rng m.regs (max 1 (Form.slots m.params:Nat)) 91=false:=by
  unfold within at h;simp only [Form.rng,decide_eq_false_iff_not] at *
  rw [Int.max_def]
  rcases h with h | h <;> (split <;> omega)
 simp [Rform.rme,h2]
theorem rme_ins {f:Fi}{m:Me}{k:Nat}(hk:k < m.code.length) (h:Rform.ins f m m.code[k]=false):Rform.rme f m=false:=by
 simp [Rform.rme,Form.all_not hk h]
theorem rme_yes {f:Fi}{m:Me}(h1:Form.head f.classes.length m 2400=true) (h2:m.stack=0) (h3:m.locals=0) (h4:within m.regs 1 90=true) (h4':¬ m.regs < (Form.slots m.params:Nat))
  (h5:∀ j (h:j < m.code.length),Rform.ins f m m.code[j]=true):Rform.rme f m=true:=by
 have:=Form.all_of h5
 have h6:Form.rng m.regs (max 1 (Form.slots m.params:Nat)) 91=true:=by
  unfold within at h4;simp only [Form.rng,decide_eq_true_eq] at *
  rw [Int.max_def]
  split <;> omega
 simp [Rform.rme,h1,h2,h3,h6,this]
set_option maxRecDepth 100000 in
theorem rmay (f:Fi) (vf:Value) (w:World) (hf:VFi w w.heap.size vf f) :
  Calls Try.prog 21 #[vf] w fun e w'=>e=.returned (.bool (Rform.rmay f))∧Below w.heap.size w w':=by
 have hf0:=hf;obtain ⟨vc,vme,rfl,hcs,⟨ma,mcap,rfl,mlc,mcc,mel⟩⟩:=hf;obtain ⟨ph,hph⟩:∃ p,Hid (Hier.may f.classes=p):=⟨_,rfl⟩;obtain ⟨pn,hpn⟩:∃ p,Hid (within f.methods.length 1 8=p):=⟨_,rfl⟩
 have hall0:Hid (Rform.rmay f=(ph && pn && f.methods.all (Rform.rme f))):=by
  show _=_
  rw [← hph.out,← hpn.out,within_rng];rfl
 cases ph <;> cases pn
 all_goals go_enter Try.func21,Try.ntmps21
 all_goals go_wp2_with (first
  | (go_at_call 49;refine (rmayV _ _ _ _ hph.out (Cs.next hcs Rd.byB)).mono ?_;rintro e w1 ⟨rfl,hb1⟩;have hw1:Below w.heap.size w w1:=Below.trans Rd.byB (hb1.mono (by simp));have y0:w1.cell? ⟨w.heap.size,0,none⟩=some vc:=kept hb1 (by simp) (by go_simp);have y1:w1.cell? ⟨w.heap.size,1,none⟩=some (.slice ma f.methods.length mcap):=kept hb1 (by simp) (by go_simp))
  | (go_at_call 50;refine (wiV _ _ _ _ _ hpn.out).mono ?_;rintro e w2 ⟨rfl,rfl⟩))
 all_goals first
  | (
       go_ret
       exact ⟨ret_bool (by rw [hall0.out];simp),hw1⟩)
  | skip
 have hws:=hw1.size;have nn:w.heap.size < w1.heap.size:=by have:=lt_cell y0;omega
 go_loopw [3] (fun i wr=>∃ k:Nat,k≤f.methods.length∧i=.int .i64 k∧Below w1.heap.size w1 wr∧Hid (∀ j (h:j < f.methods.length),j < k→Rform.rme f f.methods[j]=true)) (fun i _=>f.methods.length - (intOf i).toNat)
 case atStart=>exact ⟨0,by omega,rfl,Rd.byB,fun j _ h=>absurd h (by omega)⟩
 case round =>
  obtain ⟨k,hk,rfl,hq,hall⟩:=hrel;have hqs:=hq.size;have hwr:Below w.heap.size w wr:=hw1.trans (hq.mono hws);have hwrs:=hwr.size;have n3:w.heap.size < wr.heap.size:=by omega
  have c1:=kept hq (by omega) y0
  have c2:=kept hq (by omega) y1
  clear y0 y1
  by_cases hlt:k < f.methods.length
  ·obtain ⟨b,o,rfl,hb,he⟩:=mel k hlt;have hyes:=Lib.hid (Form.all_step (p:=Rform.rme f) hall.out hlt);have hno:=Lib.hid (Form.all_not (p:=Rform.rme f) hlt);obtain ⟨t,ht⟩:=at_of hlt;rw [ht.out] at he hyes hno;obtain ⟨vp,vd,vh,g0,g1,g2,g3,g4,g5,g6,g7,oks,s1,s2,s3⟩:=he;have hvm:VMe w w.heap.size (.agg #[vp,.int .i64 t.ret.kind,.int .i64 t.ret.cls,.int .i64 t.stack,.int .i64 t.locals,.int .i64 t.regs,vd,vh]) t:=⟨vp,vd,vh,rfl,oks,s1,s2,s3⟩;obtain ⟨pa,pcap,rfl,plc,pcc,pel⟩:=s1;have hts0:Ts w (.slice pa t.params.length pcap) t.params:=⟨pa,pcap,rfl,plc,pcc,pel⟩;clear pel;obtain ⟨da,dcap,rfl,dlc,dcc,del⟩:=s2;obtain ⟨ha,hcap,rfl,_,_,_⟩:=s3;have k0:=kept hwr hb g0;have k1:=kept hwr hb g1;have k2:=kept hwr hb g2;have k3:=kept hwr hb g3;have k4:=kept hwr hb g4;have k5:=kept hwr hb g5;have k6:=kept hwr hb g6;have k7:=kept hwr hb g7;have hq2:=Lib.hid hq;have hwr2:=Lib.hid hwr;have ok5:=oks.2.2.2.2;have ok4:=oks.2.2.2.1;have ok3:=oks.2.2.1;unfold Ok at ok5 ok4 ok3;clear g0 g1 g2 g3 g4 g5 g6 g7 oks
   go_wp2_with fail
   refine name_world (fun W=>Below w.heap.size w W∧Below wr.heap.size wr W∧wr.heap.size+1≤W.heap.size∧B2 W w.heap.size vc (.slice (some ⟨b,o,none⟩) f.methods.length mcap)∧B8 W wr.heap.size (.slice pa t.params.length pcap) (.int .i64 t.ret.kind) (.int .i64 t.ret.cls) (.int .i64 t.stack) (.int .i64 t.locals) (.int .i64 t.regs) (.slice da t.code.length dcap) (.slice ha t.handlers.length hcap)) ?_ ?_
   ·refine ⟨Rd.byB,Rd.byB,?_,⟨?_,?_⟩,⟨?_,?_,?_,?_,?_,?_,?_,?_⟩⟩
    all_goals go_simp
   rintro W ⟨hbw,hbr,hsz,⟨f1,f2⟩,⟨m0,m1,m2,m3,m4,m5,m6,m7⟩⟩;have hbs:=hbw.size;have hfW:=hf0.mono hbw hbs;have hmW:=hvm.mono hbw hbs;have htW:=hts0.next hbw;clear c1 c2 k0 k1 k2 k3 k4 k5 k6 k7 mel;obtain ⟨ph,hph⟩:∃ p,Hid (Form.head f.classes.length t 2400=p):=⟨_,rfl⟩;obtain ⟨Z,hS⟩:∃ S,Hid (Form.slots t.params=S):=⟨_,rfl⟩;obtain ⟨pl,hpl⟩:∃ p,Hid (within t.regs 1 90=p):=⟨_,rfl⟩
   cases ph
   ·
    refine Drawn.hd (fun w'=>(w'.cell? ⟨w.heap.size,0,none⟩=some vc∧w'.cell? ⟨w.heap.size,1,none⟩=some (.slice (some ⟨b,o,none⟩) f.methods.length mcap))∧w'.cell? ⟨wr.heap.size,0,none⟩=some (.slice pa t.params.length pcap)∧w'.cell? ⟨wr.heap.size,1,none⟩=some (.int .i64 t.ret.kind)∧w'.cell? ⟨wr.heap.size,2,none⟩=some (.int .i64 t.ret.cls)∧w'.cell? ⟨wr.heap.size,3,none⟩=some (.int .i64 t.stack)∧w'.cell? ⟨wr.heap.size,4,none⟩=some (.int .i64 t.locals)∧w'.cell? ⟨wr.heap.size,5,none⟩=some (.int .i64 t.regs)∧w'.cell? ⟨wr.heap.size,6,none⟩=some (.slice da t.code.length dcap)∧w'.cell? ⟨wr.heap.size,7,none⟩=some (.slice ha t.handlers.length hcap)) (hS:=by (try dsimp only);first | exact ⟨⟨f1,f2⟩,m0,m1,m2,m3,m4,m5,m6,m7⟩ | go_keep) (h:=fun hHeld=>?_)
    refine dT 0 29 ?_;refine dT 1 30 ?_;refine Drawn.cl 2 (fun K hK=>?_);go_simp
    go_at_call 51
    refine (FormR.headV f t 2400 _ _ _ _ hph.out (hfW.mono Rd.byB (by simp)) (hmW.mono Rd.byB (by simp)) (by omega)).mono ?_
    rintro e w2 ⟨rfl,hb2⟩;have hbW:Below W.heap.size W w2:=Below.trans Rd.byB (hb2.mono (by simp))
    have k2:=B2.next ⟨f1,f2⟩ hbW (by omega)
    have k8:=B8.next ⟨m0,m1,m2,m3,m4,m5,m6,m7⟩ hbW (by omega)
    go_wp2_with fail
    refine Drawn.bk hK (hS:=by (try dsimp only);exact ⟨k2,k8⟩) (h:=fun hHeld=>?_)
    clear hK K;refine dT 3 32 ?_;refine dT 4 33 ?_;refine dS 5 34 ?_;refine dS 6 35 ?_;refine dS 7 36 ?_;refine dT 8 37 ?_;refine dT 9 38 ?_;refine dS 10 39 ?_;refine dS 11 40 ?_;refine dS 12 41 ?_;refine dT 13 42 ?_;refine dT 14 43 ?_;refine dS 15 44 ?_;refine dS 16 45 ?_;refine dS 17 46 ?_;refine dS 18 47 ?_;refine dT 19 48 ?_;refine dT 20 49 ?_;refine dS 21 50 ?_;refine dS 22 51 ?_;refine dS 23 52 ?_;refine dS 24 53 ?_;refine dS 25 54 ?_;refine dS 26 55 ?_;refine dT 27 56 ?_;refine dN ?_
    go_wp2
    go_ret;exact ⟨ret_bool (by rw [hall0.out];simp [hno.out (rme_head hph.out)]),hbw.trans (hbW.mono hbs)⟩
   ·by_cases hs0:t.stack=0
    ·have hst0:(t.stack != 0)=false:=by simpa using hs0
     have HS0:=Lib.hid hs0;clear hs0
     by_cases hl0:t.locals=0
     ·have hlo0:(t.locals != 0)=false:=by simpa using hl0
      have HL0:=Lib.hid hl0;clear hl0
      have hp4:t.params.length≤4:=by
       have h:=hph.out;simp only [Form.head,Bool.and_eq_true,decide_eq_true_eq] at h;exact h.1.1.1.2
      cases pl
      ·
       refine Drawn.hd (fun w'=>(w'.cell? ⟨w.heap.size,0,none⟩=some vc∧w'.cell? ⟨w.heap.size,1,none⟩=some (.slice (some ⟨b,o,none⟩) f.methods.length mcap))∧w'.cell? ⟨wr.heap.size,0,none⟩=some (.slice pa t.params.length pcap)∧w'.cell? ⟨wr.heap.size,1,none⟩=some (.int .i64 t.ret.kind)∧w'.cell? ⟨wr.heap.size,2,none⟩=some (.int .i64 t.ret.cls)∧w'.cell? ⟨wr.heap.size,3,none⟩=some (.int .i64 t.stack)∧w'.cell? ⟨wr.heap.size,4,none⟩=some (.int .i64 t.locals)∧w'.cell? ⟨wr.heap.size,5,none⟩=some (.int .i64 t.regs)∧w'.cell? ⟨wr.heap.size,6,none⟩=some (.slice da t.code.length dcap)∧w'.cell? ⟨wr.heap.size,7,none⟩=some (.slice ha t.handlers.length hcap)) (hS:=by (try dsimp only);first | exact ⟨⟨f1,f2⟩,m0,m1,m2,m3,m4,m5,m6,m7⟩ | go_keep) (h:=fun hHeld=>?_)
       refine dT 0 29 ?_;refine dT 1 30 ?_;refine Drawn.cl 2 (fun K hK=>?_);go_simp
       go_at_call 51
       refine (FormR.headV f t 2400 _ _ _ _ hph.out (hfW.mono Rd.byB (by simp)) (hmW.mono Rd.byB (by simp)) (by omega)).mono ?_
       rintro e w2 ⟨rfl,hb2⟩;have hbW:Below W.heap.size W w2:=Below.trans Rd.byB (hb2.mono (by simp))
       have k2:=B2.next ⟨f1,f2⟩ hbW (by omega)
       have k8:=B8.next ⟨m0,m1,m2,m3,m4,m5,m6,m7⟩ hbW (by omega)
       go_wp2_with fail
       refine Drawn.bk hK (hS:=by (try dsimp only);exact ⟨k2,k8⟩) (h:=fun hHeld=>?_)
       clear hK K;refine dT 3 32 ?_;refine dT 4 33 ?_;refine dT 5 34 ?_;refine dT 6 35 ?_;refine dT 7 36 ?_;refine dT 8 37 ?_;refine dT 9 38 ?_;refine dT 10 39 ?_;refine dT 11 40 ?_;refine dT 12 41 ?_;refine dT 13 42 ?_;refine dT 14 43 ?_;refine dT 15 44 ?_;refine dT 16 45 ?_;refine Drawn.cl 17 (fun K hK=>?_);go_simp
       go_at_call 50
       refine (wiV _ _ _ _ _ hpl.out).mono ?_;rintro e w3 ⟨rfl,rfl⟩
       go_wp2_with fail
       refine Drawn.bk hK (hS:=by (try dsimp only);exact ⟨k2,k8⟩) (h:=fun hHeld=>?_)
       clear hK K;refine dT 18 47 ?_;refine dT 19 48 ?_;refine dT 20 49 ?_;refine dS 21 50 ?_;refine dS 22 51 ?_;refine dS 23 52 ?_;refine dS 24 53 ?_;refine dS 25 54 ?_;refine dS 26 55 ?_;refine dT 27 56 ?_;refine dN ?_
       go_wp2
       go_ret;exact ⟨ret_bool (by rw [hall0.out];simp [hno.out (rme_regs (.inl hpl.out))]),hbw.trans (hbW.mono hbs)⟩
      ·
       refine Drawn.hd (fun w'=>(w'.cell? ⟨w.heap.size,0,none⟩=some vc∧w'.cell? ⟨w.heap.size,1,none⟩=some (.slice (some ⟨b,o,none⟩) f.methods.length mcap))∧w'.cell? ⟨wr.heap.size,0,none⟩=some (.slice pa t.params.length pcap)∧w'.cell? ⟨wr.heap.size,1,none⟩=some (.int .i64 t.ret.kind)∧w'.cell? ⟨wr.heap.size,2,none⟩=some (.int .i64 t.ret.cls)∧w'.cell? ⟨wr.heap.size,3,none⟩=some (.int .i64 t.stack)∧w'.cell? ⟨wr.heap.size,4,none⟩=some (.int .i64 t.locals)∧w'.cell? ⟨wr.heap.size,5,none⟩=some (.int .i64 t.regs)∧w'.cell? ⟨wr.heap.size,6,none⟩=some (.slice da t.code.length dcap)∧w'.cell? ⟨wr.heap.size,7,none⟩=some (.slice ha t.handlers.length hcap)) (hS:=by (try dsimp only);first | exact ⟨⟨f1,f2⟩,m0,m1,m2,m3,m4,m5,m6,m7⟩ | go_keep) (h:=fun hHeld=>?_)
       refine dT 0 29 ?_;refine dT 1 30 ?_;refine Drawn.cl 2 (fun K hK=>?_);go_simp
       go_at_call 51
       refine (FormR.headV f t 2400 _ _ _ _ hph.out (hfW.mono Rd.byB (by simp)) (hmW.mono Rd.byB (by simp)) (by omega)).mono ?_
       rintro e w2 ⟨rfl,hb2⟩;have hbW:Below W.heap.size W w2:=Below.trans Rd.byB (hb2.mono (by simp))
       have k2:=B2.next ⟨f1,f2⟩ hbW (by omega)
       have k8:=B8.next ⟨m0,m1,m2,m3,m4,m5,m6,m7⟩ hbW (by omega)
       go_wp2_with fail
       refine Drawn.bk hK (hS:=by (try dsimp only);exact ⟨k2,k8⟩) (h:=fun hHeld=>?_)
       clear hK K;refine dT 3 32 ?_;refine dT 4 33 ?_;refine dT 5 34 ?_;refine dT 6 35 ?_;refine dT 7 36 ?_;refine dT 8 37 ?_;refine dT 9 38 ?_;refine dT 10 39 ?_;refine dT 11 40 ?_;refine dT 12 41 ?_;refine dT 13 42 ?_;refine dT 14 43 ?_;refine dT 15 44 ?_;refine dT 16 45 ?_;refine Drawn.cl 17 (fun K hK=>?_);go_simp
       go_at_call 50
       refine (wiV _ _ _ _ _ hpl.out).mono ?_;rintro e w3 ⟨rfl,rfl⟩
       go_wp2_with fail
       refine Drawn.bk hK (hS:=by (try dsimp only);exact ⟨k2,k8⟩) (h:=fun hHeld=>?_)
       clear hK K;refine dT 18 47 ?_;refine dT 19 48 ?_;refine dT 20 49 ?_;refine dT 21 50 ?_;refine dT 22 51 ?_;refine dT 23 52 ?_;refine dT 24 53 ?_;refine Drawn.cl 25 (fun K hK=>?_);go_simp
       go_at_call 52
       refine (FormR.slotsV _ t.params Z _ (htW.next hbW) (by omega) hS.out).mono ?_
       rintro e w4 ⟨rfl,rfl⟩
       go_wp2_with fail
       refine Drawn.bk hK (hS:=by (try dsimp only);exact ⟨k2,k8⟩) (h:=fun hHeld=>?_)
       clear hK K;refine dT 26 55 ?_;refine dT 27 56 ?_;refine dN ?_;have hbX2:Below w.heap.size w w2:=hbw.trans (hbW.mono hbs);have hbX3:=hbX2.size;have hbX4:=hbW.size
       have hregs:0≤t.regs∧t.regs≤90:=by
        have h:=hpl.out;simp only [within,decide_eq_true_eq] at h;omega
       by_cases hlz:t.regs < (Z:Int)
       ·have HLZ:Hid (t.regs < (Form.slots t.params:Nat)):=by show _ < _;rw [hS.out];exact hlz
        go_wp2
        go_ret;exact ⟨ret_bool (by rw [hall0.out];simp [hno.out (rme_regs (.inr HLZ.out))]),hbX2⟩
       ·have hnl:Hid (¬ t.regs < (Form.slots t.params:Nat)):=by show ¬ _;rw [hS.out];exact hlz
        clear f1 f2 m0 m1 m2 m3 m4 m5 m6 m7 htW hfW hmW hts0;obtain ⟨f1,f2⟩:=k2;obtain ⟨m0,m1,m2,m3,m4,m5,m6,m7⟩:=k8;have hw2:Below wr.heap.size wr w2:=hbr.trans (hbW.mono hbr.size)
        go_wp2_with fail
        obtain ⟨wo,rfl⟩:∃ wo:World,wo=wr:=⟨_,rfl⟩
        go_loopw [5] (fun i wr=>∃ j:Nat,j≤t.code.length∧i=.int .i64 j∧Below w2.heap.size w2 wr∧Hid (∀ i (h:i < t.code.length),i < j→Rform.ins f t t.code[i]=true)) (fun i _=>t.code.length - (intOf i).toNat)
        case atStart=>exact ⟨0,by omega,rfl,Rd.byB,fun j _ h=>absurd h (by omega)⟩
        case round =>
         obtain ⟨j,hj,rfl,hr,hall2⟩:=hrel;have hrs:=hr.size;have hwr3:Below w.heap.size w wr:=hbX2.trans (hr.mono hbX3);have hwr4:Below wo.heap.size wo wr:=hw2.trans (hr.mono hw2.size);have hwrs3:=hwr3.size;have n4:w.heap.size < wr.heap.size:=by omega
         have n5:wo.heap.size < wr.heap.size:=by omega
         have c1:=kept hr (by omega) f1
         have c2:=kept hr (by omega) f2
         have c3:=kept hr (by omega) m0
         have c4:=kept hr (by omega) m1
         have c5:=kept hr (by omega) m2
         have c6:=kept hr (by omega) m3
         have c7:=kept hr (by omega) m4
         have c8:=kept hr (by omega) m5
         have c9:=kept hr (by omega) m6
         have c10:=kept hr (by omega) m7
         clear f1 f2 m0 m1 m2 m3 m4 m5 m6 m7
         by_cases hlt2:j < t.code.length
         ·obtain ⟨b2,o2,rfl,hb2',he2⟩:=del j hlt2;have hyes2:=Lib.hid (Form.all_step (p:=Rform.ins f t) hall2.out hlt2);have hno2:=Lib.hid (rme_ins (f:=f) hlt2);obtain ⟨x,hx⟩:=at_of hlt2;rw [hx.out] at he2 hyes2 hno2;obtain ⟨g1,g2,g3,g4,g5,oks,va,g6,gargs⟩:=he2;have hvi:VIns w w.heap.size (.agg #[.int .i64 x.op,.int .i64 x.a,.int .i64 x.b,.int .i64 x.c,.int .i64 x.n,va]) x:=⟨va,rfl,oks,gargs⟩;obtain ⟨aa,acap,rfl,alc,acc,_⟩:=gargs;have k1:=kept hwr3 hb2' g1;have k2:=kept hwr3 hb2' g2;have k3:=kept hwr3 hb2' g3;have k4:=kept hwr3 hb2' g4;have k5:=kept hwr3 hb2' g5;have k6:=kept hwr3 hb2' g6;have hI2:(j:Int) < t.code.length:=by omega
          have hI3:(0:Int)≤(j:Int)∧(j:Int) < t.code.length:=⟨by omega,by omega⟩
          clear del g1 g2 g3 g4 g5 g6;obtain ⟨p,hp⟩:∃ p,Hid (Rform.ins f t x=p):=⟨_,rfl⟩
          go_wp2_with fail
          refine Drawn.hd (fun w'=>(w'.cell? ⟨w.heap.size,0,none⟩=some vc∧w'.cell? ⟨w.heap.size,1,none⟩=some (.slice (some ⟨b,o,none⟩) f.methods.length mcap))∧(w'.cell? ⟨wo.heap.size,0,none⟩=some (.slice pa t.params.length pcap)∧w'.cell? ⟨wo.heap.size,1,none⟩=some (.int .i64 t.ret.kind)∧w'.cell? ⟨wo.heap.size,2,none⟩=some (.int .i64 t.ret.cls)∧w'.cell? ⟨wo.heap.size,3,none⟩=some (.int .i64 t.stack)∧w'.cell? ⟨wo.heap.size,4,none⟩=some (.int .i64 t.locals)∧w'.cell? ⟨wo.heap.size,5,none⟩=some (.int .i64 t.regs)∧w'.cell? ⟨wo.heap.size,6,none⟩=some (.slice (some ⟨b2,o2,none⟩) t.code.length dcap)∧w'.cell? ⟨wo.heap.size,7,none⟩=some (.slice ha t.handlers.length hcap))∧w'.cell? ⟨b2,o2+j*6,none⟩=some (.int .i64 x.op)∧w'.cell? ⟨b2,o2+j*6+1,none⟩=some (.int .i64 x.a)∧w'.cell? ⟨b2,o2+j*6+2,none⟩=some (.int .i64 x.b)∧w'.cell? ⟨b2,o2+j*6+3,none⟩=some (.int .i64 x.c)∧w'.cell? ⟨b2,o2+j*6+4,none⟩=some (.int .i64 x.n)∧w'.cell? ⟨b2,o2+j*6+5,none⟩=some (.slice aa x.args.length acap)) (hS:=by (try dsimp only);first | exact ⟨⟨c1,c2⟩,⟨c3,c4,c5,c6,c7,c8,c9,c10⟩,k1,k2,k3,k4,k5,k6⟩ | go_keep) (h:=fun hHeld=>?_)
          refine dT 0 64 ?_;refine dT 1 65 ?_;refine dT 2 66 ?_;refine dT 3 67 ?_;refine dT 4 68 ?_;refine dT 5 69 ?_;refine dT 6 70 ?_;refine Drawn.cl 7 (fun K hK=>?_);go_simp
          go_at_call 59
          refine (insV f t x p _ _ _ _ hp.out (hf0.mono (hwr3.drew) (by simp;omega)) (hvm.mono (hwr3.drew) (by simp;omega)) (hvi.mono (hwr3.drew) (by simp;omega)) hregs).mono ?_
          rintro e w6 ⟨rfl,hb6⟩;have hw6:Below wr.heap.size wr w6:=Below.trans Rd.byB (hb6.mono (by simp))
          have hw7:Below wo.heap.size wo w6:=hwr4.trans (hw6.mono hwr4.size)
          go_wp2_with fail
          refine Drawn.bk hK (hS:=by (try dsimp only);exact ⟨⟨kept hw6 n4 c1,kept hw6 n4 c2⟩,⟨kept hw6 n5 c3,kept hw6 n5 c4,kept hw6 n5 c5,kept hw6 n5 c6,kept hw6 n5 c7,kept hw6 n5 c8,kept hw6 n5 c9,kept hw6 n5 c10⟩,kept hw6 (by omega) k1,kept hw6 (by omega) k2,kept hw6 (by omega) k3,kept hw6 (by omega) k4,kept hw6 (by omega) k5,kept hw6 (by omega) k6⟩) (h:=fun hHeld=>?_)
          clear hK K;refine dT 8 72 ?_;refine dN ?_
          cases p
          ·go_wp2_with fail
           go_ret;exact ⟨ret_bool (by rw [hall0.out];simp [hno.out (hno2.out hp.out)]),hwr3.trans (hw6.mono hwrs3)⟩
          ·go_wp2_with fail
           go_roundw
           case rel=>exact ⟨j+1,by omega,by go_num,hr.trans (hw6.mono hrs),hyes2.out hp.out⟩
           case measure=>simp [intOf];omega
         ·have hge2:¬ (j:Int) < t.code.length:=by omega
          have hh:=Lib.hid (hyes.out (rme_yes hph.out HS0.out HL0.out hpl.out (by have:=hnl.out;omega) (fun i hi=>hall2.out i hi (by omega))))
          clear del
          go_wp2_with fail
          go_roundw
          case rel=>exact ⟨k+1,by omega,by go_num,hq2.out.trans (hbr.trans (hbW.mono hbr.size) |>.trans (hr.mono (hw2.size)) |>.mono hqs),hh.out⟩
          case measure=>simp [intOf];omega
     ·have hlo0:(t.locals != 0)=true:=by simpa using hl0
      have HL0:=Lib.hid hl0;clear hl0;refine Drawn.hd (fun w'=>(w'.cell? ⟨w.heap.size,0,none⟩=some vc∧w'.cell? ⟨w.heap.size,1,none⟩=some (.slice (some ⟨b,o,none⟩) f.methods.length mcap))∧w'.cell? ⟨wr.heap.size,0,none⟩=some (.slice pa t.params.length pcap)∧w'.cell? ⟨wr.heap.size,1,none⟩=some (.int .i64 t.ret.kind)∧w'.cell? ⟨wr.heap.size,2,none⟩=some (.int .i64 t.ret.cls)∧w'.cell? ⟨wr.heap.size,3,none⟩=some (.int .i64 t.stack)∧w'.cell? ⟨wr.heap.size,4,none⟩=some (.int .i64 t.locals)∧w'.cell? ⟨wr.heap.size,5,none⟩=some (.int .i64 t.regs)∧w'.cell? ⟨wr.heap.size,6,none⟩=some (.slice da t.code.length dcap)∧w'.cell? ⟨wr.heap.size,7,none⟩=some (.slice ha t.handlers.length hcap)) (hS:=by (try dsimp only);first | exact ⟨⟨f1,f2⟩,m0,m1,m2,m3,m4,m5,m6,m7⟩ | go_keep) (h:=fun hHeld=>?_)
      refine dT 0 29 ?_;refine dT 1 30 ?_;refine Drawn.cl 2 (fun K hK=>?_);go_simp
      go_at_call 51
      refine (FormR.headV f t 2400 _ _ _ _ hph.out (hfW.mono Rd.byB (by simp)) (hmW.mono Rd.byB (by simp)) (by omega)).mono ?_
      rintro e w2 ⟨rfl,hb2⟩;have hbW:Below W.heap.size W w2:=Below.trans Rd.byB (hb2.mono (by simp))
      have k2:=B2.next ⟨f1,f2⟩ hbW (by omega)
      have k8:=B8.next ⟨m0,m1,m2,m3,m4,m5,m6,m7⟩ hbW (by omega)
      go_wp2_with fail
      refine Drawn.bk hK (hS:=by (try dsimp only);exact ⟨k2,k8⟩) (h:=fun hHeld=>?_)
      clear hK K;refine dT 3 32 ?_;refine dT 4 33 ?_;refine dT 5 34 ?_;refine dT 6 35 ?_;refine dT 7 36 ?_;refine dT 8 37 ?_;refine dT 9 38 ?_;refine dT 10 39 ?_;refine dT 11 40 ?_;refine dT 12 41 ?_;refine dT 13 42 ?_;refine dT 14 43 ?_;refine dS 15 44 ?_;refine dS 16 45 ?_;refine dS 17 46 ?_;refine dS 18 47 ?_;refine dT 19 48 ?_;refine dT 20 49 ?_;refine dS 21 50 ?_;refine dS 22 51 ?_;refine dS 23 52 ?_;refine dS 24 53 ?_;refine dS 25 54 ?_;refine dS 26 55 ?_;refine dT 27 56 ?_;refine dN ?_
      go_wp2
      go_ret;exact ⟨ret_bool (by rw [hall0.out];simp [hno.out (rme_locals HL0.out)]),hbw.trans (hbW.mono hbs)⟩
    ·have hst0:(t.stack != 0)=true:=by simpa using hs0
     have HS0:=Lib.hid hs0;clear hs0;refine Drawn.hd (fun w'=>(w'.cell? ⟨w.heap.size,0,none⟩=some vc∧w'.cell? ⟨w.heap.size,1,none⟩=some (.slice (some ⟨b,o,none⟩) f.methods.length mcap))∧w'.cell? ⟨wr.heap.size,0,none⟩=some (.slice pa t.params.length pcap)∧w'.cell? ⟨wr.heap.size,1,none⟩=some (.int .i64 t.ret.kind)∧w'.cell? ⟨wr.heap.size,2,none⟩=some (.int .i64 t.ret.cls)∧w'.cell? ⟨wr.heap.size,3,none⟩=some (.int .i64 t.stack)∧w'.cell? ⟨wr.heap.size,4,none⟩=some (.int .i64 t.locals)∧w'.cell? ⟨wr.heap.size,5,none⟩=some (.int .i64 t.regs)∧w'.cell? ⟨wr.heap.size,6,none⟩=some (.slice da t.code.length dcap)∧w'.cell? ⟨wr.heap.size,7,none⟩=some (.slice ha t.handlers.length hcap)) (hS:=by (try dsimp only);first | exact ⟨⟨f1,f2⟩,m0,m1,m2,m3,m4,m5,m6,m7⟩ | go_keep) (h:=fun hHeld=>?_)
     refine dT 0 29 ?_;refine dT 1 30 ?_;refine Drawn.cl 2 (fun K hK=>?_);go_simp
     go_at_call 51
     refine (FormR.headV f t 2400 _ _ _ _ hph.out (hfW.mono Rd.byB (by simp)) (hmW.mono Rd.byB (by simp)) (by omega)).mono ?_
     rintro e w2 ⟨rfl,hb2⟩;have hbW:Below W.heap.size W w2:=Below.trans Rd.byB (hb2.mono (by simp))
     have k2:=B2.next ⟨f1,f2⟩ hbW (by omega)
     have k8:=B8.next ⟨m0,m1,m2,m3,m4,m5,m6,m7⟩ hbW (by omega)
     go_wp2_with fail
     refine Drawn.bk hK (hS:=by (try dsimp only);exact ⟨k2,k8⟩) (h:=fun hHeld=>?_)
     clear hK K;refine dT 3 32 ?_;refine dT 4 33 ?_;refine dT 5 34 ?_;refine dT 6 35 ?_;refine dT 7 36 ?_;refine dT 8 37 ?_;refine dT 9 38 ?_;refine dS 10 39 ?_;refine dS 11 40 ?_;refine dS 12 41 ?_;refine dT 13 42 ?_;refine dT 14 43 ?_;refine dS 15 44 ?_;refine dS 16 45 ?_;refine dS 17 46 ?_;refine dS 18 47 ?_;refine dT 19 48 ?_;refine dT 20 49 ?_;refine dS 21 50 ?_;refine dS 22 51 ?_;refine dS 23 52 ?_;refine dS 24 53 ?_;refine dS 25 54 ?_;refine dS 26 55 ?_;refine dT 27 56 ?_;refine dN ?_
     go_wp2
     go_ret;exact ⟨ret_bool (by rw [hall0.out];simp [hno.out (rme_stack HS0.out)]),hbw.trans (hbW.mono hbs)⟩
  ·have hst:=Lib.hid (Form.all_of (p:=Rform.rme f) (fun j hj=>hall.out j hj (by omega)))
   clear hall mel
   go_wp2_with fail
   go_ret;exact ⟨ret_bool (by rw [hall0.out,hst.out];rfl),hwr⟩
end RefG
end Go.Proofs.Ytncmhenfgbcihab
