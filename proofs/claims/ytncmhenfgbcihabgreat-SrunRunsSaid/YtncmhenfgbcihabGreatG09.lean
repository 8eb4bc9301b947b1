/- Parts of the proof: FormRY. -/
import Derived.Test.YtncmhenfgbcihabGreatG08
set_option linter.unusedSimpArgs false
set_option linter.unusedVariables false
set_option maxHeartbeats 8000000
namespace Go.Proofs.YtncmhenfgbcihabGreat
open Go.RowKit
namespace FormR
open Num Rd D HierW FormW
theorem headV (f:Fi) (m:Me) (most:Int) (p:Bool) (vf vm:Value) (w:World) (hp:Form.head f.classes.length m most=p) (hf:VFi w w.heap.size vf f) (hm:VMe w w.heap.size vm m) (hmost:0≤most∧most≤100000) :
  Calls Tryz.prog 27 #[vf,vm,.int .i64 most] w fun e w'=>e=.returned (.bool p)∧Below w.heap.size w w':=by
 subst hp;exact head f m most vf vm w hf hm hmost
theorem insV (f:Fi) (m:Me) (i:Ins) (p:Bool) (vf vm vi:Value) (w:World) (hp:Form.sins f.classes f.methods.length m.code.length m.locals i=p) (hf:VFi w w.heap.size vf f) (hm:VMe w w.heap.size vm m) (hi:VIns w w.heap.size vi i) (hloc:0≤m.locals∧m.locals≤60) :
  Calls Tryz.prog 29 #[vf,vm,vi] w fun e w'=>e=.returned (.bool p)∧Below w.heap.size w w':=by
 subst hp;exact ins f m i vf vm vi w hf hm hi hloc
theorem rmayV (v:Value) (l:List Cls) (p:Bool) (w:World) (hp:Hier.may l=p) (h:Cs w v l):Calls Tryz.prog 25 #[v] w fun e w'=>e=.returned (.bool p)∧Below w.heap.size w w':=by
 subst hp;exact rmay v l w h
theorem sme_head {f:Fi}{m:Me}(h:Form.head f.classes.length m 400=false):Form.sme f m=false:=by simp [Form.sme,h]
theorem sme_regs {f:Fi}{m:Me}(h:m.regs≠0):Form.sme f m=false:=by simp [Form.sme,h]
theorem sme_stack {f:Fi}{m:Me}(h:Form.rng m.stack 0 31=false):Form.sme f m=false:=by simp [Form.sme,h]
theorem sme_locals {f:Fi}{m:Me}(h:Form.rng m.locals (Form.slots m.params) 61=false):Form.sme f m=false:=by simp [Form.sme,h]
theorem sme_ins {f:Fi}{m:Me}{k:Nat}(hk:k < m.code.length) (h:Form.sins f.classes f.methods.length m.code.length m.locals m.code[k]=false):Form.sme f m=false:=by
 simp [Form.sme,Form.all_not hk h]
theorem sme_yes {f:Fi}{m:Me}(h1:Form.head f.classes.length m 400=true) (h2:m.regs=0) (h3:Form.rng m.stack 0 31=true) (h4:Form.rng m.locals (Form.slots m.params) 61=true)
  (h5:∀ j (h:j < m.code.length),Form.sins f.classes f.methods.length m.code.length m.locals m.code[j]=true):Form.sme f m=true:=by
 have:=Form.all_of h5
 simp [Form.sme,h1,h2,h3,h4,this]
set_option maxRecDepth 100000 in
theorem smay (f:Fi) (vf:Value) (w:World) (hf:VFi w w.heap.size vf f) :
  Calls Tryz.prog 8 #[vf] w fun e w'=>e=.returned (.bool (Form.smay f))∧Below w.heap.size w w':=by
 have hf0:=hf
 obtain ⟨vc,vme,rfl,hcs,⟨ma,mcap,rfl,mlc,mcc,mel⟩⟩:=hf
 obtain ⟨ph,hph⟩:∃ p,Hid (Hier.may f.classes=p):=⟨_,rfl⟩
 obtain ⟨pn,hpn⟩:∃ p,Hid (within f.methods.length 1 8=p):=⟨_,rfl⟩
 have hall0:Hid (Form.smay f=(ph && pn && f.methods.all (Form.sme f))):=by
  show _=_
  rw [← hph.out,← hpn.out,within_rng];rfl
 cases ph <;> cases pn
 all_goals go_enter Tryz.func8,Tryz.ntmps8
 all_goals go_wp2_with (first
  | (go_at_call 25;refine (rmayV _ _ _ _ hph.out (Cs.next hcs Rd.byB)).mono ?_;rintro e w1 ⟨rfl,hb1⟩;have hw1:Below w.heap.size w w1:=Below.trans Rd.byB (hb1.mono (by simp));have y0:w1.cell? ⟨w.heap.size,0,none⟩=some vc:=kept hb1 (by simp) (by go_simp);have y1:w1.cell? ⟨w.heap.size,1,none⟩=some (.slice ma f.methods.length mcap):=kept hb1 (by simp) (by go_simp))
  | (go_at_call 26;refine (wiV _ _ _ _ _ hpn.out).mono ?_;rintro e w2 ⟨rfl,rfl⟩))
 all_goals first
  | (
       go_ret
       exact ⟨ret_bool (by rw [hall0.out];simp),hw1⟩)
  | skip
 have hws:=hw1.size
 have nn:w.heap.size < w1.heap.size:=by have:=lt_cell y0;omega
 go_loopw [3] (fun i wr=>∃ k:Nat,k≤f.methods.length∧i=.int .i64 k∧Below w1.heap.size w1 wr∧Hid (∀ j (h:j < f.methods.length),j < k→Form.sme f f.methods[j]=true)) (fun i _=>f.methods.length - (intOf i).toNat)
 case atStart=>exact ⟨0,by omega,rfl,Rd.byB,fun j _ h=>absurd h (by omega)⟩
 case round =>
  obtain ⟨k,hk,rfl,hq,hall⟩:=hrel
  have hqs:=hq.size
  have hwr:Below w.heap.size w wr:=hw1.trans (hq.mono hws)
  have hwrs:=hwr.size
  have n3:w.heap.size < wr.heap.size:=by omega
  have c1:=kept hq (by omega) y0
  have c2:=kept hq (by omega) y1
  clear y0 y1
  by_cases hlt:k < f.methods.length
  ·obtain ⟨b,o,rfl,hb,he⟩:=mel k hlt
   have hyes:=Lib.hid (Form.all_step (p:=Form.sme f) hall.out hlt)
   have hno:=Lib.hid (Form.all_not (p:=Form.sme f) hlt)
   obtain ⟨t,ht⟩:=at_of hlt
   rw [ht.out] at he hyes hno
   obtain ⟨vp,vd,vh,g0,g1,g2,g3,g4,g5,g6,g7,oks,s1,s2,s3⟩:=he
   have hvm:VMe w w.heap.size (.agg #[vp,.int .i64 t.ret.kind,.int .i64 t.ret.cls,.int .i64 t.stack,.int .i64 t.locals,.int .i64 t.regs,vd,vh]) t:=⟨vp,vd,vh,rfl,oks,s1,s2,s3⟩
   obtain ⟨pa,pcap,rfl,plc,pcc,pel⟩:=s1
   have hts0:Ts w (.slice pa t.params.length pcap) t.params:=⟨pa,pcap,rfl,plc,pcc,pel⟩
   clear pel
   obtain ⟨da,dcap,rfl,dlc,dcc,del⟩:=s2
   obtain ⟨ha,hcap,rfl,_,_,_⟩:=s3
   have k0:=kept hwr hb g0
   have k1:=kept hwr hb g1
   have k2:=kept hwr hb g2
   have k3:=kept hwr hb g3
   have k4:=kept hwr hb g4
   have k5:=kept hwr hb g5
   have k6:=kept hwr hb g6
   have k7:=kept hwr hb g7
   have hq2:=Lib.hid hq
   have hwr2:=Lib.hid hwr
   have ok5:=oks.2.2.2.2
   have ok4:=oks.2.2.2.1
   unfold Ok at ok5 ok4
   clear g0 g1 g2 g3 g4 g5 g6 g7 oks
   go_wp2_with fail
   refine name_world (fun W=>Below w.heap.size w W∧Below wr.heap.size wr W∧wr.heap.size+1≤W.heap.size∧B2 W w.heap.size vc (.slice (some ⟨b,o,none⟩) f.methods.length mcap)∧B8 W wr.heap.size (.slice pa t.params.length pcap) (.int .i64 t.ret.kind) (.int .i64 t.ret.cls) (.int .i64 t.stack) (.int .i64 t.locals) (.int .i64 t.regs) (.slice da t.code.length dcap) (.slice ha t.handlers.length hcap)) ?_ ?_
   ·refine ⟨Rd.byB,Rd.byB,?_,⟨?_,?_⟩,⟨?_,?_,?_,?_,?_,?_,?_,?_⟩⟩
    all_goals go_simp
   rintro W ⟨hbw,hbr,hsz,⟨f1,f2⟩,⟨m0,m1,m2,m3,m4,m5,m6,m7⟩⟩
   have hbs:=hbw.size
   have hfW:=hf0.mono hbw hbs
   have hmW:=hvm.mono hbw hbs
   have htW:=hts0.next hbw
   clear c1 c2 k0 k1 k2 k3 k4 k5 k6 k7 mel
   obtain ⟨ph,hph⟩:∃ p,Hid (Form.head f.classes.length t 400=p):=⟨_,rfl⟩
   obtain ⟨pst,hps⟩:∃ p,Hid (within t.stack 0 30=p):=⟨_,rfl⟩
   obtain ⟨Z,hS⟩:∃ S,Hid (Form.slots t.params=S):=⟨_,rfl⟩
   obtain ⟨pl,hpl⟩:∃ p,Hid (within t.locals Z 60=p):=⟨_,rfl⟩
   cases ph
   ·
    refine Drawn.hd (fun w'=>(w'.cell? ⟨w.heap.size,0,none⟩=some vc∧w'.cell? ⟨w.heap.size,1,none⟩=some (.slice (some ⟨b,o,none⟩) f.methods.length mcap))∧w'.cell? ⟨wr.heap.size,0,none⟩=some (.slice pa t.params.length pcap)∧w'.cell? ⟨wr.heap.size,1,none⟩=some (.int .i64 t.ret.kind)∧w'.cell? ⟨wr.heap.size,2,none⟩=some (.int .i64 t.ret.cls)∧w'.cell? ⟨wr.heap.size,3,none⟩=some (.int .i64 t.stack)∧w'.cell? ⟨wr.heap.size,4,none⟩=some (.int .i64 t.locals)∧w'.cell? ⟨wr.heap.size,5,none⟩=some (.int .i64 t.regs)∧w'.cell? ⟨wr.heap.size,6,none⟩=some (.slice da t.code.length dcap)∧w'.cell? ⟨wr.heap.size,7,none⟩=some (.slice ha t.handlers.length hcap)) (hS:=by (try dsimp only);first | exact ⟨⟨f1,f2⟩,m0,m1,m2,m3,m4,m5,m6,m7⟩ | go_keep) (h:=fun hHeld=>?_)
    refine Drawn.T 0 (some 29) (h:=?_)
    refine Drawn.T 1 (some 30) (h:=?_)
    refine Drawn.cl 2 (fun K hK=>?_)
    go_simp
    go_at_call 27
    refine (headV f t 400 _ _ _ _ hph.out (hfW.mono Rd.byB (by simp)) (hmW.mono Rd.byB (by simp)) (by omega)).mono ?_
    rintro e w2 ⟨rfl,hb2⟩
    have hbW:Below W.heap.size W w2:=Below.trans Rd.byB (hb2.mono (by simp))
    have k2:=B2.next ⟨f1,f2⟩ hbW (by omega)
    have k8:=B8.next ⟨m0,m1,m2,m3,m4,m5,m6,m7⟩ hbW (by omega)
    go_wp2_with fail
    refine Drawn.bk hK (hS:=by (try dsimp only);exact ⟨k2,k8⟩) (h:=fun hHeld=>?_)
    clear hK K
    refine Drawn.T 3 (some 32) (h:=?_)
    refine Drawn.T 4 (some 33) (h:=?_)
    refine Drawn.ps 5 (some 34) rfl rfl (by assumption) ?_
    try simp only [Act.put,Drawn.La,Drawn.Lb,Drawn.Lc]
    refine Drawn.ps 6 (some 35) rfl rfl (by assumption) ?_
    try simp only [Act.put,Drawn.La,Drawn.Lb,Drawn.Lc]
    refine Drawn.ps 7 (some 36) rfl rfl (by assumption) ?_
    try simp only [Act.put,Drawn.La,Drawn.Lb,Drawn.Lc]
    refine Drawn.T 8 (some 37) (h:=?_)
    refine Drawn.T 9 (some 38) (h:=?_)
    refine Drawn.ps 10 (some 39) rfl rfl (by assumption) ?_
    try simp only [Act.put,Drawn.La,Drawn.Lb,Drawn.Lc]
    refine Drawn.ps 11 (some 40) rfl rfl (by assumption) ?_
    try simp only [Act.put,Drawn.La,Drawn.Lb,Drawn.Lc]
    refine Drawn.ps 12 (some 41) rfl rfl (by assumption) ?_
    try simp only [Act.put,Drawn.La,Drawn.Lb,Drawn.Lc]
    refine Drawn.ps 13 (some 42) rfl rfl (by assumption) ?_
    try simp only [Act.put,Drawn.La,Drawn.Lb,Drawn.Lc]
    refine Drawn.T 14 (some 43) (h:=?_)
    refine Drawn.T 15 (some 44) (h:=?_)
    refine Drawn.ps 16 (some 45) rfl rfl (by assumption) ?_
    try simp only [Act.put,Drawn.La,Drawn.Lb,Drawn.Lc]
    refine Drawn.ps 17 (some 46) rfl rfl (by assumption) ?_
    try simp only [Act.put,Drawn.La,Drawn.Lb,Drawn.Lc]
    refine Drawn.ps 18 (some 47) rfl rfl (by assumption) ?_
    try simp only [Act.put,Drawn.La,Drawn.Lb,Drawn.Lc]
    refine Drawn.ps 19 (some 48) rfl rfl (by assumption) ?_
    try simp only [Act.put,Drawn.La,Drawn.Lb,Drawn.Lc]
    refine Drawn.ps 20 (some 49) rfl rfl (by assumption) ?_
    try simp only [Act.put,Drawn.La,Drawn.Lb,Drawn.Lc]
    refine Drawn.ps 21 (some 50) rfl rfl (by assumption) ?_
    try simp only [Act.put,Drawn.La,Drawn.Lb,Drawn.Lc]
    refine Drawn.ps 22 (some 51) rfl rfl (by assumption) ?_
    try simp only [Act.put,Drawn.La,Drawn.Lb,Drawn.Lc]
    refine Drawn.T 23 (some 52) (h:=?_)
    refine wpAnyH_done (by kernel_rfl) ?_ _
    go_wp2
    go_ret
    exact ⟨ret_bool (by rw [hall0.out];simp [hno.out (sme_head hph.out)]),hbw.trans (hbW.mono hbs)⟩
   ·rcases (show (t.regs != 0)=true∨(t.regs != 0)=false by cases (t.regs != 0) <;> simp) with hreg | hreg
    ·
     refine Drawn.hd (fun w'=>(w'.cell? ⟨w.heap.size,0,none⟩=some vc∧w'.cell? ⟨w.heap.size,1,none⟩=some (.slice (some ⟨b,o,none⟩) f.methods.length mcap))∧w'.cell? ⟨wr.heap.size,0,none⟩=some (.slice pa t.params.length pcap)∧w'.cell? ⟨wr.heap.size,1,none⟩=some (.int .i64 t.ret.kind)∧w'.cell? ⟨wr.heap.size,2,none⟩=some (.int .i64 t.ret.cls)∧w'.cell? ⟨wr.heap.size,3,none⟩=some (.int .i64 t.stack)∧w'.cell? ⟨wr.heap.size,4,none⟩=some (.int .i64 t.locals)∧w'.cell? ⟨wr.heap.size,5,none⟩=some (.int .i64 t.regs)∧w'.cell? ⟨wr.heap.size,6,none⟩=some (.slice da t.code.length dcap)∧w'.cell? ⟨wr.heap.size,7,none⟩=some (.slice ha t.handlers.length hcap)) (hS:=by (try dsimp only);first | exact ⟨⟨f1,f2⟩,m0,m1,m2,m3,m4,m5,m6,m7⟩ | go_keep) (h:=fun hHeld=>?_)
     refine Drawn.T 0 (some 29) (h:=?_)
     refine Drawn.T 1 (some 30) (h:=?_)
     refine Drawn.cl 2 (fun K hK=>?_)
     go_simp
     go_at_call 27
     refine (headV f t 400 _ _ _ _ hph.out (hfW.mono Rd.byB (by simp)) (hmW.mono Rd.byB (by simp)) (by omega)).mono ?_
     rintro e w2 ⟨rfl,hb2⟩
     have hbW:Below W.heap.size W w2:=Below.trans Rd.byB (hb2.mono (by simp))
     have k2:=B2.next ⟨f1,f2⟩ hbW (by omega)
     have k8:=B8.next ⟨m0,m1,m2,m3,m4,m5,m6,m7⟩ hbW (by omega)
     go_wp2_with fail
     refine Drawn.bk hK (hS:=by (try dsimp only);exact ⟨k2,k8⟩) (h:=fun hHeld=>?_)
     clear hK K
     refine Drawn.T 3 (some 32) (h:=?_)
     refine Drawn.T 4 (some 33) (h:=?_)
     refine Drawn.T 5 (some 34) (h:=?_)
     refine Drawn.T 6 (some 35) (h:=?_)
     refine Drawn.T 7 (some 36) (h:=?_)
     refine Drawn.T 8 (some 37) (h:=?_)
     refine Drawn.T 9 (some 38) (h:=?_)
     refine Drawn.ps 10 (some 39) rfl rfl (by assumption) ?_
     try simp only [Act.put,Drawn.La,Drawn.Lb,Drawn.Lc]
     refine Drawn.ps 11 (some 40) rfl rfl (by assumption) ?_
     try simp only [Act.put,Drawn.La,Drawn.Lb,Drawn.Lc]
     refine Drawn.ps 12 (some 41) rfl rfl (by assumption) ?_
     try simp only [Act.put,Drawn.La,Drawn.Lb,Drawn.Lc]
     refine Drawn.ps 13 (some 42) rfl rfl (by assumption) ?_
     try simp only [Act.put,Drawn.La,Drawn.Lb,Drawn.Lc]
     refine Drawn.T 14 (some 43) (h:=?_)
     refine Drawn.T 15 (some 44) (h:=?_)
     refine Drawn.ps 16 (some 45) rfl rfl (by assumption) ?_
     try simp only [Act.put,Drawn.La,Drawn.Lb,Drawn.Lc]
     refine Drawn.ps 17 (some 46) rfl rfl (by assumption) ?_
     try simp only [Act.put,Drawn.La,Drawn.Lb,Drawn.Lc]
     refine Drawn.ps 18 (some 47) rfl rfl (by assumption) ?_
     try simp only [Act.put,Drawn.La,Drawn.Lb,Drawn.Lc]
     refine Drawn.ps 19 (some 48) rfl rfl (by assumption) ?_
     try simp only [Act.put,Drawn.La,Drawn.Lb,Drawn.Lc]
     refine Drawn.ps 20 (some 49) rfl rfl (by assumption) ?_
     try simp only [Act.put,Drawn.La,Drawn.Lb,Drawn.Lc]
     refine Drawn.ps 21 (some 50) rfl rfl (by assumption) ?_
     try simp only [Act.put,Drawn.La,Drawn.Lb,Drawn.Lc]
     refine Drawn.ps 22 (some 51) rfl rfl (by assumption) ?_
     try simp only [Act.put,Drawn.La,Drawn.Lb,Drawn.Lc]
     refine Drawn.T 23 (some 52) (h:=?_)
     refine wpAnyH_done (by kernel_rfl) ?_ _
     go_wp2
     go_ret
     exact ⟨ret_bool (by rw [hall0.out];simp [hno.out (sme_regs (by simpa using hreg))]),hbw.trans (hbW.mono hbs)⟩
    ·cases pst
     ·
      refine Drawn.hd (fun w'=>(w'.cell? ⟨w.heap.size,0,none⟩=some vc∧w'.cell? ⟨w.heap.size,1,none⟩=some (.slice (some ⟨b,o,none⟩) f.methods.length mcap))∧w'.cell? ⟨wr.heap.size,0,none⟩=some (.slice pa t.params.length pcap)∧w'.cell? ⟨wr.heap.size,1,none⟩=some (.int .i64 t.ret.kind)∧w'.cell? ⟨wr.heap.size,2,none⟩=some (.int .i64 t.ret.cls)∧w'.cell? ⟨wr.heap.size,3,none⟩=some (.int .i64 t.stack)∧w'.cell? ⟨wr.heap.size,4,none⟩=some (.int .i64 t.locals)∧w'.cell? ⟨wr.heap.size,5,none⟩=some (.int .i64 t.regs)∧w'.cell? ⟨wr.heap.size,6,none⟩=some (.slice da t.code.length dcap)∧w'.cell? ⟨wr.heap.size,7,none⟩=some (.slice ha t.handlers.length hcap)) (hS:=by (try dsimp only);first | exact ⟨⟨f1,f2⟩,m0,m1,m2,m3,m4,m5,m6,m7⟩ | go_keep) (h:=fun hHeld=>?_)
      refine Drawn.T 0 (some 29) (h:=?_)
      refine Drawn.T 1 (some 30) (h:=?_)
      refine Drawn.cl 2 (fun K hK=>?_)
      go_simp
      go_at_call 27
      refine (headV f t 400 _ _ _ _ hph.out (hfW.mono Rd.byB (by simp)) (hmW.mono Rd.byB (by simp)) (by omega)).mono ?_
      rintro e w2 ⟨rfl,hb2⟩
      have hbW:Below W.heap.size W w2:=Below.trans Rd.byB (hb2.mono (by simp))
      have k2:=B2.next ⟨f1,f2⟩ hbW (by omega)
      have k8:=B8.next ⟨m0,m1,m2,m3,m4,m5,m6,m7⟩ hbW (by omega)
      go_wp2_with fail
      refine Drawn.bk hK (hS:=by (try dsimp only);exact ⟨k2,k8⟩) (h:=fun hHeld=>?_)
      clear hK K
      refine Drawn.T 3 (some 32) (h:=?_)
      refine Drawn.T 4 (some 33) (h:=?_)
      refine Drawn.T 5 (some 34) (h:=?_)
      refine Drawn.T 6 (some 35) (h:=?_)
      refine Drawn.T 7 (some 36) (h:=?_)
      refine Drawn.T 8 (some 37) (h:=?_)
      refine Drawn.T 9 (some 38) (h:=?_)
      refine Drawn.T 10 (some 39) (h:=?_)
      refine Drawn.T 11 (some 40) (h:=?_)
      refine Drawn.cl 12 (fun K hK=>?_)
      go_simp
      go_at_call 26
      refine (wiV _ _ _ _ _ hps.out).mono ?_
      rintro e w3 ⟨rfl,rfl⟩
      go_wp2_with fail
      refine Drawn.bk hK (hS:=by (try dsimp only);exact ⟨k2,k8⟩) (h:=fun hHeld=>?_)
      clear hK K
      refine Drawn.T 13 (some 42) (h:=?_)
      refine Drawn.T 14 (some 43) (h:=?_)
      refine Drawn.T 15 (some 44) (h:=?_)
      refine Drawn.ps 16 (some 45) rfl rfl (by assumption) ?_
      try simp only [Act.put,Drawn.La,Drawn.Lb,Drawn.Lc]
      refine Drawn.ps 17 (some 46) rfl rfl (by assumption) ?_
      try simp only [Act.put,Drawn.La,Drawn.Lb,Drawn.Lc]
      refine Drawn.ps 18 (some 47) rfl rfl (by assumption) ?_
      try simp only [Act.put,Drawn.La,Drawn.Lb,Drawn.Lc]
      refine Drawn.ps 19 (some 48) rfl rfl (by assumption) ?_
      try simp only [Act.put,Drawn.La,Drawn.Lb,Drawn.Lc]
      refine Drawn.ps 20 (some 49) rfl rfl (by assumption) ?_
      try simp only [Act.put,Drawn.La,Drawn.Lb,Drawn.Lc]
      refine Drawn.ps 21 (some 50) rfl rfl (by assumption) ?_
      try simp only [Act.put,Drawn.La,Drawn.Lb,Drawn.Lc]
      refine Drawn.ps 22 (some 51) rfl rfl (by assumption) ?_
      try simp only [Act.put,Drawn.La,Drawn.Lb,Drawn.Lc]
      refine Drawn.T 23 (some 52) (h:=?_)
      refine wpAnyH_done (by kernel_rfl) ?_ _
      go_wp2
      go_ret
      exact ⟨ret_bool (by rw [hall0.out];simp [hno.out (sme_stack (by have h:=hps.out;rw [within_rng] at h;exact h))]),hbw.trans (hbW.mono hbs)⟩
     ·
      have hp4:t.params.length≤4:=by
       have h:=hph.out
       simp only [Form.head,Bool.and_eq_true,decide_eq_true_eq] at h
       exact h.1.1.1.2
      refine Drawn.hd (fun w'=>(w'.cell? ⟨w.heap.size,0,none⟩=some vc∧w'.cell? ⟨w.heap.size,1,none⟩=some (.slice (some ⟨b,o,none⟩) f.methods.length mcap))∧w'.cell? ⟨wr.heap.size,0,none⟩=some (.slice pa t.params.length pcap)∧w'.cell? ⟨wr.heap.size,1,none⟩=some (.int .i64 t.ret.kind)∧w'.cell? ⟨wr.heap.size,2,none⟩=some (.int .i64 t.ret.cls)∧w'.cell? ⟨wr.heap.size,3,none⟩=some (.int .i64 t.stack)∧w'.cell? ⟨wr.heap.size,4,none⟩=some (.int .i64 t.locals)∧w'.cell? ⟨wr.heap.size,5,none⟩=some (.int .i64 t.regs)∧w'.cell? ⟨wr.heap.size,6,none⟩=some (.slice da t.code.length dcap)∧w'.cell? ⟨wr.heap.size,7,none⟩=some (.slice ha t.handlers.length hcap)) (hS:=by (try dsimp only);first | exact ⟨⟨f1,f2⟩,m0,m1,m2,m3,m4,m5,m6,m7⟩ | go_keep) (h:=fun hHeld=>?_)
      refine Drawn.T 0 (some 29) (h:=?_)
      refine Drawn.T 1 (some 30) (h:=?_)
      refine Drawn.cl 2 (fun K hK=>?_)
      go_simp
      go_at_call 27
      refine (headV f t 400 _ _ _ _ hph.out (hfW.mono Rd.byB (by simp)) (hmW.mono Rd.byB (by simp)) (by omega)).mono ?_
      rintro e w2 ⟨rfl,hb2⟩
      have hbW:Below W.heap.size W w2:=Below.trans Rd.byB (hb2.mono (by simp))
      have k2:=B2.next ⟨f1,f2⟩ hbW (by omega)
      have k8:=B8.next ⟨m0,m1,m2,m3,m4,m5,m6,m7⟩ hbW (by omega)
      go_wp2_with fail
      refine Drawn.bk hK (hS:=by (try dsimp only);exact ⟨k2,k8⟩) (h:=fun hHeld=>?_)
      clear hK K
      refine Drawn.T 3 (some 32) (h:=?_)
      refine Drawn.T 4 (some 33) (h:=?_)
      refine Drawn.T 5 (some 34) (h:=?_)
      refine Drawn.T 6 (some 35) (h:=?_)
      refine Drawn.T 7 (some 36) (h:=?_)
      refine Drawn.T 8 (some 37) (h:=?_)
      refine Drawn.T 9 (some 38) (h:=?_)
      refine Drawn.T 10 (some 39) (h:=?_)
      refine Drawn.T 11 (some 40) (h:=?_)
      refine Drawn.cl 12 (fun K hK=>?_)
      go_simp
      go_at_call 26
      refine (wiV _ _ _ _ _ hps.out).mono ?_
      rintro e w3 ⟨rfl,rfl⟩
      go_wp2_with fail
      refine Drawn.bk hK (hS:=by (try dsimp only);exact ⟨k2,k8⟩) (h:=fun hHeld=>?_)
      clear hK K
      refine Drawn.T 13 (some 42) (h:=?_)
      refine Drawn.T 14 (some 43) (h:=?_)
      refine Drawn.T 15 (some 44) (h:=?_)
      refine Drawn.T 16 (some 45) (h:=?_)
      refine Drawn.T 17 (some 46) (h:=?_)
      refine Drawn.T 18 (some 47) (h:=?_)
      refine Drawn.T 19 (some 48) (h:=?_)
      refine Drawn.cl 20 (fun K hK=>?_)
      go_simp
      go_at_call 28
      refine (slotsV _ t.params Z _ (htW.next hbW) (by omega) hS.out).mono ?_
      rintro e w4 ⟨rfl,rfl⟩
      go_wp2_with fail
      refine Drawn.bk hK (hS:=by (try dsimp only);exact ⟨k2,k8⟩) (h:=fun hHeld=>?_)
      clear hK K
      refine Drawn.cl 21 (fun K hK=>?_)
      go_simp
      go_at_call 26
      refine (wiV _ _ _ _ _ hpl.out).mono ?_
      rintro e w5 ⟨rfl,rfl⟩
      go_wp2_with fail
      refine Drawn.bk hK (hS:=by (try dsimp only);exact ⟨k2,k8⟩) (h:=fun hHeld=>?_)
      clear hK K
      refine Drawn.T 22 (some 51) (h:=?_)
      refine Drawn.T 23 (some 52) (h:=?_)
      refine wpAnyH_done (by kernel_rfl) ?_ _
      have hbX2:Below w.heap.size w w2:=hbw.trans (hbW.mono hbs)
      have hbX3:=hbX2.size
      have hbX4:=hbW.size
      have hlo1:Form.rng t.locals (Form.slots t.params) 61=pl:=by rw [hS.out,← hpl.out,within_rng];rfl
      have Hlo:=Lib.hid hlo1
      clear hlo1
      cases pl
      ·go_wp2
       go_ret
       exact ⟨ret_bool (by rw [hall0.out];simp [hno.out (sme_locals Hlo.out)]),hbX2⟩
      ·have hloc:0≤t.locals∧t.locals≤60:=by
        have h:=Hlo.out
        simp only [Form.rng,decide_eq_true_eq] at h
        omega
       have hregs:Hid (t.regs=0):=by show t.regs=0;simpa using hreg
       have hstk:Hid (Form.rng t.stack 0 31=true):=by have h:=hps.out;rw [within_rng] at h;exact h
       clear f1 f2 m0 m1 m2 m3 m4 m5 m6 m7 htW hfW hmW hts0 hreg
       obtain ⟨f1,f2⟩:=k2
       obtain ⟨m0,m1,m2,m3,m4,m5,m6,m7⟩:=k8
       have hw2:Below wr.heap.size wr w2:=hbr.trans (hbW.mono hbr.size)
       go_wp2_with fail
       obtain ⟨wo,rfl⟩:∃ wo:World,wo=wr:=⟨_,rfl⟩
       go_loopw [5] (fun i wr=>∃ j:Nat,j≤t.code.length∧i=.int .i64 j∧Below w2.heap.size w2 wr∧Hid (∀ i (h:i < t.code.length),i < j→Form.sins f.classes f.methods.length t.code.length t.locals t.code[i]=true)) (fun i _=>t.code.length - (intOf i).toNat)
       case atStart=>exact ⟨0,by omega,rfl,Rd.byB,fun j _ h=>absurd h (by omega)⟩
       case round =>
        obtain ⟨j,hj,rfl,hr,hall2⟩:=hrel
        have hrs:=hr.size
        have hwr3:Below w.heap.size w wr:=hbX2.trans (hr.mono hbX3)
        have hwr4:Below wo.heap.size wo wr:=hw2.trans (hr.mono hw2.size)
        have hwrs3:=hwr3.size
        have n4:w.heap.size < wr.heap.size:=by omega
        have n5:wo.heap.size < wr.heap.size:=by omega
        have c1:=kept hr (by omega) f1
        have c2:=kept hr (by omega) f2
        have c3:=kept hr (by omega) m0
        have c4:=kept hr (by omega) m1
        have c5:=kept hr (by omega) m2
        have c6:=kept hr (by omega) m3
        have c7:=kept hr (by omega) m4
        have c8:=kept hr (by omega) m5
        have c9:=kept hr (by omega) m6
        have c10:=kept hr (by omega) m7
        clear f1 f2 m0 m1 m2 m3 m4 m5 m6 m7
        by_cases hlt2:j < t.code.length
        ·obtain ⟨b2,o2,rfl,hb2',he2⟩:=del j hlt2
         have hyes2:=Lib.hid (Form.all_step (p:=Form.sins f.classes f.methods.length t.code.length t.locals) hall2.out hlt2)
         have hno2:=Lib.hid (sme_ins (f:=f) hlt2)
         obtain ⟨x,hx⟩:=at_of hlt2
         rw [hx.out] at he2 hyes2 hno2
         obtain ⟨g1,g2,g3,g4,g5,oks,va,g6,gargs⟩:=he2
         have hvi:VIns w w.heap.size (.agg #[.int .i64 x.op,.int .i64 x.a,.int .i64 x.b,.int .i64 x.c,.int .i64 x.n,va]) x:=⟨va,rfl,oks,gargs⟩
         obtain ⟨aa,acap,rfl,alc,acc,_⟩:=gargs
         have k1:=kept hwr3 hb2' g1
         have k2:=kept hwr3 hb2' g2
         have k3:=kept hwr3 hb2' g3
         have k4:=kept hwr3 hb2' g4
         have k5:=kept hwr3 hb2' g5
         have k6:=kept hwr3 hb2' g6
         have hI2:(j:Int) < t.code.length:=by omega
         have hI3:(0:Int)≤(j:Int)∧(j:Int) < t.code.length:=⟨by omega,by omega⟩
         clear del g1 g2 g3 g4 g5 g6
         obtain ⟨p,hp⟩:∃ p,Hid (Form.sins f.classes f.methods.length t.code.length t.locals x=p):=⟨_,rfl⟩
         go_wp2_with fail
         refine Drawn.hd (fun w'=>(w'.cell? ⟨w.heap.size,0,none⟩=some vc∧w'.cell? ⟨w.heap.size,1,none⟩=some (.slice (some ⟨b,o,none⟩) f.methods.length mcap))∧(w'.cell? ⟨wo.heap.size,0,none⟩=some (.slice pa t.params.length pcap)∧w'.cell? ⟨wo.heap.size,1,none⟩=some (.int .i64 t.ret.kind)∧w'.cell? ⟨wo.heap.size,2,none⟩=some (.int .i64 t.ret.cls)∧w'.cell? ⟨wo.heap.size,3,none⟩=some (.int .i64 t.stack)∧w'.cell? ⟨wo.heap.size,4,none⟩=some (.int .i64 t.locals)∧w'.cell? ⟨wo.heap.size,5,none⟩=some (.int .i64 t.regs)∧w'.cell? ⟨wo.heap.size,6,none⟩=some (.slice (some ⟨b2,o2,none⟩) t.code.length dcap)∧w'.cell? ⟨wo.heap.size,7,none⟩=some (.slice ha t.handlers.length hcap))∧w'.cell? ⟨b2,o2+j*6,none⟩=some (.int .i64 x.op)∧w'.cell? ⟨b2,o2+j*6+1,none⟩=some (.int .i64 x.a)∧w'.cell? ⟨b2,o2+j*6+2,none⟩=some (.int .i64 x.b)∧w'.cell? ⟨b2,o2+j*6+3,none⟩=some (.int .i64 x.c)∧w'.cell? ⟨b2,o2+j*6+4,none⟩=some (.int .i64 x.n)∧w'.cell? ⟨b2,o2+j*6+5,none⟩=some (.slice aa x.args.length acap)) (hS:=by (try dsimp only);first | exact ⟨⟨c1,c2⟩,⟨c3,c4,c5,c6,c7,c8,c9,c10⟩,k1,k2,k3,k4,k5,k6⟩ | go_keep) (h:=fun hHeld=>?_)
         refine Drawn.T 0 (some 60) (h:=?_)
         refine Drawn.T 1 (some 61) (h:=?_)
         refine Drawn.T 2 (some 62) (h:=?_)
         refine Drawn.T 3 (some 63) (h:=?_)
         refine Drawn.T 4 (some 64) (h:=?_)
         refine Drawn.T 5 (some 65) (h:=?_)
         refine Drawn.T 6 (some 66) (h:=?_)
         refine Drawn.cl 7 (fun K hK=>?_)
         go_simp
         go_at_call 29
         refine (insV f t x p _ _ _ _ hp.out (hf0.mono (hwr3.drew) (by simp;omega)) (hvm.mono (hwr3.drew) (by simp;omega)) (hvi.mono (hwr3.drew) (by simp;omega)) hloc).mono ?_
         rintro e w6 ⟨rfl,hb6⟩
         have hw6:Below wr.heap.size wr w6:=Below.trans Rd.byB (hb6.mono (by simp))
         have hw7:Below wo.heap.size wo w6:=hwr4.trans (hw6.mono hwr4.size)
         go_wp2_with fail
         refine Drawn.bk hK (hS:=by (try dsimp only);exact ⟨⟨kept hw6 n4 c1,kept hw6 n4 c2⟩,⟨kept hw6 n5 c3,kept hw6 n5 c4,kept hw6 n5 c5,kept hw6 n5 c6,kept hw6 n5 c7,kept hw6 n5 c8,kept hw6 n5 c9,kept hw6 n5 c10⟩,kept hw6 (by omega) k1,kept hw6 (by omega) k2,kept hw6 (by omega) k3,kept hw6 (by omega) k4,kept hw6 (by omega) k5,kept hw6 (by omega) k6⟩) (h:=fun hHeld=>?_)
         clear hK K
         refine Drawn.T 8 (some 68) (h:=?_)
         refine wpAnyH_done (by kernel_rfl) ?_ _
         cases p
         ·go_wp2_with fail
          go_ret
          exact ⟨ret_bool (by rw [hall0.out];simp [hno.out (hno2.out hp.out)]),hwr3.trans (hw6.mono hwrs3)⟩
         ·go_wp2_with fail
          refine ⟨?_,?measure⟩
          repeat apply Exists.intro
          refine ⟨?rel,rfl⟩
          case rel=>exact ⟨j+1,by omega,by go_num,hr.trans (hw6.mono hrs),hyes2.out hp.out⟩
          case measure=>simp [intOf];omega
        ·have hge2:¬ (j:Int) < t.code.length:=by omega
         have hh:=Lib.hid (hyes.out (sme_yes hph.out hregs.out hstk.out Hlo.out (fun i hi=>hall2.out i hi (by omega))))
         clear del
         go_wp2_with fail
         go_roundw
         case rel=>exact ⟨k+1,by omega,by go_num,hq2.out.trans (hbr.trans (hbW.mono hbr.size) |>.trans (hr.mono (hw2.size)) |>.mono hqs),hh.out⟩
         case measure=>simp [intOf];omega
  ·have hst:=Lib.hid (Form.all_of (p:=Form.sme f) (fun j hj=>hall.out j hj (by omega)))
   clear hall mel
   go_wp2_with fail
   go_ret
   exact ⟨ret_bool (by rw [hall0.out,hst.out];rfl),hwr⟩
end FormR
end Go.Proofs.YtncmhenfgbcihabGreat
