/- Parts of the proof: LookY, MayL, Yt, Lg, Lh, Lq. -/
import Derived.Test.YtncmhenfgbcihabGreatG20
import Derived.Test.YtncmhenfgbcihabGreatG05
import Derived.Test.YtncmhenfgbcihabGreatG19
import Derived.Test.YtncmhenfgbcihabGreatG01
import Derived.Test.YtncmhenfgbcihabGreatG07
import Derived.BigQuiet
import Derived.Deep.QuietTactic
import Derived.Test.YtncmhenfgbcihabGreatG13
import Derived.Test.YtncmhenfgbcihabGreatG06
set_option linter.unusedSimpArgs false
set_option linter.unusedVariables false
set_option maxHeartbeats 8000000
namespace Go.Proofs.YtncmhenfgbcihabGreat
open Go.RowKit
namespace Look
open Num Rd D HierW FormW
def insTo (f:Fi) (m:Me) (k:Nat):Bool:=(m.code.take k).all (Rform.ins f m)
theorem insTo_succ {f:Fi}{m:Me}{k:Nat}(h:k < m.code.length):insTo f m (k+1)=(insTo f m k && Rform.ins f m m.code[k]):=by
 unfold insTo;rw [List.take_succ_eq_append_getElem h,List.all_append];simp
theorem insTo_all (f:Fi) (m:Me):insTo f m m.code.length=m.code.all (Rform.ins f m):=by unfold insTo;rw [List.take_of_length_le (Nat.le_refl _)]
def pre (f:Fi) (m:Me):Bool:=Form.head f.classes.length m 2400 && decide (m.stack=0) && decide (m.locals=0) && Form.rng m.regs (max 1 (Form.slots m.params:Nat)) 91
theorem rme_eq (f:Fi) (m:Me):Rform.rme f m=(pre f m && insTo f m m.code.length):=by rw [insTo_all];rfl
set_option maxRecDepth 100000 in
theorem rmay (f:Fi) (vf:Value) (w:World) (hf:VFi w w.heap.size vf f) :
  Calls Tryz.prog 43 #[vf] w fun e w'=>e=.returned (.bool (Rform.rmay f))∧Below w.heap.size w w':=by
 have hf0:=hf;obtain ⟨vc,vme,rfl,hcs,hms⟩:=hf;have hcs2:=Lib.hid hcs;obtain ⟨ca,ccap,rfl,clc,ccc,_⟩:=hcs;have hms2:=Lib.hid hms;obtain ⟨ma,mcap,rfl,mlc,mcc,mel⟩:=hms;obtain ⟨ph,hph⟩:∃ p,Hid (Hier.may f.classes=p):=⟨_,rfl⟩;obtain ⟨pn,hpn⟩:∃ p,Hid (Form.rng f.methods.length 1 9=p):=⟨_,rfl⟩
 have hall0:Hid (Rform.rmay f=(ph && pn && f.methods.all (Rform.rme f))):=by
  show _=_
  rw [← hph.out,← hpn.out];rfl
 cases ph <;> cases pn
 all_goals go_enter Tryz.func43,Tryz.ntmps43
 all_goals go_wp2_with (first
  | (go_at_call 46;refine (mayV _ _ _ _ hph.out (Cs.next hcs2.out Rd.byB)).mono ?_;rintro e w1 ⟨rfl,hb1⟩;have hw1:Below w.heap.size w w1:=Below.trans Rd.byB (hb1.mono (by simp));have y0:w1.cell? ⟨w.heap.size,0,none⟩=some (.slice ca f.classes.length ccap):=kept hb1 (by simp) (by go_simp);have y1:w1.cell? ⟨w.heap.size,1,none⟩=some (.slice ma f.methods.length mcap):=kept hb1 (by simp) (by go_simp))
  | (go_at_call 87;refine (linV _ _ _ _ _ hpn.out).mono ?_;rintro e w2 ⟨rfl,rfl⟩))
 all_goals first
  | (
       go_ret
       exact ⟨ret_bool (by rw [hall0.out];simp),hw1⟩)
  | skip
 have hws:=hw1.size;have nn:w.heap.size < w1.heap.size:=by have:=lt_cell y0;omega
 go_loopw [22] (fun i wr=>∃ k:Nat,k≤f.methods.length∧i=.int .i64 k∧Below w1.heap.size w1 wr∧Hid (∀ j (h:j < f.methods.length),j < k→Rform.rme f f.methods[j]=true)) (fun i _=>f.methods.length - (intOf i).toNat)
 case atStart=>exact ⟨0,by omega,rfl,Rd.byB,fun j _ h=>absurd h (by omega)⟩
 case round =>
  obtain ⟨k,hk,rfl,hq,hall⟩:=hrel;have hqs:=hq.size;have hwr:Below w.heap.size w wr:=hw1.trans (hq.mono hws);have hwrs:=hwr.size;have n3:w.heap.size < wr.heap.size:=by omega
  have c1:=kept hq (by omega) y0
  have c2:=kept hq (by omega) y1
  clear y0 y1
  by_cases hlt:k < f.methods.length
  ·obtain ⟨b,o,rfl,hb,he⟩:=mel k hlt;have hyes:=Lib.hid (Form.all_step (p:=Rform.rme f) hall.out hlt);have hno:=Lib.hid (Form.all_not (p:=Rform.rme f) hlt);obtain ⟨t,ht⟩:=at_of hlt;rw [ht.out] at he hyes hno;obtain ⟨vp,vd,vh,g0,g1,g2,g3,g4,g5,g6,g7,oks,s1,s2,s3⟩:=he;have hvm:VMe w w.heap.size (.agg #[vp,.int .i64 t.ret.kind,.int .i64 t.ret.cls,.int .i64 t.stack,.int .i64 t.locals,.int .i64 t.regs,vd,vh]) t:=⟨vp,vd,vh,rfl,oks,s1,s2,s3⟩;obtain ⟨pa,pcap,rfl,plc,pcc,pel⟩:=s1;have hts0:Ts w (.slice pa t.params.length pcap) t.params:=⟨pa,pcap,rfl,plc,pcc,pel⟩;clear pel;obtain ⟨da,dcap,rfl,dlc,dcc,del⟩:=s2;obtain ⟨ha,hcap,rfl,_,_,_⟩:=s3;have k0:=kept hwr hb g0;have k1:=kept hwr hb g1;have k2:=kept hwr hb g2;have k3:=kept hwr hb g3;have k4:=kept hwr hb g4;have k5:=kept hwr hb g5;have k6:=kept hwr hb g6;have k7:=kept hwr hb g7;have hq2:=Lib.hid hq;have hwr2:=Lib.hid hwr;have ok5:=oks.2.2.2.2;have ok4:=oks.2.2.2.1;have ok3:=oks.2.2.1;have okr:=Lib.hid oks.1;unfold Ok at ok5 ok4 ok3;have hltI:(k:Int) < f.methods.length:=by omega
   clear g0 g1 g2 g3 g4 g5 g6 g7 oks
   go_wp2_with fail
   refine name_world (fun W=>Below w.heap.size w W∧Below wr.heap.size wr W∧wr.heap.size+1≤W.heap.size∧B2 W w.heap.size (.slice ca f.classes.length ccap) (.slice (some ⟨b,o,none⟩) f.methods.length mcap)∧B8 W wr.heap.size (.slice pa t.params.length pcap) (.int .i64 t.ret.kind) (.int .i64 t.ret.cls) (.int .i64 t.stack) (.int .i64 t.locals) (.int .i64 t.regs) (.slice da t.code.length dcap) (.slice ha t.handlers.length hcap)) ?_ ?_
   ·refine ⟨Rd.byB,Rd.byB,?_,⟨?_,?_⟩,⟨?_,?_,?_,?_,?_,?_,?_,?_⟩⟩
    all_goals go_simp
   rintro W ⟨hbw,hbr,hsz,⟨f1,f2⟩,⟨m0,m1,m2,m3,m4,m5,m6,m7⟩⟩;have hbs:=hbw.size;have hfW:=hf0.mono hbw hbs;have hmW:=hvm.mono hbw hbs;have htW:=hts0.next hbw;clear c1 c2 k0 k1 k2 k3 k4 k5 k6 k7 mel;obtain ⟨ph,hph⟩:∃ p,Hid (Form.head f.classes.length t 2400=p):=⟨_,rfl⟩;obtain ⟨Z,hS⟩:∃ S,Hid (Form.slots t.params=S):=⟨_,rfl⟩;obtain ⟨MX,hMX⟩:∃ x,Hid ((if (1:Int) < (Z:Int) then (Z:Int) else 1)=x):=⟨_,rfl⟩;obtain ⟨pl,hpl⟩:∃ p,Hid (Form.rng t.regs MX 91=p):=⟨_,rfl⟩;have hMX1:1≤MX:=by rw [← hMX.out];split <;> omega
   have hpre:Hid (pre f t=(ph && decide (t.stack=0) && decide (t.locals=0) && pl)):=by
    show _=_
    have hmx:(if (1:Int) < (Z:Int) then (Z:Int) else 1)=max 1 (Z:Int):=by
     rw [Int.max_def];split <;> split <;> omega
    rw [← hph.out,← hpl.out,← hMX.out,hmx,← hS.out];rfl
   cases ph
   ·
    refine Drawn.hd (fun w'=>(w'.cell? ⟨w.heap.size,0,none⟩=some (.slice ca f.classes.length ccap)∧w'.cell? ⟨w.heap.size,1,none⟩=some (.slice (some ⟨b,o,none⟩) f.methods.length mcap))∧w'.cell? ⟨wr.heap.size,0,none⟩=some (.slice pa t.params.length pcap)∧w'.cell? ⟨wr.heap.size,1,none⟩=some (.int .i64 t.ret.kind)∧w'.cell? ⟨wr.heap.size,2,none⟩=some (.int .i64 t.ret.cls)∧w'.cell? ⟨wr.heap.size,3,none⟩=some (.int .i64 t.stack)∧w'.cell? ⟨wr.heap.size,4,none⟩=some (.int .i64 t.locals)∧w'.cell? ⟨wr.heap.size,5,none⟩=some (.int .i64 t.regs)∧w'.cell? ⟨wr.heap.size,6,none⟩=some (.slice da t.code.length dcap)∧w'.cell? ⟨wr.heap.size,7,none⟩=some (.slice ha t.handlers.length hcap)) (hS:=by (try dsimp only);first | exact ⟨⟨f1,f2⟩,m0,m1,m2,m3,m4,m5,m6,m7⟩ | go_keep) (h:=fun hHeld=>?_)
    refine dT 0 26 ?_;refine dT 1 27 ?_;refine dT 2 28 ?_;refine dT 3 29 ?_;refine Drawn.cl 4 (fun K hK=>?_);go_simp
    go_at_call 88
    refine (headV f t 2400 _ _ _ _ hph.out (hfW.mono Rd.byB (by simp)) (hmW.mono Rd.byB (by simp)) (by omega)).mono ?_
    rintro e w2 ⟨rfl,hb2⟩;have hbW:Below W.heap.size W w2:=Below.trans Rd.byB (hb2.mono (by simp))
    have k2:=B2.next ⟨f1,f2⟩ hbW (by omega)
    have k8:=B8.next ⟨m0,m1,m2,m3,m4,m5,m6,m7⟩ hbW (by omega)
    go_wp2_with fail
    refine Drawn.bk hK (hS:=by (try dsimp only);exact ⟨k2,k8⟩) (h:=fun hHeld=>?_)
    clear hK K;refine dT 5 31 ?_;refine dS 6 32 ?_;refine dS 7 33 ?_;refine dS 8 34 ?_;refine dT 9 35 ?_;refine dT 10 36 ?_;refine dS 11 37 ?_;refine dS 12 38 ?_;refine dS 13 39 ?_;refine dT 14 40 ?_;refine dT 15 41 ?_;refine dS 16 42 ?_;refine dS 17 43 ?_;refine dS 18 44 ?_;refine dS 19 45 ?_;refine dS 20 46 ?_;refine dS 21 47 ?_;refine dS 22 48 ?_;refine dT 23 49 ?_;refine dT 24 50 ?_;refine Drawn.cl 25 (fun K hK=>?_);go_simp;refine Drawn.bk hK (hS:=by (try dsimp only);obtain ⟨kf,km⟩:(_∧_):=⟨k2,k8⟩;have:=lt_cell kf.1;have:=lt_cell km.1;refine ⟨⟨?_,?_⟩,?_,?_,?_,?_,?_,?_,?_,?_⟩ <;> (obtain ⟨kf0,kf1⟩:=kf;obtain ⟨km0,km1,km2,km3,km4,km5,km6,km7⟩:=km;go_simp)) (h:=fun hHeld=>?_)
    clear hK K;refine dT 26 5 ?_;refine dN ?_
    have hpt:Hid (pre f t=false):=by
     show _=_
     rw [hpre.out];rfl
    have hxs:=hbW.size;refine name_world (fun W2=>Hid (Lk W2 w2.heap.size (.slice ca f.classes.length ccap) (.slice (some ⟨b,o,none⟩) f.methods.length mcap) (.slice pa t.params.length pcap) (.slice da t.code.length dcap) (.slice ha t.handlers.length hcap) t false)∧Below w2.heap.size w2 W2∧W2.cell? ⟨wr.heap.size,6,none⟩=some (.slice da t.code.length dcap)) ?_ ?_
    ·refine ⟨?_,Rd.byB,?_⟩
     ·show Lk _ _ _ _ _ _ _ _ _
      refine ⟨⟨?_,?_⟩,⟨?_,?_,?_,?_,?_,?_,?_,?_⟩,?_,?_⟩
      all_goals go_simp
     ·obtain ⟨kf,km⟩:(_∧_):=⟨k2,k8⟩;have hz:=lt_cell km.1;have km6:=km.2.2.2.2.2.2.1;clear kf km;go_simp
    rintro W2 ⟨hlk0,hbl0,m6'⟩;have hbl1:Below wr.heap.size wr W2:=(hbr.trans (hbW.mono hbr.size)).trans (hbl0.mono (by have:=hbr.size;omega))
    have hbl2:Below w.heap.size w W2:=hwr2.out.trans (hbl1.mono hwrs);have hblw:w.heap.size≤w2.heap.size:=by have:=hbr.size;omega
    have hl6:=lt_cell m6';have hlbs:=hlk0.out.lt;have hlbr:wr.heap.size < w2.heap.size:=by have:=hbr.size;omega
    clear f1 f2 m0 m1 m2 m3 m4 m5 m6 m7 htW hfW hmW hts0 k2 k8
    go_wp2_with fail
    obtain ⟨wo,rfl⟩:∃ wo:World,wo=wr:=⟨_,rfl⟩
    go_loopw [55] (fun i wr=>∃ j:Nat,j≤t.code.length∧i=.int .i64 j∧Hid (Lk wr w2.heap.size (.slice ca f.classes.length ccap) (.slice (some ⟨b,o,none⟩) f.methods.length mcap) (.slice pa t.params.length pcap) (.slice da t.code.length dcap) (.slice ha t.handlers.length hcap) t false)∧Keep W2.heap.size w2.heap.size W2 wr) (fun i _=>t.code.length - (intOf i).toNat)
    case atStart=>exact ⟨0,by omega,rfl,hlk0,Keep.refl _ _ _⟩
    case round =>
     obtain ⟨j,hj,rfl,hlk,hkp⟩:=hrel;have hks:=hkp.size;have z10:=hlk.out.2.2.1;have hlz:=hlk.out.lt
     by_cases hlt2:j < t.code.length
     ·obtain ⟨b2,o2,rfl,hb2',he2⟩:=del j hlt2;obtain ⟨x,hx⟩:=at_of hlt2;rw [hx.out] at he2;obtain ⟨g1,g2,g3,g4,g5,oks,va,g6,gargs⟩:=he2;obtain ⟨aa,acap,rfl,alc,acc,_⟩:=gargs;have h1:=hkp.cell (by omega) (by omega) (kept hbl2 hb2' g1)
      have h2:=hkp.cell (by omega) (by omega) (kept hbl2 hb2' g2)
      have h3:=hkp.cell (by omega) (by omega) (kept hbl2 hb2' g3)
      have h4:=hkp.cell (by omega) (by omega) (kept hbl2 hb2' g4)
      have h5:=hkp.cell (by omega) (by omega) (kept hbl2 hb2' g5)
      have h6:=hkp.cell (by omega) (by omega) (kept hbl2 hb2' g6)
      have hI2:(0:Int)≤(j:Int)∧(j:Int) < t.code.length:=⟨by omega,by omega⟩
      obtain ⟨hI3,hI4⟩:=hI2;clear del g1 g2 g3 g4 g5 g6
      go_wp2_with fail
      go_roundw
      case rel=>exact ⟨j+1,by omega,by go_num,Lib.hid (hlk.out.next (Below.alloc (Below.refl _ _) (Nat.le_refl _) _) hlk.out.lt),hkp.trans (Keep.alloc (Keep.refl _ _ _) (by omega) _)⟩
      case measure=>simp [intOf];omega
     ·have hge2:¬ (j:Int) < t.code.length:=by omega
      have hkb:Below w.heap.size w wr:=hbl2.trans (hkp.below (by omega) (by omega))
      clear del
      go_wp2_with fail
      go_ret;exact ⟨ret_bool (by rw [hall0.out];simp [hno.out (by rw [rme_eq,hpt.out];rfl)]),hkb⟩
   ·by_cases hs0:t.stack=0
    ·have hst0:(t.stack==0)=true:=by simpa using hs0
     have HS0:=Lib.hid hs0;clear hs0
     by_cases hl0:t.locals=0
     ·have hlo0:(t.locals==0)=true:=by simpa using hl0
      have HL0:=Lib.hid hl0;clear hl0
      have hp4:t.params.length≤4:=by
       have h:=hph.out;simp only [Form.head,Bool.and_eq_true,decide_eq_true_eq] at h;exact h.1.1.1.2
      refine Drawn.hd (fun w'=>(w'.cell? ⟨w.heap.size,0,none⟩=some (.slice ca f.classes.length ccap)∧w'.cell? ⟨w.heap.size,1,none⟩=some (.slice (some ⟨b,o,none⟩) f.methods.length mcap))∧w'.cell? ⟨wr.heap.size,0,none⟩=some (.slice pa t.params.length pcap)∧w'.cell? ⟨wr.heap.size,1,none⟩=some (.int .i64 t.ret.kind)∧w'.cell? ⟨wr.heap.size,2,none⟩=some (.int .i64 t.ret.cls)∧w'.cell? ⟨wr.heap.size,3,none⟩=some (.int .i64 t.stack)∧w'.cell? ⟨wr.heap.size,4,none⟩=some (.int .i64 t.locals)∧w'.cell? ⟨wr.heap.size,5,none⟩=some (.int .i64 t.regs)∧w'.cell? ⟨wr.heap.size,6,none⟩=some (.slice da t.code.length dcap)∧w'.cell? ⟨wr.heap.size,7,none⟩=some (.slice ha t.handlers.length hcap)) (hS:=by (try dsimp only);first | exact ⟨⟨f1,f2⟩,m0,m1,m2,m3,m4,m5,m6,m7⟩ | go_keep) (h:=fun hHeld=>?_)
      refine dT 0 26 ?_;refine dT 1 27 ?_;refine dT 2 28 ?_;refine dT 3 29 ?_;refine Drawn.cl 4 (fun K hK=>?_);go_simp
      go_at_call 88
      refine (headV f t 2400 _ _ _ _ hph.out (hfW.mono Rd.byB (by simp)) (hmW.mono Rd.byB (by simp)) (by omega)).mono ?_
      rintro e w2 ⟨rfl,hb2⟩;have hbW:Below W.heap.size W w2:=Below.trans Rd.byB (hb2.mono (by simp))
      have k2:=B2.next ⟨f1,f2⟩ hbW (by omega)
      have k8:=B8.next ⟨m0,m1,m2,m3,m4,m5,m6,m7⟩ hbW (by omega)
      go_wp2_with fail
      refine Drawn.bk hK (hS:=by (try dsimp only);exact ⟨k2,k8⟩) (h:=fun hHeld=>?_)
      clear hK K;refine dT 5 31 ?_;refine dT 6 32 ?_;refine dT 7 33 ?_;refine dT 8 34 ?_;refine dT 9 35 ?_;refine dT 10 36 ?_;refine dT 11 37 ?_;refine dT 12 38 ?_;refine dT 13 39 ?_;refine dT 14 40 ?_;refine dT 15 41 ?_;refine dT 16 42 ?_;refine dT 17 43 ?_;refine dT 18 44 ?_;refine dT 19 45 ?_;refine Drawn.cl 20 (fun K hK=>?_);go_simp
      go_at_call 89
      refine (slotsV _ t.params Z _ (htW.next hbW) (by omega) hS.out).mono ?_
      rintro e w4 ⟨rfl,hb4⟩;have hbX:Below W.heap.size W w4:=hbW.trans (hb4.mono hbW.size);have x2:=B2.next ⟨f1,f2⟩ hbX (by omega)
      have x8:=B8.next ⟨m0,m1,m2,m3,m4,m5,m6,m7⟩ hbX (by omega)
      go_wp2_with fail
      refine Drawn.bk hK (hS:=by (try dsimp only);exact ⟨x2,x8⟩) (h:=fun hHeld=>?_)
      clear hK K;have hif:=hMX.out;refine dT 21 47 ?_;clear hif;refine Drawn.cl 22 (fun K hK=>?_);go_simp
      go_at_call 87
      refine (linV _ _ _ _ _ hpl.out).mono ?_;rintro e w5 ⟨rfl,rfl⟩
      go_wp2_with fail
      refine Drawn.bk hK (hS:=by (try dsimp only);exact ⟨x2,x8⟩) (h:=fun hHeld=>?_)
      clear hK K;refine dT 23 49 ?_;have hbX3:=hbX.size
      cases pl
      ·
       refine dT 24 50 ?_;refine Drawn.cl 25 (fun K hK=>?_);go_simp;refine Drawn.bk hK (hS:=by (try dsimp only);obtain ⟨kf,km⟩:(_∧_):=⟨x2,x8⟩;have:=lt_cell kf.1;have:=lt_cell km.1;refine ⟨⟨?_,?_⟩,?_,?_,?_,?_,?_,?_,?_,?_⟩ <;> (obtain ⟨kf0,kf1⟩:=kf;obtain ⟨km0,km1,km2,km3,km4,km5,km6,km7⟩:=km;go_simp)) (h:=fun hHeld=>?_)
       clear hK K;refine dT 26 5 ?_;refine dN ?_
       have hpt:Hid (pre f t=false):=by
        show _=_
        rw [hpre.out];simp
       have hxs:=hbX.size;refine name_world (fun W2=>Hid (Lk W2 w4.heap.size (.slice ca f.classes.length ccap) (.slice (some ⟨b,o,none⟩) f.methods.length mcap) (.slice pa t.params.length pcap) (.slice da t.code.length dcap) (.slice ha t.handlers.length hcap) t false)∧Below w4.heap.size w4 W2∧W2.cell? ⟨wr.heap.size,6,none⟩=some (.slice da t.code.length dcap)) ?_ ?_
       ·refine ⟨?_,Rd.byB,?_⟩
        ·show Lk _ _ _ _ _ _ _ _ _
         refine ⟨⟨?_,?_⟩,⟨?_,?_,?_,?_,?_,?_,?_,?_⟩,?_,?_⟩
         all_goals go_simp
        ·obtain ⟨kf,km⟩:(_∧_):=⟨x2,x8⟩;have hz:=lt_cell km.1;have km6:=km.2.2.2.2.2.2.1;clear kf km;go_simp
       rintro W2 ⟨hlk0,hbl0,m6'⟩;have hbl1:Below wr.heap.size wr W2:=(hbr.trans (hbX.mono hbr.size)).trans (hbl0.mono (by have:=hbr.size;omega))
       have hbl2:Below w.heap.size w W2:=hwr2.out.trans (hbl1.mono hwrs);have hblw:w.heap.size≤w4.heap.size:=by have:=hbr.size;omega
       have hl6:=lt_cell m6';have hlbs:=hlk0.out.lt;have hlbr:wr.heap.size < w4.heap.size:=by have:=hbr.size;omega
       clear f1 f2 m0 m1 m2 m3 m4 m5 m6 m7 htW hfW hmW hts0 k2 k8
       go_wp2_with fail
       obtain ⟨wo,rfl⟩:∃ wo:World,wo=wr:=⟨_,rfl⟩
       go_loopw [55] (fun i wr=>∃ j:Nat,j≤t.code.length∧i=.int .i64 j∧Hid (Lk wr w4.heap.size (.slice ca f.classes.length ccap) (.slice (some ⟨b,o,none⟩) f.methods.length mcap) (.slice pa t.params.length pcap) (.slice da t.code.length dcap) (.slice ha t.handlers.length hcap) t false)∧Keep W2.heap.size w4.heap.size W2 wr) (fun i _=>t.code.length - (intOf i).toNat)
       case atStart=>exact ⟨0,by omega,rfl,hlk0,Keep.refl _ _ _⟩
       case round =>
        obtain ⟨j,hj,rfl,hlk,hkp⟩:=hrel;have hks:=hkp.size;have z10:=hlk.out.2.2.1;have hlz:=hlk.out.lt
        by_cases hlt2:j < t.code.length
        ·obtain ⟨b2,o2,rfl,hb2',he2⟩:=del j hlt2;obtain ⟨x,hx⟩:=at_of hlt2;rw [hx.out] at he2;obtain ⟨g1,g2,g3,g4,g5,oks,va,g6,gargs⟩:=he2;obtain ⟨aa,acap,rfl,alc,acc,_⟩:=gargs;have h1:=hkp.cell (by omega) (by omega) (kept hbl2 hb2' g1)
         have h2:=hkp.cell (by omega) (by omega) (kept hbl2 hb2' g2)
         have h3:=hkp.cell (by omega) (by omega) (kept hbl2 hb2' g3)
         have h4:=hkp.cell (by omega) (by omega) (kept hbl2 hb2' g4)
         have h5:=hkp.cell (by omega) (by omega) (kept hbl2 hb2' g5)
         have h6:=hkp.cell (by omega) (by omega) (kept hbl2 hb2' g6)
         have hI2:(0:Int)≤(j:Int)∧(j:Int) < t.code.length:=⟨by omega,by omega⟩
         obtain ⟨hI3,hI4⟩:=hI2;clear del g1 g2 g3 g4 g5 g6
         go_wp2_with fail
         go_roundw
         case rel=>exact ⟨j+1,by omega,by go_num,Lib.hid (hlk.out.next (Below.alloc (Below.refl _ _) (Nat.le_refl _) _) hlk.out.lt),hkp.trans (Keep.alloc (Keep.refl _ _ _) (by omega) _)⟩
         case measure=>simp [intOf];omega
        ·have hge2:¬ (j:Int) < t.code.length:=by omega
         have hkb:Below w.heap.size w wr:=hbl2.trans (hkp.below (by omega) (by omega))
         clear del
         go_wp2_with fail
         go_ret;exact ⟨ret_bool (by rw [hall0.out];simp [hno.out (by rw [rme_eq,hpt.out];rfl)]),hkb⟩
      ·have hregs:0≤t.regs∧t.regs≤90:=by
        have h:=hpl.out;simp only [Form.rng,decide_eq_true_eq] at h;omega
       refine dT 24 50 ?_;refine Drawn.cl 25 (fun K hK=>?_);go_simp;refine Drawn.bk hK (hS:=by (try dsimp only);obtain ⟨kf,km⟩:(_∧_):=⟨x2,x8⟩;have:=lt_cell kf.1;have:=lt_cell km.1;refine ⟨⟨?_,?_⟩,?_,?_,?_,?_,?_,?_,?_,?_⟩ <;> (obtain ⟨kf0,kf1⟩:=kf;obtain ⟨km0,km1,km2,km3,km4,km5,km6,km7⟩:=km;go_simp)) (h:=fun hHeld=>?_)
       clear hK K;refine dT 26 5 ?_;refine dN ?_
       have hpt:Hid (pre f t=true):=by
        show _=_
        rw [hpre.out,decide_eq_true HS0.out,decide_eq_true HL0.out];rfl
       have hxs:=hbX.size;refine name_world (fun W2=>Hid (Lk W2 w4.heap.size (.slice ca f.classes.length ccap) (.slice (some ⟨b,o,none⟩) f.methods.length mcap) (.slice pa t.params.length pcap) (.slice da t.code.length dcap) (.slice ha t.handlers.length hcap) t true)∧Below w4.heap.size w4 W2∧W2.cell? ⟨wr.heap.size,6,none⟩=some (.slice da t.code.length dcap)) ?_ ?_
       ·refine ⟨?_,Rd.byB,?_⟩
        ·show Lk _ _ _ _ _ _ _ _ _
         refine ⟨⟨?_,?_⟩,⟨?_,?_,?_,?_,?_,?_,?_,?_⟩,?_,?_⟩
         all_goals go_simp
        ·obtain ⟨kf,km⟩:(_∧_):=⟨x2,x8⟩;have hz:=lt_cell km.1;have km6:=km.2.2.2.2.2.2.1;clear kf km;go_simp
       rintro W2 ⟨hlk0,hbl0,m6'⟩;have hbl1:Below wr.heap.size wr W2:=(hbr.trans (hbX.mono hbr.size)).trans (hbl0.mono (by have:=hbr.size;omega))
       have hbl2:Below w.heap.size w W2:=hwr2.out.trans (hbl1.mono hwrs);have hblw:w.heap.size≤w4.heap.size:=by have:=hbr.size;omega
       have hl6:=lt_cell m6';have hlbs:=hlk0.out.lt;have hlbr:wr.heap.size < w4.heap.size:=by have:=hbr.size;omega
       clear f1 f2 m0 m1 m2 m3 m4 m5 m6 m7 htW hfW hmW hts0 k2 k8
       go_wp2_with fail
       obtain ⟨wo,rfl⟩:∃ wo:World,wo=wr:=⟨_,rfl⟩;have hFit:Hid (Fit f t f.classes.length ccap dcap):=⟨clc,ccc,dlc,dcc,hregs⟩
       go_loopw [55] (fun i wr=>∃ j:Nat,j≤t.code.length∧i=.int .i64 j∧Hid (Lk wr w4.heap.size (.slice ca f.classes.length ccap) (.slice (some ⟨b,o,none⟩) f.methods.length mcap) (.slice pa t.params.length pcap) (.slice da t.code.length dcap) (.slice ha t.handlers.length hcap) t (insTo f t j))∧Keep W2.heap.size w4.heap.size W2 wr) (fun i _=>t.code.length - (intOf i).toNat)
       case atStart=>exact ⟨0,by omega,rfl,by show Lk _ _ _ _ _ _ _ _ _;simpa [insTo] using hlk0.out,Keep.refl _ _ _⟩
       case round =>
        obtain ⟨j,hj,rfl,hlk,hkp⟩:=hrel;have hks:=hkp.size;have hlz:=hlk.out.lt;have hkb:Below w.heap.size w wr:=hbl2.trans (hkp.below (by omega) (by omega))
        by_cases hlt2:j < t.code.length
        ·obtain ⟨b2,o2,rfl,hb2',he2⟩:=del j hlt2;have hst:=Lib.hid (insTo_succ (f:=f) hlt2);obtain ⟨x,hx⟩:=at_of hlt2;rw [hx.out] at he2 hst;obtain ⟨g1,g2,g3,g4,g5,oks,va,g6,gargs⟩:=he2;have hvi:VIns w w.heap.size (.agg #[.int .i64 x.op,.int .i64 x.a,.int .i64 x.b,.int .i64 x.c,.int .i64 x.n,va]) x:=⟨va,rfl,oks,gargs⟩;have hvi2:=Lib.hid hvi;clear hvi;obtain ⟨aa,acap,rfl,alc,acc,_⟩:=gargs;have h1:=hkp.cell (by omega) (by omega) (kept hbl2 hb2' g1)
         have h2:=hkp.cell (by omega) (by omega) (kept hbl2 hb2' g2)
         have h3:=hkp.cell (by omega) (by omega) (kept hbl2 hb2' g3)
         have h4:=hkp.cell (by omega) (by omega) (kept hbl2 hb2' g4)
         have h5:=hkp.cell (by omega) (by omega) (kept hbl2 hb2' g5)
         have h6:=hkp.cell (by omega) (by omega) (kept hbl2 hb2' g6)
         have hI2:(0:Int)≤(j:Int)∧(j:Int) < t.code.length:=⟨by omega,by omega⟩
         obtain ⟨hI3,hI4⟩:=hI2;obtain ⟨q,hq7⟩:∃ q,Hid (insTo f t j=q):=⟨_,rfl⟩;rw [hq7.out] at hlk hst;have z10:=hlk.out.2.2.1;clear del g1 g2 g3 g4 g5 g6
         cases q
         ·go_wp2_with fail
          go_roundw
          case rel =>
           refine ⟨j+1,by omega,by go_num,?_,hkp.trans (Keep.alloc (Keep.refl _ _ _) (by omega) _)⟩
           rw [hst.out];exact (hlk.out.next (Below.alloc (Below.refl _ _) (Nat.le_refl _) _) hlk.out.lt)
          case measure=>simp [intOf];omega
         ·go_wp2_with fail
          have hkc:=hkb.alloc (by omega) (.cells #[.int .i64 x.op,.int .i64 x.a,.int .i64 x.b,.int .i64 x.c,.int .i64 x.n,.slice aa x.args.length acap] 66)
          refine (Look.ins f t x _ w4.heap.size ca ccap _ _ _ dcap _ _ (hlk.out.next (Below.alloc (Below.refl _ _) (Nat.le_refl _) _) hlk.out.lt) hFit.out okr.out w.heap.size hblw (Sl.mono mCls hcs2.out hkc (Nat.le_refl _)) (Sl.mono mMe hms2.out hkc (Nat.le_refl _)) (hvi2.out.mono hkc (Nat.le_refl _))).mono ?_;rintro e w6 ⟨rfl,hA,hK6⟩;have hA2:=Lib.hid hA;clear hA hkc
          go_wp2_with fail
          go_roundw
          case rel =>
           refine ⟨j+1,by omega,by go_num,?_,hkp.trans (Keep.trans (Keep.alloc (Keep.refl _ _ _) hks _) (hK6.mono (by simp;omega)))⟩
           rw [hst.out,Bool.true_and];exact hA2.out
          case measure=>simp [intOf];omega
        ·have hge2:¬ (j:Int) < t.code.length:=by omega
         have hjj:Hid (j=t.code.length):=by show _=_;omega
         obtain ⟨q,hq7⟩:∃ q,Hid (insTo f t j=q):=⟨_,rfl⟩;rw [hq7.out] at hlk;have hrm:Hid (Rform.rme f t=q):=by show _=_;rw [rme_eq,hpt.out,← hq7.out,hjj.out];rfl
         have z10:=hlk.out.2.2.1;clear del
         cases q
         ·go_wp2_with fail
          go_ret;exact ⟨ret_bool (by rw [hall0.out];simp [hno.out hrm.out]),hkb⟩
         ·have hh:=Lib.hid (hyes.out hrm.out);have hfin:Below w1.heap.size w1 wr:=hq2.out.trans ((hbl1.trans (hkp.below (by omega) (by omega))).mono hqs)
          go_wp2_with fail
          go_roundw
          case rel=>exact ⟨k+1,by omega,by go_num,hfin,hh.out⟩
          case measure=>simp [intOf];omega
     ·have hlo0:(t.locals==0)=false:=by simpa using hl0
      have HL0:=Lib.hid hl0;clear hl0;refine Drawn.hd (fun w'=>(w'.cell? ⟨w.heap.size,0,none⟩=some (.slice ca f.classes.length ccap)∧w'.cell? ⟨w.heap.size,1,none⟩=some (.slice (some ⟨b,o,none⟩) f.methods.length mcap))∧w'.cell? ⟨wr.heap.size,0,none⟩=some (.slice pa t.params.length pcap)∧w'.cell? ⟨wr.heap.size,1,none⟩=some (.int .i64 t.ret.kind)∧w'.cell? ⟨wr.heap.size,2,none⟩=some (.int .i64 t.ret.cls)∧w'.cell? ⟨wr.heap.size,3,none⟩=some (.int .i64 t.stack)∧w'.cell? ⟨wr.heap.size,4,none⟩=some (.int .i64 t.locals)∧w'.cell? ⟨wr.heap.size,5,none⟩=some (.int .i64 t.regs)∧w'.cell? ⟨wr.heap.size,6,none⟩=some (.slice da t.code.length dcap)∧w'.cell? ⟨wr.heap.size,7,none⟩=some (.slice ha t.handlers.length hcap)) (hS:=by (try dsimp only);first | exact ⟨⟨f1,f2⟩,m0,m1,m2,m3,m4,m5,m6,m7⟩ | go_keep) (h:=fun hHeld=>?_)
      refine dT 0 26 ?_;refine dT 1 27 ?_;refine dT 2 28 ?_;refine dT 3 29 ?_;refine Drawn.cl 4 (fun K hK=>?_);go_simp
      go_at_call 88
      refine (headV f t 2400 _ _ _ _ hph.out (hfW.mono Rd.byB (by simp)) (hmW.mono Rd.byB (by simp)) (by omega)).mono ?_
      rintro e w2 ⟨rfl,hb2⟩;have hbW:Below W.heap.size W w2:=Below.trans Rd.byB (hb2.mono (by simp))
      have k2:=B2.next ⟨f1,f2⟩ hbW (by omega)
      have k8:=B8.next ⟨m0,m1,m2,m3,m4,m5,m6,m7⟩ hbW (by omega)
      go_wp2_with fail
      refine Drawn.bk hK (hS:=by (try dsimp only);exact ⟨k2,k8⟩) (h:=fun hHeld=>?_)
      clear hK K;refine dT 5 31 ?_;refine dT 6 32 ?_;refine dT 7 33 ?_;refine dT 8 34 ?_;refine dT 9 35 ?_;refine dT 10 36 ?_;refine dT 11 37 ?_;refine dT 12 38 ?_;refine dT 13 39 ?_;refine dT 14 40 ?_;refine dT 15 41 ?_;refine dS 16 42 ?_;refine dS 17 43 ?_;refine dS 18 44 ?_;refine dS 19 45 ?_;refine dS 20 46 ?_;refine dS 21 47 ?_;refine dS 22 48 ?_;refine dT 23 49 ?_;refine dT 24 50 ?_;refine Drawn.cl 25 (fun K hK=>?_);go_simp;refine Drawn.bk hK (hS:=by (try dsimp only);obtain ⟨kf,km⟩:(_∧_):=⟨k2,k8⟩;have:=lt_cell kf.1;have:=lt_cell km.1;refine ⟨⟨?_,?_⟩,?_,?_,?_,?_,?_,?_,?_,?_⟩ <;> (obtain ⟨kf0,kf1⟩:=kf;obtain ⟨km0,km1,km2,km3,km4,km5,km6,km7⟩:=km;go_simp)) (h:=fun hHeld=>?_)
      clear hK K;refine dT 26 5 ?_;refine dN ?_
      have hpt:Hid (pre f t=false):=by
       show _=_
       rw [hpre.out,decide_eq_false HL0.out];simp
      have hxs:=hbW.size;refine name_world (fun W2=>Hid (Lk W2 w2.heap.size (.slice ca f.classes.length ccap) (.slice (some ⟨b,o,none⟩) f.methods.length mcap) (.slice pa t.params.length pcap) (.slice da t.code.length dcap) (.slice ha t.handlers.length hcap) t false)∧Below w2.heap.size w2 W2∧W2.cell? ⟨wr.heap.size,6,none⟩=some (.slice da t.code.length dcap)) ?_ ?_
      ·refine ⟨?_,Rd.byB,?_⟩
       ·show Lk _ _ _ _ _ _ _ _ _
        refine ⟨⟨?_,?_⟩,⟨?_,?_,?_,?_,?_,?_,?_,?_⟩,?_,?_⟩
        all_goals go_simp
       ·obtain ⟨kf,km⟩:(_∧_):=⟨k2,k8⟩;have hz:=lt_cell km.1;have km6:=km.2.2.2.2.2.2.1;clear kf km;go_simp
      rintro W2 ⟨hlk0,hbl0,m6'⟩;have hbl1:Below wr.heap.size wr W2:=(hbr.trans (hbW.mono hbr.size)).trans (hbl0.mono (by have:=hbr.size;omega))
      have hbl2:Below w.heap.size w W2:=hwr2.out.trans (hbl1.mono hwrs);have hblw:w.heap.size≤w2.heap.size:=by have:=hbr.size;omega
      have hl6:=lt_cell m6';have hlbs:=hlk0.out.lt;have hlbr:wr.heap.size < w2.heap.size:=by have:=hbr.size;omega
      clear f1 f2 m0 m1 m2 m3 m4 m5 m6 m7 htW hfW hmW hts0 k2 k8
      go_wp2_with fail
      obtain ⟨wo,rfl⟩:∃ wo:World,wo=wr:=⟨_,rfl⟩
      go_loopw [55] (fun i wr=>∃ j:Nat,j≤t.code.length∧i=.int .i64 j∧Hid (Lk wr w2.heap.size (.slice ca f.classes.length ccap) (.slice (some ⟨b,o,none⟩) f.methods.length mcap) (.slice pa t.params.length pcap) (.slice da t.code.length dcap) (.slice ha t.handlers.length hcap) t false)∧Keep W2.heap.size w2.heap.size W2 wr) (fun i _=>t.code.length - (intOf i).toNat)
      case atStart=>exact ⟨0,by omega,rfl,hlk0,Keep.refl _ _ _⟩
      case round =>
       obtain ⟨j,hj,rfl,hlk,hkp⟩:=hrel;have hks:=hkp.size;have z10:=hlk.out.2.2.1;have hlz:=hlk.out.lt
       by_cases hlt2:j < t.code.length
       ·obtain ⟨b2,o2,rfl,hb2',he2⟩:=del j hlt2;obtain ⟨x,hx⟩:=at_of hlt2;rw [hx.out] at he2;obtain ⟨g1,g2,g3,g4,g5,oks,va,g6,gargs⟩:=he2;obtain ⟨aa,acap,rfl,alc,acc,_⟩:=gargs;have h1:=hkp.cell (by omega) (by omega) (kept hbl2 hb2' g1)
        have h2:=hkp.cell (by omega) (by omega) (kept hbl2 hb2' g2)
        have h3:=hkp.cell (by omega) (by omega) (kept hbl2 hb2' g3)
        have h4:=hkp.cell (by omega) (by omega) (kept hbl2 hb2' g4)
        have h5:=hkp.cell (by omega) (by omega) (kept hbl2 hb2' g5)
        have h6:=hkp.cell (by omega) (by omega) (kept hbl2 hb2' g6)
        have hI2:(0:Int)≤(j:Int)∧(j:Int) < t.code.length:=⟨by omega,by omega⟩
        obtain ⟨hI3,hI4⟩:=hI2;clear del g1 g2 g3 g4 g5 g6
        go_wp2_with fail
        go_roundw
        case rel=>exact ⟨j+1,by omega,by go_num,Lib.hid (hlk.out.next (Below.alloc (Below.refl _ _) (Nat.le_refl _) _) hlk.out.lt),hkp.trans (Keep.alloc (Keep.refl _ _ _) (by omega) _)⟩
        case measure=>simp [intOf];omega
       ·have hge2:¬ (j:Int) < t.code.length:=by omega
        have hkb:Below w.heap.size w wr:=hbl2.trans (hkp.below (by omega) (by omega))
        clear del
        go_wp2_with fail
        go_ret;exact ⟨ret_bool (by rw [hall0.out];simp [hno.out (by rw [rme_eq,hpt.out];rfl)]),hkb⟩
    ·have hst0:(t.stack==0)=false:=by simpa using hs0
     have HS0:=Lib.hid hs0;clear hs0;refine Drawn.hd (fun w'=>(w'.cell? ⟨w.heap.size,0,none⟩=some (.slice ca f.classes.length ccap)∧w'.cell? ⟨w.heap.size,1,none⟩=some (.slice (some ⟨b,o,none⟩) f.methods.length mcap))∧w'.cell? ⟨wr.heap.size,0,none⟩=some (.slice pa t.params.length pcap)∧w'.cell? ⟨wr.heap.size,1,none⟩=some (.int .i64 t.ret.kind)∧w'.cell? ⟨wr.heap.size,2,none⟩=some (.int .i64 t.ret.cls)∧w'.cell? ⟨wr.heap.size,3,none⟩=some (.int .i64 t.stack)∧w'.cell? ⟨wr.heap.size,4,none⟩=some (.int .i64 t.locals)∧w'.cell? ⟨wr.heap.size,5,none⟩=some (.int .i64 t.regs)∧w'.cell? ⟨wr.heap.size,6,none⟩=some (.slice da t.code.length dcap)∧w'.cell? ⟨wr.heap.size,7,none⟩=some (.slice ha t.handlers.length hcap)) (hS:=by (try dsimp only);first | exact ⟨⟨f1,f2⟩,m0,m1,m2,m3,m4,m5,m6,m7⟩ | go_keep) (h:=fun hHeld=>?_)
     refine dT 0 26 ?_;refine dT 1 27 ?_;refine dT 2 28 ?_;refine dT 3 29 ?_;refine Drawn.cl 4 (fun K hK=>?_);go_simp
     go_at_call 88
     refine (headV f t 2400 _ _ _ _ hph.out (hfW.mono Rd.byB (by simp)) (hmW.mono Rd.byB (by simp)) (by omega)).mono ?_
     rintro e w2 ⟨rfl,hb2⟩;have hbW:Below W.heap.size W w2:=Below.trans Rd.byB (hb2.mono (by simp))
     have k2:=B2.next ⟨f1,f2⟩ hbW (by omega)
     have k8:=B8.next ⟨m0,m1,m2,m3,m4,m5,m6,m7⟩ hbW (by omega)
     go_wp2_with fail
     refine Drawn.bk hK (hS:=by (try dsimp only);exact ⟨k2,k8⟩) (h:=fun hHeld=>?_)
     clear hK K;refine dT 5 31 ?_;refine dT 6 32 ?_;refine dT 7 33 ?_;refine dT 8 34 ?_;refine dT 9 35 ?_;refine dT 10 36 ?_;refine dS 11 37 ?_;refine dS 12 38 ?_;refine dS 13 39 ?_;refine dT 14 40 ?_;refine dT 15 41 ?_;refine dS 16 42 ?_;refine dS 17 43 ?_;refine dS 18 44 ?_;refine dS 19 45 ?_;refine dS 20 46 ?_;refine dS 21 47 ?_;refine dS 22 48 ?_;refine dT 23 49 ?_;refine dT 24 50 ?_;refine Drawn.cl 25 (fun K hK=>?_);go_simp;refine Drawn.bk hK (hS:=by (try dsimp only);obtain ⟨kf,km⟩:(_∧_):=⟨k2,k8⟩;have:=lt_cell kf.1;have:=lt_cell km.1;refine ⟨⟨?_,?_⟩,?_,?_,?_,?_,?_,?_,?_,?_⟩ <;> (obtain ⟨kf0,kf1⟩:=kf;obtain ⟨km0,km1,km2,km3,km4,km5,km6,km7⟩:=km;go_simp)) (h:=fun hHeld=>?_)
     clear hK K;refine dT 26 5 ?_;refine dN ?_
     have hpt:Hid (pre f t=false):=by
      show _=_
      rw [hpre.out,decide_eq_false HS0.out];simp
     have hxs:=hbW.size;refine name_world (fun W2=>Hid (Lk W2 w2.heap.size (.slice ca f.classes.length ccap) (.slice (some ⟨b,o,none⟩) f.methods.length mcap) (.slice pa t.params.length pcap) (.slice da t.code.length dcap) (.slice ha t.handlers.length hcap) t false)∧Below w2.heap.size w2 W2∧W2.cell? ⟨wr.heap.size,6,none⟩=some (.slice da t.code.length dcap)) ?_ ?_
     ·refine ⟨?_,Rd.byB,?_⟩
      ·show Lk _ _ _ _ _ _ _ _ _
       refine ⟨⟨?_,?_⟩,⟨?_,?_,?_,?_,?_,?_,?_,?_⟩,?_,?_⟩
       all_goals go_simp
      ·obtain ⟨kf,km⟩:(_∧_):=⟨k2,k8⟩;have hz:=lt_cell km.1;have km6:=km.2.2.2.2.2.2.1;clear kf km;go_simp
     rintro W2 ⟨hlk0,hbl0,m6'⟩;have hbl1:Below wr.heap.size wr W2:=(hbr.trans (hbW.mono hbr.size)).trans (hbl0.mono (by have:=hbr.size;omega))
     have hbl2:Below w.heap.size w W2:=hwr2.out.trans (hbl1.mono hwrs);have hblw:w.heap.size≤w2.heap.size:=by have:=hbr.size;omega
     have hl6:=lt_cell m6';have hlbs:=hlk0.out.lt;have hlbr:wr.heap.size < w2.heap.size:=by have:=hbr.size;omega
     clear f1 f2 m0 m1 m2 m3 m4 m5 m6 m7 htW hfW hmW hts0 k2 k8
     go_wp2_with fail
     obtain ⟨wo,rfl⟩:∃ wo:World,wo=wr:=⟨_,rfl⟩
     go_loopw [55] (fun i wr=>∃ j:Nat,j≤t.code.length∧i=.int .i64 j∧Hid (Lk wr w2.heap.size (.slice ca f.classes.length ccap) (.slice (some ⟨b,o,none⟩) f.methods.length mcap) (.slice pa t.params.length pcap) (.slice da t.code.length dcap) (.slice ha t.handlers.length hcap) t false)∧Keep W2.heap.size w2.heap.size W2 wr) (fun i _=>t.code.length - (intOf i).toNat)
     case atStart=>exact ⟨0,by omega,rfl,hlk0,Keep.refl _ _ _⟩
     case round =>
      obtain ⟨j,hj,rfl,hlk,hkp⟩:=hrel;have hks:=hkp.size;have z10:=hlk.out.2.2.1;have hlz:=hlk.out.lt
      by_cases hlt2:j < t.code.length
      ·obtain ⟨b2,o2,rfl,hb2',he2⟩:=del j hlt2;obtain ⟨x,hx⟩:=at_of hlt2;rw [hx.out] at he2;obtain ⟨g1,g2,g3,g4,g5,oks,va,g6,gargs⟩:=he2;obtain ⟨aa,acap,rfl,alc,acc,_⟩:=gargs;have h1:=hkp.cell (by omega) (by omega) (kept hbl2 hb2' g1)
       have h2:=hkp.cell (by omega) (by omega) (kept hbl2 hb2' g2)
       have h3:=hkp.cell (by omega) (by omega) (kept hbl2 hb2' g3)
       have h4:=hkp.cell (by omega) (by omega) (kept hbl2 hb2' g4)
       have h5:=hkp.cell (by omega) (by omega) (kept hbl2 hb2' g5)
       have h6:=hkp.cell (by omega) (by omega) (kept hbl2 hb2' g6)
       have hI2:(0:Int)≤(j:Int)∧(j:Int) < t.code.length:=⟨by omega,by omega⟩
       obtain ⟨hI3,hI4⟩:=hI2;clear del g1 g2 g3 g4 g5 g6
       go_wp2_with fail
       go_roundw
       case rel=>exact ⟨j+1,by omega,by go_num,Lib.hid (hlk.out.next (Below.alloc (Below.refl _ _) (Nat.le_refl _) _) hlk.out.lt),hkp.trans (Keep.alloc (Keep.refl _ _ _) (by omega) _)⟩
       case measure=>simp [intOf];omega
      ·have hge2:¬ (j:Int) < t.code.length:=by omega
       have hkb:Below w.heap.size w wr:=hbl2.trans (hkp.below (by omega) (by omega))
       clear del
       go_wp2_with fail
       go_ret;exact ⟨ret_bool (by rw [hall0.out];simp [hno.out (by rw [rme_eq,hpt.out];rfl)]),hkb⟩
  ·have hst:=Lib.hid (Form.all_of (p:=Rform.rme f) (fun j hj=>hall.out j hj (by omega)))
   clear hall mel
   go_wp2
   go_ret;exact ⟨ret_bool (by rw [hall0.out,hst.out];rfl),hwr⟩
end Look
namespace RefG
open Num Rd D HierW FormW
theorem lrmayV (f:Fi) (p:Bool) (vf:Value) (w:World) (hp:Rform.rmay f=p) (hf:VFi w w.heap.size vf f) :
  Calls Tryz.prog 43 #[vf] w fun e w'=>e=.returned (.bool p)∧Below w.heap.size w w':=by
 subst hp;exact Look.rmay f vf w hf
end RefG
namespace Hpr
open Num Rd D Run Mem HierW Hpw
section
variable {w:World}{B:Nat}{f:Fi}{E:Ev}{L:Lay}{d:Nat}
set_option maxRecDepth 100000 in
theorem runN {vf va vi:Value}(Hf:VFi w w.heap.size vf f) (hmay:Rform.rmay f=false) (entry fuel:Int):Calls Tryz.prog 19 #[vf,.int .i64 entry,va,vi,.int .i64 fuel] w (RunA w Sh.nil 2):=by
 have Hf':=Lib.hid Hf;obtain ⟨vc,vm,rfl,hc,hm⟩:=Hf;obtain ⟨a1,c1,rfl,_⟩:=hc;obtain ⟨a2,c2,rfl,_⟩:=hm;obtain ⟨n1,hn1⟩:∃ n,n=f.classes.length:=⟨_,rfl⟩;obtain ⟨n2,hn2⟩:∃ n,n=f.methods.length:=⟨_,rfl⟩;rw [← hn1,← hn2] at Hf' ⊢;have HM:=Lib.hid hmay;clear hmay hn1 hn2
 go_enter Tryz.func19,Tryz.ntmps19
 go_wp2_with fail
 refine (RefG.lrmayV f _ _ _ HM.out (Hf'.out.mono (by exact Rd.byB) (by simp <;> omega))).mono ?_
 rintro e w1 ⟨rfl,hb1⟩;have a0:w1.cell? ⟨w.heap.size,0,none⟩=some (.slice a1 n1 c1):=kept hb1 Rd.byL (by go_simp)
 have a1':w1.cell? ⟨w.heap.size,1,none⟩=some (.slice a2 n2 c2):=kept hb1 Rd.byL (by go_simp)
 have a2':w1.cell? ⟨w.heap.size+1,0,none⟩=some (.int .i64 entry):=kept hb1 Rd.byL (by go_simp)
 have y0:w1.cell? ⟨w.heap.size+1+1,0,none⟩=some (.int .i64 0):=kept hb1 Rd.byL (by go_simp)
 have f0:w1.frozen? ⟨w.heap.size+1+1,0,none⟩=false:=keptf hb1 Rd.byL (by go_simp)
 have y1:w1.cell? ⟨w.heap.size+1+1,1,none⟩=some (.int .i64 0):=kept hb1 Rd.byL (by go_simp)
 have f1:w1.frozen? ⟨w.heap.size+1+1,1,none⟩=false:=keptf hb1 Rd.byL (by go_simp)
 have y2:w1.cell? ⟨w.heap.size+1+1,2,none⟩=some (.int .i64 0):=kept hb1 Rd.byL (by go_simp)
 have f2:w1.frozen? ⟨w.heap.size+1+1,2,none⟩=false:=keptf hb1 Rd.byL (by go_simp)
 have y3:w1.cell? ⟨w.heap.size+1+1,3,none⟩=some (.slice none 0 0):=kept hb1 Rd.byL (by go_simp)
 have f3:w1.frozen? ⟨w.heap.size+1+1,3,none⟩=false:=keptf hb1 Rd.byL (by go_simp)
 have y4:w1.cell? ⟨w.heap.size+1+1,4,none⟩=some (.int .i64 0):=kept hb1 Rd.byL (by go_simp)
 have f4:w1.frozen? ⟨w.heap.size+1+1,4,none⟩=false:=keptf hb1 Rd.byL (by go_simp)
 have y5:w1.cell? ⟨w.heap.size+1+1,5,none⟩=some (.int .i64 0):=kept hb1 Rd.byL (by go_simp)
 have f5:w1.frozen? ⟨w.heap.size+1+1,5,none⟩=false:=keptf hb1 Rd.byL (by go_simp)
 have hbw:Below w.heap.size w w1:=Below.trans (by exact Rd.byB) (hb1.mono (by simp <;> omega))
 have hsz:w.heap.size+3≤w1.heap.size:=by have:=hb1.size;simp at this;omega
 have ly:=cell_lt y0;clear hb1
 go_wp2_with fail
 refine bodyPost_ret (v:=.tuple #[.agg #[.int .i64 0,.int .i64 0,.int .i64 0,.slice none 0 0,.int .i64 0,.int .i64 0],.int .i64 2]) (by simp [results,Tryz.results19,go_sem] <;> go_simp) rfl ?_
 exact ⟨_,rfl,⟨_,rfl,World.ownsRow_nil _ _ _ _⟩,by exact Rd.byB⟩
set_option maxRecDepth 100000 in
theorem runE {vf va vi:Value}(Hf:VFi w w.heap.size vf f) (hmay:Rform.rmay f=true) (entry fuel c:Int) (hc0:c≠0) (hbg:∀ W,Below w.heap.size w W→Calls Tryz.prog 21 #[vf,.int .i64 entry,va,vi,.int .i64 fuel] W (BeginE W c)):Calls Tryz.prog 19 #[vf,.int .i64 entry,va,vi,.int .i64 fuel] w (RunA w Sh.nil c):=by
 have Hf':=Lib.hid Hf;have HBG:=Lib.hid hbg;obtain ⟨vc,vm,rfl,hc,hm⟩:=Hf;obtain ⟨a1,c1,rfl,_⟩:=hc;obtain ⟨a2,c2,rfl,_⟩:=hm;obtain ⟨n1,hn1⟩:∃ n,n=f.classes.length:=⟨_,rfl⟩;obtain ⟨n2,hn2⟩:∃ n,n=f.methods.length:=⟨_,rfl⟩;rw [← hn1,← hn2] at Hf' HBG ⊢;have HM:=Lib.hid hmay;clear hmay hn1 hn2;clear hbg;have hcb:(c != 0)=true:=by simpa using hc0
 go_enter Tryz.func19,Tryz.ntmps19
 go_wp2_with fail
 refine (RefG.lrmayV f _ _ _ HM.out (Hf'.out.mono (by exact Rd.byB) (by simp <;> omega))).mono ?_
 rintro e w1 ⟨rfl,hb1⟩;have a0:w1.cell? ⟨w.heap.size,0,none⟩=some (.slice a1 n1 c1):=kept hb1 Rd.byL (by go_simp)
 have a1':w1.cell? ⟨w.heap.size,1,none⟩=some (.slice a2 n2 c2):=kept hb1 Rd.byL (by go_simp)
 have a2':w1.cell? ⟨w.heap.size+1,0,none⟩=some (.int .i64 entry):=kept hb1 Rd.byL (by go_simp)
 have y0:w1.cell? ⟨w.heap.size+1+1,0,none⟩=some (.int .i64 0):=kept hb1 Rd.byL (by go_simp)
 have f0:w1.frozen? ⟨w.heap.size+1+1,0,none⟩=false:=keptf hb1 Rd.byL (by go_simp)
 have y1:w1.cell? ⟨w.heap.size+1+1,1,none⟩=some (.int .i64 0):=kept hb1 Rd.byL (by go_simp)
 have f1:w1.frozen? ⟨w.heap.size+1+1,1,none⟩=false:=keptf hb1 Rd.byL (by go_simp)
 have y2:w1.cell? ⟨w.heap.size+1+1,2,none⟩=some (.int .i64 0):=kept hb1 Rd.byL (by go_simp)
 have f2:w1.frozen? ⟨w.heap.size+1+1,2,none⟩=false:=keptf hb1 Rd.byL (by go_simp)
 have y3:w1.cell? ⟨w.heap.size+1+1,3,none⟩=some (.slice none 0 0):=kept hb1 Rd.byL (by go_simp)
 have f3:w1.frozen? ⟨w.heap.size+1+1,3,none⟩=false:=keptf hb1 Rd.byL (by go_simp)
 have y4:w1.cell? ⟨w.heap.size+1+1,4,none⟩=some (.int .i64 0):=kept hb1 Rd.byL (by go_simp)
 have f4:w1.frozen? ⟨w.heap.size+1+1,4,none⟩=false:=keptf hb1 Rd.byL (by go_simp)
 have y5:w1.cell? ⟨w.heap.size+1+1,5,none⟩=some (.int .i64 0):=kept hb1 Rd.byL (by go_simp)
 have f5:w1.frozen? ⟨w.heap.size+1+1,5,none⟩=false:=keptf hb1 Rd.byL (by go_simp)
 have hbw:Below w.heap.size w w1:=Below.trans (by exact Rd.byB) (hb1.mono (by simp <;> omega))
 have hsz:w.heap.size+3≤w1.heap.size:=by have:=hb1.size;simp at this;omega
 have ly:=cell_lt y0;clear hb1
 go_wp2_with fail
 refine (HBG.out _ hbw).mono ?_;rintro e w2 ⟨rfl,hb2⟩;replace y0:=kept hb2 ly y0;replace f0:=keptf hb2 ly f0;replace y1:=kept hb2 ly y1;replace f1:=keptf hb2 ly f1;replace y2:=kept hb2 ly y2;replace f2:=keptf hb2 ly f2;replace y3:=kept hb2 ly y3;replace f3:=keptf hb2 ly f3;replace y4:=kept hb2 ly y4;replace f4:=keptf hb2 ly f4;replace y5:=kept hb2 ly y5;replace f5:=keptf hb2 ly f5;have hbw2:=hbw.trans (hb2.mono (by omega))
 have ly2:=cell_lt y0;have ly3:w.heap.size+1+1 < w2.heap.size+1:=by omega
 have ly4:w.heap.size+1+1 < w2.heap.size+1+1:=by omega
 clear hb2
 go_wp2_with fail
 refine bodyPost_ret (v:=.tuple #[.agg #[.int .i64 0,.int .i64 0,.int .i64 0,.slice none 0 0,.int .i64 0,.int .i64 0],.int .i64 c]) (by simp [results,Tryz.results19,go_sem] <;> go_simp) rfl ?_
 have hsz2:=hbw2.size;have hfin:∀ (W:World) (j:Nat) (u:Value),Below w.heap.size w W→Below w.heap.size w (W.setCell ⟨w.heap.size+1+1,j,none⟩ u):=fun W j u h=>h.setCell (by show w.heap.size≤w.heap.size+1+1;omega) _
 have hal:∀ (W:World) (o:Obj),Below w.heap.size w W→Below w.heap.size w (W.alloc o):=fun W o h=>h.alloc h.size _;refine ⟨_,rfl,⟨_,rfl,World.ownsRow_nil _ _ _ _⟩,?_⟩
 repeat (first | with_reducible exact hbw2 | with_reducible apply hal | with_reducible apply hfin)
set_option maxRecDepth 100000 in
theorem runO {vf va vi:Value}{input args:List Int}{fuel:Int}(S:FiR f) (MO:MachOk RM RfOk f input fuel.toNat) (Hf:VFi w w.heap.size vf f) (hmay:Rform.rmay f=true) (k:Nat) (hk:k < f.methods.length) (q3:¬ fuel < 0) (q4:¬ 60000 < fuel) (hi:Sl 1 EInt w w.heap.size vi input) (h3:input.length≤1000) (ha:Sl 1 EInt w w.heap.size va args) (h4:args.length=(f.methods[k]).params.length) (hno:(f.methods[k]).params.any (fun t=>decide (t.kind=3))=false) (hv:∀ v∈List.zipWith argOf (f.methods[k]).params args,VtOk 0 v) :
  Calls Tryz.prog 19 #[vf,.int .i64 k,va,vi,.int .i64 fuel] w (RunA w (shown (call RM f input fuel.toNat (fuel.toNat+1) 0 (meAt f k) (List.zipWith argOf (f.methods[k]).params args) h0)) 0):=by
 have em:f.methods[k]=meAt f k:=by unfold meAt;rw [List.getD_eq_getElem?_getD,List.getElem?_eq_getElem hk];rfl
 have Hf':=Lib.hid Hf;have MM:=S.mes _ (List.getElem_mem hk)
 have hty:∀ t∈(f.methods[k]).params,t.kind=1∨t.kind=2∨t.kind=3:=fun t ht=>by
  have:=MM.params.2 t ht
  unfold Hier.ty at this
  split at this
  ·rename_i q;omega
  ·split at this
   ·rename_i q;omega
   ·cases this
 obtain ⟨vc,vm,rfl,hc,hm⟩:=Hf;have HBEG:∀ W:World,Below w.heap.size w W→Calls Tryz.prog 21 #[.agg #[vc,vm],.int .i64 k,va,vi,.int .i64 fuel] W (BegR W f f.methods[k] args input fuel vc vm vi):=fun W hW=>begin5 (hc.mono mCls hW (Nat.le_refl _)) (hm.mono mMe hW (Nat.le_refl _)) hW.size k hk fuel q3 q4 (hi.mono mInt hW (Nat.le_refl _)) h3 (ha.mono mInt hW (Nat.le_refl _)) h4 MM.params.1 hty;have HCO:CallOk f input fuel.toNat (meAt f k) h0 (call RM f input fuel.toNat (fuel.toNat+1) 0 (meAt f k) (List.zipWith argOf (f.methods[k]).params args) h0):=call_ok MO _ _ _ _ _ (meAt_mem hk) fiH0 hv (by rw [List.length_zipWith,h4,← em];omega)
 have HIV:∀ (E:Ev),(E.f=f∧E.input=input∧E.fuel=fuel.toNat)→∀ (W:World) (mv vl:Value),PH E W L0 h0 0→VMe W E.B mv (meAt f k)→VS W (own E L0) vl (List.zipWith argOf (f.methods[k]).params args)→Calls Tryz.prog 45 #[.pointer (some ⟨E.hb,0,none⟩),mv,vl] W (InvR E L0 0 W (call RM f input fuel.toNat (fuel.toNat+1) 0 (meAt f k) (List.zipWith argOf (f.methods[k]).params args) h0)):=fun E hE W mv vl H hmv V=>by
  obtain ⟨rfl,rfl,hEf⟩:=hE;rw [← hEf] at MO ⊢;exact invOk S MO (by omega) h3 20 0 rfl (E.fuel+1) h0 (by unfold h0;simp only;omega) k _ h0 hk fiH0 rfl hv (by rw [List.length_zipWith,h4,← em];omega) L0 W mv vl (own E L0) H hmv V (fun _ e=>e)
 obtain ⟨r,hr⟩:∃ r,Hid (call RM f input fuel.toNat (fuel.toNat+1) 0 (meAt f k) (List.zipWith argOf (f.methods[k]).params args) h0=r):=⟨_,Lib.hid rfl⟩;rw [hr.out] at HIV HCO ⊢;obtain ⟨a1,c1,rfl,_⟩:=id hc;obtain ⟨a2,c2,rfl,_⟩:=id hm;obtain ⟨n1,hn1⟩:∃ n,n=f.classes.length:=⟨_,rfl⟩;obtain ⟨n2,hn2⟩:∃ n,n=f.methods.length:=⟨_,rfl⟩;obtain ⟨entry,hent⟩:∃ entry:Int,entry=(k:Int):=⟨_,rfl⟩;rw [← hn1,← hn2,← hent] at HBEG ⊢;rw [← hn1,← hn2] at Hf';replace HBEG:=Lib.hid HBEG;replace HIV:=Lib.hid HIV;replace HCO:=Lib.hid HCO;have HM:=Lib.hid hmay;have HNO:=Lib.hid hno;have HEN:=Lib.hid hent;clear hmay hn1 hn2 hno hv hi ha hc hm hty MM MO h3 h4 q3 q4 em hent
 go_enter Tryz.func19,Tryz.ntmps19
 go_wp2_with fail
 refine (RefG.lrmayV f _ _ _ HM.out (Hf'.out.mono (by exact Rd.byB) (by simp <;> omega))).mono ?_
 rintro e w1 ⟨rfl,hb1⟩;have a0:w1.cell? ⟨w.heap.size,0,none⟩=some (.slice a1 n1 c1):=kept hb1 Rd.byL (by go_simp)
 have a1':w1.cell? ⟨w.heap.size,1,none⟩=some (.slice a2 n2 c2):=kept hb1 Rd.byL (by go_simp)
 have a2':w1.cell? ⟨w.heap.size+1,0,none⟩=some (.int .i64 entry):=kept hb1 Rd.byL (by go_simp)
 have y0:w1.cell? ⟨w.heap.size+1+1,0,none⟩=some (.int .i64 0):=kept hb1 Rd.byL (by go_simp)
 have f0:w1.frozen? ⟨w.heap.size+1+1,0,none⟩=false:=keptf hb1 Rd.byL (by go_simp)
 have y1:w1.cell? ⟨w.heap.size+1+1,1,none⟩=some (.int .i64 0):=kept hb1 Rd.byL (by go_simp)
 have f1:w1.frozen? ⟨w.heap.size+1+1,1,none⟩=false:=keptf hb1 Rd.byL (by go_simp)
 have y2:w1.cell? ⟨w.heap.size+1+1,2,none⟩=some (.int .i64 0):=kept hb1 Rd.byL (by go_simp)
 have f2:w1.frozen? ⟨w.heap.size+1+1,2,none⟩=false:=keptf hb1 Rd.byL (by go_simp)
 have y3:w1.cell? ⟨w.heap.size+1+1,3,none⟩=some (.slice none 0 0):=kept hb1 Rd.byL (by go_simp)
 have f3:w1.frozen? ⟨w.heap.size+1+1,3,none⟩=false:=keptf hb1 Rd.byL (by go_simp)
 have y4:w1.cell? ⟨w.heap.size+1+1,4,none⟩=some (.int .i64 0):=kept hb1 Rd.byL (by go_simp)
 have f4:w1.frozen? ⟨w.heap.size+1+1,4,none⟩=false:=keptf hb1 Rd.byL (by go_simp)
 have y5:w1.cell? ⟨w.heap.size+1+1,5,none⟩=some (.int .i64 0):=kept hb1 Rd.byL (by go_simp)
 have f5:w1.frozen? ⟨w.heap.size+1+1,5,none⟩=false:=keptf hb1 Rd.byL (by go_simp)
 have hbw:Below w.heap.size w w1:=Below.trans (by exact Rd.byB) (hb1.mono (by simp <;> omega))
 have hsz:w.heap.size+3≤w1.heap.size:=by have:=hb1.size;simp at this;omega
 have ly:=cell_lt y0;clear hb1
 go_wp2_with fail
 refine (HBEG.out _ hbw).mono ?_;rintro e w2 HBG;obtain ⟨E,vl,rfl,hE,H,V,hb2⟩:=begR HNO.out HBG;obtain ⟨va2,vcap,hvl,_⟩:=V.len;obtain ⟨nl,hnl⟩:∃ nl,nl=(List.zipWith argOf f.methods[k].params args).length:=⟨_,rfl⟩;rw [← hnl] at hvl;subst hvl;clear hnl;clear HBG;replace y0:=kept hb2 ly y0;replace f0:=keptf hb2 ly f0;replace y1:=kept hb2 ly y1;replace f1:=keptf hb2 ly f1;replace y2:=kept hb2 ly y2;replace f2:=keptf hb2 ly f2;replace y3:=kept hb2 ly y3;replace f3:=keptf hb2 ly f3;replace y4:=kept hb2 ly y4;replace f4:=keptf hb2 ly f4;replace y5:=kept hb2 ly y5;replace f5:=keptf hb2 ly f5;replace a0:=kept hb2 (by omega) a0
 replace a1':=kept hb2 (by omega) a1'
 replace a2':=kept hb2 (by omega) a2'
 have hbw2:=hbw.trans (hb2.mono (by omega))
 have ly2:=cell_lt y0;have ly3:w.heap.size+1+1 < w2.heap.size+1:=by omega
 have ly4:w.heap.size+1+1 < w2.heap.size+1+1:=by omega
 have hsz2:=hb2.size;have HB2:=Lib.hid hb2;replace H:=Lib.hid H;replace V:=Lib.hid V;replace hE:=Lib.hid hE;clear hb2;have n3:w2.heap.size < w2.heap.size+1:=by omega
 have hEB:E.B=w1.heap.size:=hE.out.2.2.2.1;have nres:¬ own E L0 (w.heap.size+1+1):=fun hk=>by have:=(own_lo H.out hk).1;omega
 have nbox:¬ own E L0 w2.heap.size:=fun hk=>by have:=(own_lo H.out hk).2;omega
 have HW:∀ W,Below w2.heap.size w2 W→PH E W L0 h0 0:=fun W hW=>H.out.below hW;replace HW:=Lib.hid HW;have lw0:=cell_lt a0;have lw2:=cell_lt a2';have lw0a:w.heap.size < w2.heap.size+1:=by omega
 have lw0b:w.heap.size < w2.heap.size+1+1:=by omega
 have lw2a:w.heap.size+1 < w2.heap.size+1:=by omega
 have lw2b:w.heap.size+1 < w2.heap.size+1+1:=by omega
 go_wp2_with fail
 refine (runsP (HW.out _ (by exact Rd.byB)) _ _ _ _ r (firstP (HW.out _ (by exact Rd.byB)) k (by rw [hE.out.1];exact hk) _ _ _ _ (.slice va2 nl vcap) r (by go_simp) (by rw [hE.out.2.2.2.2];go_simp) (by rw [← HEN.out];go_simp) (by go_simp) (fun W mv hW hmv=>?hC)) (fun o h' e=>by have:=HCO.out;rw [e] at this;exact this.2)).mono ?_
 case hC =>
  rw [hE.out.1] at hmv;have hW2:Below w2.heap.size w2 W:=Below.trans (by exact Rd.byB) (hW.mono (by simp <;> omega))
  exact HIV.out E ⟨hE.out.1,hE.out.2.1,hE.out.2.2.1⟩ W mv _ (HW.out _ hW2) hmv (V.out.next (Kp.of_below (X:=fun _=>False) hW2 (Nat.le_refl _)) (fun _ _ e=>e.elim) (fun _ _ e=>e))
 rintro e w4 ⟨rfl,K4,vo,B4,R4⟩;obtain ⟨oa,oc,rfl⟩:=row_any R4;have b0:=K4.cell (c:=w2.heap.size) (o:=0) (v:=.pointer (some ⟨E.hb,0,none⟩)) (by go_simp) nbox
 have z0:=K4.cell (c:=w.heap.size+1+1) (o:=0) (v:=.int .i64 0) (by go_simp) nres
 have g0:=K4.frz (c:=w.heap.size+1+1) (o:=0) (b:=false) (by go_simp) (by simp;omega) nres
 have z1:=K4.cell (c:=w.heap.size+1+1) (o:=1) (v:=.int .i64 0) (by go_simp) nres
 have g1:=K4.frz (c:=w.heap.size+1+1) (o:=1) (b:=false) (by go_simp) (by simp;omega) nres
 have z2:=K4.cell (c:=w.heap.size+1+1) (o:=2) (v:=.int .i64 0) (by go_simp) nres
 have g2:=K4.frz (c:=w.heap.size+1+1) (o:=2) (b:=false) (by go_simp) (by simp;omega) nres
 have z3:=K4.cell (c:=w.heap.size+1+1) (o:=3) (v:=.slice none 0 0) (by go_simp) nres
 have g3:=K4.frz (c:=w.heap.size+1+1) (o:=3) (b:=false) (by go_simp) (by simp;omega) nres
 have z4:=K4.cell (c:=w.heap.size+1+1) (o:=4) (v:=.int .i64 0) (by go_simp) nres
 have g4:=K4.frz (c:=w.heap.size+1+1) (o:=4) (b:=false) (by go_simp) (by simp;omega) nres
 have z5:=K4.cell (c:=w.heap.size+1+1) (o:=5) (v:=.int .i64 0) (by go_simp) nres
 have g5:=K4.frz (c:=w.heap.size+1+1) (o:=5) (b:=false) (by go_simp) (by simp;omega) nres
 have e2:=(B4 2 (by simp)).1
 have e3:=(B4 3 (by simp)).1
 have e4:=(B4 4 (by simp)).1
 have e5:=(B4 5 (by simp)).1
 have e6:=(B4 6 (by simp)).1
 have e7:=(B4 7 (by simp)).1
 simp only [List.getElem_cons_zero,List.getElem_cons_succ] at e2 e3 e4 e5 e6 e7;have hK4:=Lib.hid K4;have hR4:=Lib.hid R4;have hlb:=cell_lt b0;have hlz:=cell_lt z0;have hle:=cell_lt e2;have hnr:E.hb≠w.heap.size+1+1:=fun e=>nres (.inl e.symm);have hnr2:=hnr.symm;clear K4 R4 B4 y0 f0 y1 f1 y2 f2 y3 f3 y4 f4 y5 f5
 go_wp2_with fail
 refine bodyPost_ret (v:=.tuple #[.agg #[.int .i64 (shown r).fin,.int .i64 (shown r).value,.int .i64 (shown r).cls,.slice oa (shown r).out.length oc,.int .i64 (shown r).used,.int .i64 (shown r).steps],.int .i64 0]) (by simp [results,Tryz.results19,go_sem] <;> go_simp) rfl ?_
 have K:∀ (W:World) (j:Nat) (u:Value),Kp (fun k=>k=w.heap.size+1+1) w4 W→Kp (fun k=>k=w.heap.size+1+1) w4 (W.setCell ⟨w.heap.size+1+1,j,none⟩ u):=fun W j u K=>K.setCell (p:=⟨w.heap.size+1+1,j,none⟩) (.inl rfl) u;have KK:=K _ 5 (.int .i64 (shown r).steps) (K _ 4 (.int .i64 (shown r).used) (K _ 3 (.slice oa (shown r).out.length oc) (K _ 2 (.int .i64 (shown r).cls) (K _ 1 (.int .i64 (shown r).value) (K _ 0 (.int .i64 (shown r).fin) (Kp.refl _ w4))))));have KA:Kp (fun k=>w.heap.size≤k) w w4:=((Kp.of_below (X:=fun k=>w.heap.size≤k) hbw2 (Nat.le_refl _)).trans ((Kp.refl (fun _=>False) w2).alloc _ |>.alloc _) (fun _ e=>e.elim)).trans hK4.out (fun y hy=>.inl (by have:=(own_lo H.out hy).1;omega))
 refine ⟨_,rfl,⟨_,rfl,row_low (row_keep hR4.out KK (fun g hg e=>?_)) (by omega)⟩,(KA.trans KK (fun y hy=>.inl (by omega))).below (Nat.le_refl _) (fun _ e=>e)⟩
 have:=(World.ownsRow.lt hR4.out g hg).1
 omega
def rrunPlay (f:Fi) (entry:Int) (args input:List Int) (fuel:Int):Sh × Int:=if Rform.rmay f=true then Run.play RM f entry args input fuel else (Sh.nil,2)
theorem rrun {vf va vi:Value}{input args:List Int}{entry fuel:Int}(Hf:VFi w w.heap.size vf f) (hi:Sl 1 EInt w w.heap.size vi input) (ha:Sl 1 EInt w w.heap.size va args) :
  Calls Tryz.prog 19 #[vf,.int .i64 entry,va,vi,.int .i64 fuel] w (RunA w (rrunPlay f entry args input fuel).1 (rrunPlay f entry args input fuel).2):=by
 unfold rrunPlay
 cases hmay:Rform.rmay f
 ·rw [if_neg (by simp)]
  exact runN Hf hmay entry fuel
 rw [if_pos rfl];have S:=fiR_of hmay
 have hn:∀ m∈f.methods,∀ i∈m.code,Ok i.n:=by
  intro m hm i hi
  obtain ⟨_,_,_,_,hms⟩:=Hf;obtain ⟨_,_,_,_,_,hel⟩:=hms;obtain ⟨k,hk,rfl⟩:=List.getElem_of_mem hm;obtain ⟨_,_,_,_,vp,vco,vh,_,_,_,_,_,_,_,_,_,_,hco,_⟩:=hel k hk;obtain ⟨_,_,_,_,_,hec⟩:=hco;obtain ⟨j,hj,rfl⟩:=List.getElem_of_mem hi;obtain ⟨_,_,_,_,_,_,_,_,_,ho,_⟩:=hec j hj;exact ho.2.2.2.2
 have hin:∀ x∈input,Ok x:=by
  intro x hx
  obtain ⟨_,_,_,_,_,hel⟩:=hi;obtain ⟨k,hk,rfl⟩:=List.getElem_of_mem hx;obtain ⟨_,_,_,_,_,h⟩:=hel k hk;exact h
 have har:∀ x∈args,Ok x:=by
  intro x hx
  obtain ⟨_,_,_,_,_,hel⟩:=ha;obtain ⟨k,hk,rfl⟩:=List.getElem_of_mem hx;obtain ⟨_,_,_,_,_,h⟩:=hel k hk;exact h
 have out:∀ c:Int,c≠0→begin_ f entry args input fuel=c→(∀ W,Below w.heap.size w W→Calls Tryz.prog 21 #[vf,.int .i64 entry,va,vi,.int .i64 fuel] W (BeginE W c))→Calls Tryz.prog 19 #[vf,.int .i64 entry,va,vi,.int .i64 fuel] w (RunA w (Run.play RM f entry args input fuel).1 (Run.play RM f entry args input fuel).2):=fun c h0 he h=>by
  have e:Run.play RM f entry args input fuel=(Sh.nil,c):=by unfold Run.play;rw [he,if_pos h0]
  rw [e];exact runE Hf hmay entry fuel c h0 h
 by_cases b0:entry < 0∨(f.methods.length:Int)≤entry∨fuel < 0∨60000 < fuel
 ·exact out 4 (by decide) (by unfold begin_;rw [if_pos b0]) (fun W hW=>begin1 (Hf.mono hW hW.size) entry fuel b0)
 by_cases h3:1000 < input.length
 ·exact out 1 (by decide) (by unfold begin_;rw [if_neg b0,if_pos h3]) (fun W hW=>begin3 (Hf.mono hW hW.size) entry fuel (by omega) (by omega) (by omega) (by omega) (hi.mono mInt hW hW.size) h3)
 obtain ⟨k,rfl⟩:∃ k:Nat,entry=(k:Int):=⟨entry.toNat,by omega⟩
 have hk:k < f.methods.length:=by omega
 have q3:¬ fuel < 0:=by omega
 have q4:¬ 60000 < fuel:=by omega
 have em:f.methods[k]=meAt f k:=by unfold meAt;rw [List.getD_eq_getElem?_getD,List.getElem?_eq_getElem hk];rfl
 have M:=S.mes _ (List.getElem_mem hk);have ek:((k:Int)).toNat=k:=by omega
 by_cases h4:args.length=(f.methods[k]).params.length
 ·cases hany:(f.methods[k]).params.any (fun t=>decide (t.kind=3))
  ·have hb0:begin_ f k args input fuel=0:=by unfold begin_;rw [if_neg b0,if_neg h3,ek,← em,if_neg (by rw [hany];simp [h4])]
   have e:Run.play RM f k args input fuel=(shown (call RM f input fuel.toNat (fuel.toNat+1) 0 (meAt f k) (List.zipWith argOf (f.methods[k]).params args) h0),0):=by unfold Run.play;rw [hb0,if_neg (by simp),ek,← em];rfl
   rw [e];refine runO S (rm_ok S hn hin) Hf hmay k hk q3 q4 hi (by omega) ha h4 hany (fun v hv=>?_)
   obtain ⟨i,hi2,rfl⟩:=List.getElem_of_mem hv;rw [List.getElem_zipWith];simp only [List.length_zipWith] at hi2;have ht:=M.params.2 _ (List.getElem_mem (show i < (f.methods[k]).params.length by omega))
   refine argOf_vt ht (fun e3=>?_) (har _ (List.getElem_mem _))
   have:=List.any_eq_false.1 hany _ (List.getElem_mem (show i < (f.methods[k]).params.length by omega))
   simp [e3] at this
  ·obtain ⟨vc,vm,rfl,hc,hm⟩:=id Hf
   have hty:∀ t∈(f.methods[k]).params,t.kind=1∨t.kind=2∨t.kind=3:=fun t ht=>by
    have:=M.params.2 t ht
    unfold Hier.ty at this
    split at this
    ·rename_i q;omega
    ·split at this
     ·rename_i q;omega
     ·cases this
   refine out 3 (by decide) (by unfold begin_;rw [if_neg b0,if_neg h3,ek,← em,if_pos (.inr hany)]) (fun W hW=>(begin5 (hc.mono mCls hW (Nat.le_refl _)) (hm.mono mMe hW (Nat.le_refl _)) hW.size k hk fuel q3 q4 (hi.mono mInt hW (Nat.le_refl _)) (by omega) (ha.mono mInt hW (Nat.le_refl _)) h4 M.params.1 hty).mono fun e w' h=>?_)
   unfold BegR at h;rw [if_pos hany] at h;exact h
 ·exact out 3 (by decide) (by unfold begin_;rw [if_neg b0,if_neg h3,ek,← em,if_pos (.inl h4)]) (fun W hW=>begin4 (Hf.mono hW hW.size) (Nat.le_refl _) k hk fuel q3 q4 (hi.mono mInt hW hW.size) (by omega) (ha.mono mInt hW hW.size) h4)
end
end Hpr
namespace Lo
open Num Rd D Run Mem HierW
def IS (w:World) (v:Value) (l:List Int):Prop:=∃ (a:Option Addr) (cap:Nat),v=.slice a l.length cap∧l.length≤cap∧cap≤9223372036854775807∧∀ i (h:i < l.length),∃ b o,a=some ⟨b,o,none⟩∧w.cell? ⟨b,o+i,none⟩=some (.int .i64 l[i])
theorem IS.below {w w':World}{v:Value}{l:List Int}(h:IS w v l) (hb:Below w.heap.size w w'):IS w' v l:=by
 obtain ⟨a,cap,h1,h2,h3,h4⟩:=h;refine ⟨a,cap,h1,h2,h3,fun i hi=>?_⟩;obtain ⟨b,o,e,c⟩:=h4 i hi;exact ⟨b,o,e,kept hb (cell_lt c) c⟩
theorem IS.of_row {w:World}{B:Nat}{v:Value}{l:List Int}(h:w.ownsRow B 2 1 v l.length (l.map (.int .i64 ·))):IS w v l:=by
 by_cases h0:0 < l.length
 ·obtain ⟨g,cap,hv,c1,c2,_,_⟩:=row_form h h0;rw [hv] at h ⊢;refine ⟨_,cap,rfl,c1,c2,fun i hi=>⟨g,0,rfl,?_⟩⟩;rw [Nat.zero_add];exact row_cell h (by simp [hi])
 ·have hl:l=[]:=List.eq_nil_of_length_eq_zero (by omega)
  subst hl
  rcases h.2 with ⟨hn,_⟩ | ⟨g,cap',cur,hv',_,_,_,hm,_⟩
  ·rw [hn];exact ⟨none,0,rfl,Nat.le_refl _,by omega,fun i hi=>absurd hi (by simp)⟩
  ·rw [hv'];exact ⟨_,cap',rfl,Nat.zero_le _,by unfold maxLen at hm;exact hm,fun i hi=>absurd hi (by simp)⟩
def ShR (w:World) (s:Sh) (v:Value):Prop:=∃ vo,v=.agg #[.int .i64 s.fin,.int .i64 s.value,.int .i64 s.cls,vo,.int .i64 s.used,.int .i64 s.steps]∧IS w vo s.out
theorem ShR.below {w w':World}{s:Sh}{v:Value}(h:ShR w s v) (hb:Below w.heap.size w w'):ShR w' s v:=by
 obtain ⟨vo,e,h⟩:=h;exact ⟨vo,e,h.below hb⟩
end Lo
namespace Lo
open Num Rd D Run Mem HierW
set_option maxRecDepth 100000 in
theorem longs {w:World}{a:List Int}{va vb:Value}(ha:IS w va a) (hb:IS w vb a):Calls Tryz.prog 30 #[va,vb] w fun e w'=>e=.returned (.bool true)∧Below w.heap.size w w':=by
 obtain ⟨aa,acap,rfl,a1,a2,ael⟩:=ha;obtain ⟨ba,bcap,rfl,b1,b2,bel⟩:=hb;have hle1:((a.length:Int) != a.length)=false:=by simp
 have AEL:=Lib.hid ael;have BEL:=Lib.hid bel;clear ael bel
 go_enter Tryz.func30,Tryz.ntmps30
 go_wp2
 go_loopw [5] (fun i wr=>∃ n:Nat,i=.int .i64 n∧n≤a.length∧Below w.heap.size w wr) (fun i _=>a.length - (intOf i).toNat)
 case atStart=>exact ⟨0,rfl,Nat.zero_le _,by exact Rd.byB⟩
 case round =>
  obtain ⟨n,rfl,hn,hb⟩:=hrel
  by_cases hlt:n < a.length
  ·obtain ⟨xb,xo,rfl,cx⟩:=AEL.out n hlt;obtain ⟨yb,yo,rfl,cy⟩:=BEL.out n hlt;have cx':=kept hb (cell_lt cx) cx;have cy':=kept hb (cell_lt cy) cy;have l1:=cell_lt cx';have l2:=cell_lt cy';have hn1:(n:Int) < a.length:=by omega
   clear cx cy
   go_wp2
   go_quiet (fail)
   go_wp2
   go_roundw
   case rel=>exact ⟨n+1,by go_num,by omega,by exact Rd.byB⟩
   case measure=>simp [intOf];omega
  ·obtain rfl:n=a.length:=by omega
   go_wp2
   go_ret;exact ⟨rfl,hb⟩
set_option maxRecDepth 100000 in
theorem shownP {w:World}{a:Sh}{va vb:Value}(ha:ShR w a va) (hb:ShR w a vb):Calls Tryz.prog 9 #[va,vb] w fun e w'=>e=.returned (.bool true)∧Below w.heap.size w w':=by
 obtain ⟨oa,rfl,ia⟩:=ha;obtain ⟨ob,rfl,ib⟩:=hb;obtain ⟨aa,acap,rfl,a1,a2,ael⟩:=id ia;obtain ⟨ba,bcap,rfl,b1,b2,bel⟩:=id ib;have IA:=Lib.hid ia;have IB:=Lib.hid ib;clear ia ib ael bel;have hself:∀ x:Int,(x==x)=true:=fun x=>by simp
 go_enter Tryz.func9,Tryz.ntmps9
 go_wp2_with fail
 refine (longs (IA.out.below (by exact Rd.byB)) (IB.out.below (by exact Rd.byB))).mono ?_
 rintro e w2 ⟨rfl,hb2⟩;have hbw:Below w.heap.size w w2:=Below.trans (by exact Rd.byB) (hb2.mono Rd.byL)
 clear hb2
 go_wp2_with fail
 go_ret;exact ⟨rfl,hbw⟩
end Lo
namespace Lo
open Num Rd D Run Mem HierW
section
theorem shR_ofP {w w':World}{B:Nat}{s:Sh}{v:Value}(h:Hpw.ShV w B s v):ShR w s v:=by
 obtain ⟨vo,e,h⟩:=h;exact ⟨vo,e,IS.of_row h⟩
theorem shR_ofR {w w':World}{B:Nat}{s:Sh}{v:Value}(h:Rhq.ShV w B s v):ShR w s v:=by
 obtain ⟨vo,e,h⟩:=h;exact ⟨vo,e,IS.of_row h⟩
theorem shR_nil (w:World):ShR w Sh.nil (.agg #[.int .i64 0,.int .i64 0,.int .i64 0,.slice none 0 0,.int .i64 0,.int .i64 0]):=⟨_,rfl,none,0,rfl,Nat.le_refl _,by omega,fun i hi=>absurd hi (by simp [Sh.nil])⟩
set_option maxRecDepth 100000 in
theorem rrunRuns (vf:Value) (f:Fi) (entry:Int) (va:Value) (args:List Int) (vi:Value) (input:List Int) (fuel:Int) (w:World) (hf:VFi w w.heap.size vf f) (he:Ok entry) (ha:Sl 1 EInt w w.heap.size va args) (hi:Sl 1 EInt w w.heap.size vi input) (hfu:Ok fuel) :
  Calls Tryz.prog 6 #[vf,.int .i64 entry,va,vi,.int .i64 fuel] w fun e w'=>e=.returned (.bool true)∧Below w.heap.size w w':=by
 have HF:=Lib.hid hf;have HA:=Lib.hid ha;have HI:=Lib.hid hi;obtain ⟨vc,vms,rfl,hc,hms⟩:=hf;obtain ⟨ca,ccap,rfl,_⟩:=hc;obtain ⟨ma,mcap,rfl,_⟩:=hms;obtain ⟨aa,acap,rfl,_⟩:=ha;obtain ⟨ia,icap,rfl,_⟩:=hi;obtain ⟨n1,hn1⟩:∃ n,n=f.classes.length:=⟨_,rfl⟩;obtain ⟨n2,hn2⟩:∃ n,n=f.methods.length:=⟨_,rfl⟩;rw [← hn1,← hn2] at HF ⊢;clear hn1 hn2 he hfu
 by_cases q1:3000 < fuel∧fuel≤60000
 ·obtain ⟨q1,q2⟩:=q1
  go_enter Tryz.func6,Tryz.ntmps6
  go_wp2
  go_ret;exact ⟨rfl,by exact Rd.byB⟩
 have hq:(decide (3000 < fuel) && decide (fuel≤60000))=false:=by simp;omega
 obtain ⟨p,hp⟩:∃ p,Hid (Hpr.rrunPlay f entry args input fuel=p):=⟨_,Lib.hid rfl⟩;obtain ⟨s,c⟩:=p;obtain ⟨pm,hpm⟩:∃ p,Hid (Rform.rmay f=p):=⟨_,Lib.hid rfl⟩
 have HK:Hid (if pm=true then Run.play RM f entry args input fuel=(s,c) else s=Sh.nil∧c=2):=by
  have e:=hp.out;unfold Hpr.rrunPlay at e;rw [hpm.out] at e
  show (if pm=true then _ else _)
  cases pm
  ·rw [if_neg (by simp)] at e ⊢
   simp only [Prod.mk.injEq] at e;exact ⟨e.1.symm,e.2.symm⟩
  ·rw [if_pos rfl] at e ⊢;exact e
 go_enter Tryz.func6,Tryz.ntmps6
 by_cases q3:3000 < fuel
 ·have q4:¬ fuel≤60000:=by omega
  go_wp2_with fail
  refine (Hpr.rrun (HF.out.mono (by exact Rd.byB) Rd.byL) (HI.out.mono mInt (by exact Rd.byB) Rd.byL) (HA.out.mono mInt (by exact Rd.byB) Rd.byL)).mono ?_
  rw [hp.out];rintro e w1 ⟨v1,rfl,hsh,hb1⟩;simp only at hsh;have b0:w1.cell? ⟨w.heap.size,0,none⟩=some (.slice ca n1 ccap):=kept hb1 Rd.byL (by go_simp)
  have b1:w1.cell? ⟨w.heap.size,1,none⟩=some (.slice ma n2 mcap):=kept hb1 Rd.byL (by go_simp)
  have hbw:Below w.heap.size w w1:=Below.trans (by exact Rd.byB) (hb1.mono Rd.byL)
  have R1:=shR_ofP (w':=w1) hsh;obtain ⟨vo,rfl,io⟩:=id R1;obtain ⟨oa,ocap,rfl,_⟩:=id io;have hsz:=hbw.size;have lb:=cell_lt b0;have lb2:w.heap.size < w1.heap.size+1:=by omega
  replace R1:=Lib.hid R1;clear hb1 hsh io
  go_wp2_with fail
  refine (RefG.rmay f _ _ (HF.out.mono (hbw.trans (by exact Rd.byB)) (by simp;omega))).mono ?_
  rw [hpm.out];rintro e w2 ⟨rfl,hb2⟩;have hb12:Below w1.heap.size w1 w2:=Below.trans (by exact Rd.byB) (hb2.mono Rd.byL)
  have y0:w2.cell? ⟨w1.heap.size,0,none⟩=some (.int .i64 s.fin):=kept hb2 Rd.byL (by go_simp)
  have y1:w2.cell? ⟨w1.heap.size,1,none⟩=some (.int .i64 s.value):=kept hb2 Rd.byL (by go_simp)
  have y2:w2.cell? ⟨w1.heap.size,2,none⟩=some (.int .i64 s.cls):=kept hb2 Rd.byL (by go_simp)
  have y3:w2.cell? ⟨w1.heap.size,3,none⟩=some (.slice oa s.out.length ocap):=kept hb2 Rd.byL (by go_simp)
  have y4:w2.cell? ⟨w1.heap.size,4,none⟩=some (.int .i64 s.used):=kept hb2 Rd.byL (by go_simp)
  have y5:w2.cell? ⟨w1.heap.size,5,none⟩=some (.int .i64 s.steps):=kept hb2 Rd.byL (by go_simp)
  have ly:=cell_lt y0;have c0:=kept hb12 lb b0;have c1:=kept hb12 lb b1;have hbw2:=hbw.trans (hb12.mono hsz);have hsz2:=hbw2.size;have HB12:=Lib.hid hb12;have hself:(c==c)=true:=by simp
  clear hb2 hb12 b0 b1
  cases pm
  ·obtain ⟨rfl,rfl⟩:s=Sh.nil∧c=2:=by have e:=HK.out;rw [if_neg (by simp)] at e;exact e
   go_wp2_with fail
   refine (shownP (R1.out.below (HB12.out.trans (by exact Rd.byB))) (shR_nil _)).mono ?_
   rintro e w3 ⟨rfl,hb3⟩;have hbw3:=hbw2.trans (hb3.mono hsz2)
   go_wp2
   go_ret;exact ⟨rfl,hbw3⟩
  ·have HP:Hid (Run.play RM f entry args input fuel=(s,c)):=by have e:=HK.out;rw [if_pos rfl] at e;exact e
   go_wp2_with fail
   refine (Rhq.play hpm.out (HF.out.mono (hbw2.trans (by exact Rd.byB)) (by first | exact hsz2 | (simp;omega))) (HI.out.mono mInt (hbw2.trans (by exact Rd.byB)) (by first | exact hsz2 | (simp;omega))) (HA.out.mono mInt (hbw2.trans (by exact Rd.byB)) (by first | exact hsz2 | (simp;omega)))).mono ?_
   rw [HP.out];rintro e w3 ⟨v3,rfl,hsh3,hb3⟩;simp only at hsh3;have R3:=shR_ofR (w':=w3) hsh3;obtain ⟨vo3,rfl,io3⟩:=id R3;obtain ⟨oa3,ocap3,rfl,_⟩:=id io3;have HB23:=Lib.hid (show Below w2.heap.size w2 w3 from Below.trans (by exact Rd.byB) (hb3.mono (by first | exact Nat.le_refl _ | (simp;omega))))
   have z0:=kept HB23.out ly y0;have z1:=kept HB23.out ly y1;have z2:=kept HB23.out ly y2;have z3:=kept HB23.out ly y3;have z4:=kept HB23.out ly y4;have z5:=kept HB23.out ly y5;have lz:=cell_lt z0;have lz2:w1.heap.size < w3.heap.size+1:=by omega
   have hbw3:=hbw2.trans (HB23.out.mono hsz2);have hsz3:=hbw3.size;have HB13:=Lib.hid (HB12.out.trans (HB23.out.mono HB12.out.size));replace R3:=Lib.hid R3;clear hb3 hsh3 io3 y0 y1 y2 y3 y4 y5
   go_wp2_with fail
   refine (shownP (R1.out.below (HB13.out.trans (by exact Rd.byB))) (R3.out.below (by exact Rd.byB))).mono ?_
   rintro e w4 ⟨rfl,hb4⟩;have hbw4:Below w.heap.size w w4:=hbw3.trans (Below.trans (by exact Rd.byB) (hb4.mono (by simp;omega)))
   go_wp2
   go_ret;exact ⟨rfl,hbw4⟩
 ·skip
  go_wp2_with fail
  refine (Hpr.rrun (HF.out.mono (by exact Rd.byB) Rd.byL) (HI.out.mono mInt (by exact Rd.byB) Rd.byL) (HA.out.mono mInt (by exact Rd.byB) Rd.byL)).mono ?_
  rw [hp.out];rintro e w1 ⟨v1,rfl,hsh,hb1⟩;simp only at hsh;have b0:w1.cell? ⟨w.heap.size,0,none⟩=some (.slice ca n1 ccap):=kept hb1 Rd.byL (by go_simp)
  have b1:w1.cell? ⟨w.heap.size,1,none⟩=some (.slice ma n2 mcap):=kept hb1 Rd.byL (by go_simp)
  have hbw:Below w.heap.size w w1:=Below.trans (by exact Rd.byB) (hb1.mono Rd.byL)
  have R1:=shR_ofP (w':=w1) hsh;obtain ⟨vo,rfl,io⟩:=id R1;obtain ⟨oa,ocap,rfl,_⟩:=id io;have hsz:=hbw.size;have lb:=cell_lt b0;have lb2:w.heap.size < w1.heap.size+1:=by omega
  replace R1:=Lib.hid R1;clear hb1 hsh io
  go_wp2_with fail
  refine (RefG.rmay f _ _ (HF.out.mono (hbw.trans (by exact Rd.byB)) (by simp;omega))).mono ?_
  rw [hpm.out];rintro e w2 ⟨rfl,hb2⟩;have hb12:Below w1.heap.size w1 w2:=Below.trans (by exact Rd.byB) (hb2.mono Rd.byL)
  have y0:w2.cell? ⟨w1.heap.size,0,none⟩=some (.int .i64 s.fin):=kept hb2 Rd.byL (by go_simp)
  have y1:w2.cell? ⟨w1.heap.size,1,none⟩=some (.int .i64 s.value):=kept hb2 Rd.byL (by go_simp)
  have y2:w2.cell? ⟨w1.heap.size,2,none⟩=some (.int .i64 s.cls):=kept hb2 Rd.byL (by go_simp)
  have y3:w2.cell? ⟨w1.heap.size,3,none⟩=some (.slice oa s.out.length ocap):=kept hb2 Rd.byL (by go_simp)
  have y4:w2.cell? ⟨w1.heap.size,4,none⟩=some (.int .i64 s.used):=kept hb2 Rd.byL (by go_simp)
  have y5:w2.cell? ⟨w1.heap.size,5,none⟩=some (.int .i64 s.steps):=kept hb2 Rd.byL (by go_simp)
  have ly:=cell_lt y0;have c0:=kept hb12 lb b0;have c1:=kept hb12 lb b1;have hbw2:=hbw.trans (hb12.mono hsz);have hsz2:=hbw2.size;have HB12:=Lib.hid hb12;have hself:(c==c)=true:=by simp
  clear hb2 hb12 b0 b1
  cases pm
  ·obtain ⟨rfl,rfl⟩:s=Sh.nil∧c=2:=by have e:=HK.out;rw [if_neg (by simp)] at e;exact e
   go_wp2_with fail
   refine (shownP (R1.out.below (HB12.out.trans (by exact Rd.byB))) (shR_nil _)).mono ?_
   rintro e w3 ⟨rfl,hb3⟩;have hbw3:=hbw2.trans (hb3.mono hsz2)
   go_wp2
   go_ret;exact ⟨rfl,hbw3⟩
  ·have HP:Hid (Run.play RM f entry args input fuel=(s,c)):=by have e:=HK.out;rw [if_pos rfl] at e;exact e
   go_wp2_with fail
   refine (Rhq.play hpm.out (HF.out.mono (hbw2.trans (by exact Rd.byB)) (by first | exact hsz2 | (simp;omega))) (HI.out.mono mInt (hbw2.trans (by exact Rd.byB)) (by first | exact hsz2 | (simp;omega))) (HA.out.mono mInt (hbw2.trans (by exact Rd.byB)) (by first | exact hsz2 | (simp;omega)))).mono ?_
   rw [HP.out];rintro e w3 ⟨v3,rfl,hsh3,hb3⟩;simp only at hsh3;have R3:=shR_ofR (w':=w3) hsh3;obtain ⟨vo3,rfl,io3⟩:=id R3;obtain ⟨oa3,ocap3,rfl,_⟩:=id io3;have HB23:=Lib.hid (show Below w2.heap.size w2 w3 from Below.trans (by exact Rd.byB) (hb3.mono (by first | exact Nat.le_refl _ | (simp;omega))))
   have z0:=kept HB23.out ly y0;have z1:=kept HB23.out ly y1;have z2:=kept HB23.out ly y2;have z3:=kept HB23.out ly y3;have z4:=kept HB23.out ly y4;have z5:=kept HB23.out ly y5;have lz:=cell_lt z0;have lz2:w1.heap.size < w3.heap.size+1:=by omega
   have hbw3:=hbw2.trans (HB23.out.mono hsz2);have hsz3:=hbw3.size;have HB13:=Lib.hid (HB12.out.trans (HB23.out.mono HB12.out.size));replace R3:=Lib.hid R3;clear hb3 hsh3 io3 y0 y1 y2 y3 y4 y5
   go_wp2_with fail
   refine (shownP (R1.out.below (HB13.out.trans (by exact Rd.byB))) (R3.out.below (by exact Rd.byB))).mono ?_
   rintro e w4 ⟨rfl,hb4⟩;have hbw4:Below w.heap.size w w4:=hbw3.trans (Below.trans (by exact Rd.byB) (hb4.mono (by simp;omega)))
   go_wp2
   go_ret;exact ⟨rfl,hbw4⟩
end
end Lo
end Go.Proofs.YtncmhenfgbcihabGreat
