/- Parts of the proof: LookY, Km, CkrT, CkrU. -/
import Derived.Test.YtncmhenfgbcihabG21
import Derived.Test.YtncmhenfgbcihabG05
import Derived.Test.YtncmhenfgbcihabG20
import Derived.Test.YtncmhenfgbcihabG16
import Derived.Test.YtncmhenfgbcihabG15
set_option linter.unusedSimpArgs false
set_option linter.unusedVariables false
set_option maxHeartbeats 8000000
namespace Go.Proofs.Ytncmhenfgbcihab
open Go.RowKit
namespace Look
open Num Rd D HierW FormW
def insTo (f:Fi) (m:Me) (k:Nat):Bool:=(m.code.take k).all (Rform.ins f m)
theorem insTo_succ {f:Fi}{m:Me}{k:Nat}(h:k < m.code.length):insTo f m (k+1)=(insTo f m k && Rform.ins f m m.code[k]):=by
 unfold insTo;rw [List.take_succ_eq_append_getElem h,List.all_append];simp
theorem insTo_all (f:Fi) (m:Me):insTo f m m.code.length=m.code.all (Rform.ins f m):=by unfold insTo;rw [List.take_of_length_le (Nat.le_refl _)]
def pre (f:Fi) (m:Me):Bool:=Form.head f.classes.length m 2400 && decide (m.stack=0) && decide (m.locals=0) && Form.rng m.regs (max 1 (Form.slots m.params:Nat)) 91
theorem rme_eq (f:Fi) (m:Me):Rform.rme f m=(pre f m && insTo f m m.code.length):=by rw [insTo_all];rfl
set_option maxRecDepth 100000 in
theorem rmay (f:Fi) (vf:Value) (w:World) (hf:VFi w w.heap.size vf f) :
  Calls Try.prog 57 #[vf] w fun e w'=>e=.returned (.bool (Rform.rmay f))∧Below w.heap.size w w':=by
 have hf0:=hf;obtain ⟨vc,vme,rfl,hcs,hms⟩:=hf;have hcs2:=Lib.hid hcs;obtain ⟨ca,ccap,rfl,clc,ccc,_⟩:=hcs;have hms2:=Lib.hid hms;obtain ⟨ma,mcap,rfl,mlc,mcc,mel⟩:=hms;obtain ⟨ph,hph⟩:∃ p,Hid (Hier.may f.classes=p):=⟨_,rfl⟩;obtain ⟨pn,hpn⟩:∃ p,Hid (Form.rng f.methods.length 1 9=p):=⟨_,rfl⟩
 have hall0:Hid (Rform.rmay f=(ph && pn && f.methods.all (Rform.rme f))):=by
  show _=_
  rw [← hph.out,← hpn.out];rfl
 cases ph <;> cases pn
 all_goals go_enter Try.func57,Try.ntmps57
 all_goals go_wp2_with (first
  | (go_at_call 88;refine (mayV _ _ _ _ hph.out (Cs.next hcs2.out Rd.byB)).mono ?_;rintro e w1 ⟨rfl,hb1⟩;have hw1:Below w.heap.size w w1:=Below.trans Rd.byB (hb1.mono (by simp));have y0:w1.cell? ⟨w.heap.size,0,none⟩=some (.slice ca f.classes.length ccap):=kept hb1 (by simp) (by go_simp);have y1:w1.cell? ⟨w.heap.size,1,none⟩=some (.slice ma f.methods.length mcap):=kept hb1 (by simp) (by go_simp))
  | (go_at_call 110;refine (linV _ _ _ _ _ hpn.out).mono ?_;rintro e w2 ⟨rfl,rfl⟩))
 all_goals first
  | (
       go_ret
       exact ⟨ret_bool (by rw [hall0.out];simp),hw1⟩)
  | skip
 have hws:=hw1.size;have nn:w.heap.size < w1.heap.size:=by have:=lt_cell y0;omega
 go_loopw [22] (fun i wr=>∃ k:Nat,k≤f.methods.length∧i=.int .i64 k∧Below w1.heap.size w1 wr∧Hid (∀ j (h:j < f.methods.length),j < k→Rform.rme f f.methods[j]=true)) (fun i _=>f.methods.length - (intOf i).toNat)
 case atStart=>exact ⟨0,by omega,rfl,Rd.byB,fun j _ h=>absurd h (by omega)⟩
 case round =>
  obtain ⟨k,hk,rfl,hq,hall⟩:=hrel;have hqs:=hq.size;have hwr:Below w.heap.size w wr:=hw1.trans (hq.mono hws);have hwrs:=hwr.size;have n3:w.heap.size < wr.heap.size:=by omega
  have c1:=kept hq (by omega) y0
  have c2:=kept hq (by omega) y1
  clear y0 y1
  by_cases hlt:k < f.methods.length
  ·obtain ⟨b,o,rfl,hb,he⟩:=mel k hlt;have hyes:=Lib.hid (Form.all_step (p:=Rform.rme f) hall.out hlt);have hno:=Lib.hid (Form.all_not (p:=Rform.rme f) hlt);obtain ⟨t,ht⟩:=at_of hlt;rw [ht.out] at he hyes hno;obtain ⟨vp,vd,vh,g0,g1,g2,g3,g4,g5,g6,g7,oks,s1,s2,s3⟩:=he;have hvm:VMe w w.heap.size (.agg #[vp,.int .i64 t.ret.kind,.int .i64 t.ret.cls,.int .i64 t.stack,.int .i64 t.locals,.int .i64 t.regs,vd,vh]) t:=⟨vp,vd,vh,rfl,oks,s1,s2,s3⟩;obtain ⟨pa,pcap,rfl,plc,pcc,pel⟩:=s1;have hts0:Ts w (.slice pa t.params.length pcap) t.params:=⟨pa,pcap,rfl,plc,pcc,pel⟩;clear pel;obtain ⟨da,dcap,rfl,dlc,dcc,del⟩:=s2;obtain ⟨ha,hcap,rfl,_,_,_⟩:=s3;have k0:=kept hwr hb g0;have k1:=kept hwr hb g1;have k2:=kept hwr hb g2;have k3:=kept hwr hb g3;have k4:=kept hwr hb g4;have k5:=kept hwr hb g5;have k6:=kept hwr hb g6;have k7:=kept hwr hb g7;have hq2:=Lib.hid hq;have hwr2:=Lib.hid hwr;have ok5:=oks.2.2.2.2;have ok4:=oks.2.2.2.1;have ok3:=oks.2.2.1;have okr:=Lib.hid oks.1;unfold Ok at ok5 ok4 ok3;have hltI:(k:Int) < f.methods.length:=by omega
   clear g0 g1 g2 g3 g4 g5 g6 g7 oks
   go_wp2_with fail
   refine name_world (fun W=>Below w.heap.size w W∧Below wr.heap.size wr W∧wr.heap.size+1≤W.heap.size∧B2 W w.heap.size (.slice ca f.classes.length ccap) (.slice (some ⟨b,o,none⟩) f.methods.length mcap)∧B8 W wr.heap.size (.slice pa t.params.length pcap) (.int .i64 t.ret.kind) (.int .i64 t.ret.cls) (.int .i64 t.stack) (.int .i64 t.locals) (.int .i64 t.regs) (.slice da t.code.length dcap) (.slice ha t.handlers.length hcap)) ?_ ?_
   ·refine ⟨Rd.byB,Rd.byB,?_,⟨?_,?_⟩,⟨?_,?_,?_,?_,?_,?_,?_,?_⟩⟩
    all_goals go_simp
   rintro W ⟨hbw,hbr,hsz,⟨f1,f2⟩,⟨m0,m1,m2,m3,m4,m5,m6,m7⟩⟩;have hbs:=hbw.size;have hfW:=hf0.mono hbw hbs;have hmW:=hvm.mono hbw hbs;have htW:=hts0.next hbw;clear c1 c2 k0 k1 k2 k3 k4 k5 k6 k7 mel;obtain ⟨ph,hph⟩:∃ p,Hid (Form.head f.classes.length t 2400=p):=⟨_,rfl⟩;obtain ⟨Z,hS⟩:∃ S,Hid (Form.slots t.params=S):=⟨_,rfl⟩;obtain ⟨MX,hMX⟩:∃ x,Hid ((if (1:Int) < (Z:Int) then (Z:Int) else 1)=x):=⟨_,rfl⟩;obtain ⟨pl,hpl⟩:∃ p,Hid (Form.rng t.regs MX 91=p):=⟨_,rfl⟩;have hMX1:1≤MX:=by rw [← hMX.out];split <;> omega
   have hpre:Hid (pre f t=(ph && decide (t.stack=0) && decide (t.locals=0) && pl)):=by
    show _=_
    have hmx:(if (1:Int) < (Z:Int) then (Z:Int) else 1)=max 1 (Z:Int):=by
     rw [Int.max_def];split <;> split <;> omega
    rw [← hph.out,← hpl.out,← hMX.out,hmx,← hS.out];rfl
   cases ph
   ·
    refine Drawn.hd (fun w'=>(w'.cell? ⟨w.heap.size,0,none⟩=some (.slice ca f.classes.length ccap)∧w'.cell? ⟨w.heap.size,1,none⟩=some (.slice (some ⟨b,o,none⟩) f.methods.length mcap))∧w'.cell? ⟨wr.heap.size,0,none⟩=some (.slice pa t.params.length pcap)∧w'.cell? ⟨wr.heap.size,1,none⟩=some (.int .i64 t.ret.kind)∧w'.cell? ⟨wr.heap.size,2,none⟩=some (.int .i64 t.ret.cls)∧w'.cell? ⟨wr.heap.size,3,none⟩=some (.int .i64 t.stack)∧w'.cell? ⟨wr.heap.size,4,none⟩=some (.int .i64 t.locals)∧w'.cell? ⟨wr.heap.size,5,none⟩=some (.int .i64 t.regs)∧w'.cell? ⟨wr.heap.size,6,none⟩=some (.slice da t.code.length dcap)∧w'.cell? ⟨wr.heap.size,7,none⟩=some (.slice ha t.handlers.length hcap)) (hS:=by (try dsimp only);first | exact ⟨⟨f1,f2⟩,m0,m1,m2,m3,m4,m5,m6,m7⟩ | go_keep) (h:=fun hHeld=>?_)
    refine dT 0 26 ?_;refine dT 1 27 ?_;refine dT 2 28 ?_;refine dT 3 29 ?_;refine Drawn.cl 4 (fun K hK=>?_);go_simp
    go_at_call 111
    refine (headV f t 2400 _ _ _ _ hph.out (hfW.mono Rd.byB (by simp)) (hmW.mono Rd.byB (by simp)) (by omega)).mono ?_
    rintro e w2 ⟨rfl,hb2⟩;have hbW:Below W.heap.size W w2:=Below.trans Rd.byB (hb2.mono (by simp))
    have k2:=B2.next ⟨f1,f2⟩ hbW (by omega)
    have k8:=B8.next ⟨m0,m1,m2,m3,m4,m5,m6,m7⟩ hbW (by omega)
    go_wp2_with fail
    refine Drawn.bk hK (hS:=by (try dsimp only);exact ⟨k2,k8⟩) (h:=fun hHeld=>?_)
    clear hK K;refine dT 5 31 ?_;refine dS 6 32 ?_;refine dS 7 33 ?_;refine dS 8 34 ?_;refine dT 9 35 ?_;refine dT 10 36 ?_;refine dS 11 37 ?_;refine dS 12 38 ?_;refine dS 13 39 ?_;refine dT 14 40 ?_;refine dT 15 41 ?_;refine dS 16 42 ?_;refine dS 17 43 ?_;refine dS 18 44 ?_;refine dS 19 45 ?_;refine dS 20 46 ?_;refine dS 21 47 ?_;refine dS 22 48 ?_;refine dT 23 49 ?_;refine dT 24 50 ?_;refine Drawn.cl 25 (fun K hK=>?_);go_simp;refine Drawn.bk hK (hS:=by (try dsimp only);obtain ⟨kf,km⟩:(_∧_):=⟨k2,k8⟩;have:=lt_cell kf.1;have:=lt_cell km.1;refine ⟨⟨?_,?_⟩,?_,?_,?_,?_,?_,?_,?_,?_⟩ <;> (obtain ⟨kf0,kf1⟩:=kf;obtain ⟨km0,km1,km2,km3,km4,km5,km6,km7⟩:=km;go_simp)) (h:=fun hHeld=>?_)
    clear hK K;refine dT 26 5 ?_;refine dN ?_
    have hpt:Hid (pre f t=false):=by
     show _=_
     rw [hpre.out];rfl
    have hxs:=hbW.size;refine name_world (fun W2=>Hid (Lk W2 w2.heap.size (.slice ca f.classes.length ccap) (.slice (some ⟨b,o,none⟩) f.methods.length mcap) (.slice pa t.params.length pcap) (.slice da t.code.length dcap) (.slice ha t.handlers.length hcap) t false)∧Below w2.heap.size w2 W2∧W2.cell? ⟨wr.heap.size,6,none⟩=some (.slice da t.code.length dcap)) ?_ ?_
    ·refine ⟨?_,Rd.byB,?_⟩
     ·show Lk _ _ _ _ _ _ _ _ _
      refine ⟨⟨?_,?_⟩,⟨?_,?_,?_,?_,?_,?_,?_,?_⟩,?_,?_⟩
      all_goals go_simp
     ·obtain ⟨kf,km⟩:(_∧_):=⟨k2,k8⟩;have hz:=lt_cell km.1;have km6:=km.2.2.2.2.2.2.1;clear kf km;go_simp
    rintro W2 ⟨hlk0,hbl0,m6'⟩;have hbl1:Below wr.heap.size wr W2:=(hbr.trans (hbW.mono hbr.size)).trans (hbl0.mono (by have:=hbr.size;omega))
    have hbl2:Below w.heap.size w W2:=hwr2.out.trans (hbl1.mono hwrs);have hblw:w.heap.size≤w2.heap.size:=by have:=hbr.size;omega
    have hl6:=lt_cell m6';have hlbs:=hlk0.out.lt;have hlbr:wr.heap.size < w2.heap.size:=by have:=hbr.size;omega
    clear f1 f2 m0 m1 m2 m3 m4 m5 m6 m7 htW hfW hmW hts0 k2 k8
    go_wp2_with fail
    obtain ⟨wo,rfl⟩:∃ wo:World,wo=wr:=⟨_,rfl⟩
    go_loopw [55] (fun i wr=>∃ j:Nat,j≤t.code.length∧i=.int .i64 j∧Hid (Lk wr w2.heap.size (.slice ca f.classes.length ccap) (.slice (some ⟨b,o,none⟩) f.methods.length mcap) (.slice pa t.params.length pcap) (.slice da t.code.length dcap) (.slice ha t.handlers.length hcap) t false)∧Keep W2.heap.size w2.heap.size W2 wr) (fun i _=>t.code.length - (intOf i).toNat)
    case atStart=>exact ⟨0,by omega,rfl,hlk0,Keep.refl _ _ _⟩
    case round =>
     obtain ⟨j,hj,rfl,hlk,hkp⟩:=hrel;have hks:=hkp.size;have z10:=hlk.out.2.2.1;have hlz:=hlk.out.lt
     by_cases hlt2:j < t.code.length
     ·obtain ⟨b2,o2,rfl,hb2',he2⟩:=del j hlt2;obtain ⟨x,hx⟩:=at_of hlt2;rw [hx.out] at he2;obtain ⟨g1,g2,g3,g4,g5,oks,va,g6,gargs⟩:=he2;obtain ⟨aa,acap,rfl,alc,acc,_⟩:=gargs;have h1:=hkp.cell (by omega) (by omega) (kept hbl2 hb2' g1)
      have h2:=hkp.cell (by omega) (by omega) (kept hbl2 hb2' g2)
      have h3:=hkp.cell (by omega) (by omega) (kept hbl2 hb2' g3)
      have h4:=hkp.cell (by omega) (by omega) (kept hbl2 hb2' g4)
      have h5:=hkp.cell (by omega) (by omega) (kept hbl2 hb2' g5)
      have h6:=hkp.cell (by omega) (by omega) (kept hbl2 hb2' g6)
      have hI2:(0:Int)≤(j:Int)∧(j:Int) < t.code.length:=⟨by omega,by omega⟩
      obtain ⟨hI3,hI4⟩:=hI2;clear del g1 g2 g3 g4 g5 g6
      go_wp2_with fail
      go_roundw
      case rel=>exact ⟨j+1,by omega,by go_num,Lib.hid (hlk.out.next (Below.alloc (Below.refl _ _) (Nat.le_refl _) _) hlk.out.lt),hkp.trans (Keep.alloc (Keep.refl _ _ _) (by omega) _)⟩
      case measure=>simp [intOf];omega
     ·have hge2:¬ (j:Int) < t.code.length:=by omega
      have hkb:Below w.heap.size w wr:=hbl2.trans (hkp.below (by omega) (by omega))
      clear del
      go_wp2_with fail
      go_ret;exact ⟨ret_bool (by rw [hall0.out];simp [hno.out (by rw [rme_eq,hpt.out];rfl)]),hkb⟩
   ·by_cases hs0:t.stack=0
    ·have hst0:(t.stack==0)=true:=by simpa using hs0
     have HS0:=Lib.hid hs0;clear hs0
     by_cases hl0:t.locals=0
     ·have hlo0:(t.locals==0)=true:=by simpa using hl0
      have HL0:=Lib.hid hl0;clear hl0
      have hp4:t.params.length≤4:=by
       have h:=hph.out;simp only [Form.head,Bool.and_eq_true,decide_eq_true_eq] at h;exact h.1.1.1.2
      refine Drawn.hd (fun w'=>(w'.cell? ⟨w.heap.size,0,none⟩=some (.slice ca f.classes.length ccap)∧w'.cell? ⟨w.heap.size,1,none⟩=some (.slice (some ⟨b,o,none⟩) f.methods.length mcap))∧w'.cell? ⟨wr.heap.size,0,none⟩=some (.slice pa t.params.length pcap)∧w'.cell? ⟨wr.heap.size,1,none⟩=some (.int .i64 t.ret.kind)∧w'.cell? ⟨wr.heap.size,2,none⟩=some (.int .i64 t.ret.cls)∧w'.cell? ⟨wr.heap.size,3,none⟩=some (.int .i64 t.stack)∧w'.cell? ⟨wr.heap.size,4,none⟩=some (.int .i64 t.locals)∧w'.cell? ⟨wr.heap.size,5,none⟩=some (.int .i64 t.regs)∧w'.cell? ⟨wr.heap.size,6,none⟩=some (.slice da t.code.length dcap)∧w'.cell? ⟨wr.heap.size,7,none⟩=some (.slice ha t.handlers.length hcap)) (hS:=by (try dsimp only);first | exact ⟨⟨f1,f2⟩,m0,m1,m2,m3,m4,m5,m6,m7⟩ | go_keep) (h:=fun hHeld=>?_)
      refine dT 0 26 ?_;refine dT 1 27 ?_;refine dT 2 28 ?_;refine dT 3 29 ?_;refine Drawn.cl 4 (fun K hK=>?_);go_simp
      go_at_call 111
      refine (headV f t 2400 _ _ _ _ hph.out (hfW.mono Rd.byB (by simp)) (hmW.mono Rd.byB (by simp)) (by omega)).mono ?_
      rintro e w2 ⟨rfl,hb2⟩;have hbW:Below W.heap.size W w2:=Below.trans Rd.byB (hb2.mono (by simp))
      have k2:=B2.next ⟨f1,f2⟩ hbW (by omega)
      have k8:=B8.next ⟨m0,m1,m2,m3,m4,m5,m6,m7⟩ hbW (by omega)
      go_wp2_with fail
      refine Drawn.bk hK (hS:=by (try dsimp only);exact ⟨k2,k8⟩) (h:=fun hHeld=>?_)
      clear hK K;refine dT 5 31 ?_;refine dT 6 32 ?_;refine dT 7 33 ?_;refine dT 8 34 ?_;refine dT 9 35 ?_;refine dT 10 36 ?_;refine dT 11 37 ?_;refine dT 12 38 ?_;refine dT 13 39 ?_;refine dT 14 40 ?_;refine dT 15 41 ?_;refine dT 16 42 ?_;refine dT 17 43 ?_;refine dT 18 44 ?_;refine dT 19 45 ?_;refine Drawn.cl 20 (fun K hK=>?_);go_simp
      go_at_call 92
      refine (slotsV _ t.params Z _ (htW.next hbW) (by omega) hS.out).mono ?_
      rintro e w4 ⟨rfl,hb4⟩;have hbX:Below W.heap.size W w4:=hbW.trans (hb4.mono hbW.size);have x2:=B2.next ⟨f1,f2⟩ hbX (by omega)
      have x8:=B8.next ⟨m0,m1,m2,m3,m4,m5,m6,m7⟩ hbX (by omega)
      go_wp2_with fail
      refine Drawn.bk hK (hS:=by (try dsimp only);exact ⟨x2,x8⟩) (h:=fun hHeld=>?_)
      clear hK K;have hif:=hMX.out;refine dT 21 47 ?_;clear hif;refine Drawn.cl 22 (fun K hK=>?_);go_simp
      go_at_call 110
      refine (linV _ _ _ _ _ hpl.out).mono ?_;rintro e w5 ⟨rfl,rfl⟩
      go_wp2_with fail
      refine Drawn.bk hK (hS:=by (try dsimp only);exact ⟨x2,x8⟩) (h:=fun hHeld=>?_)
      clear hK K;refine dT 23 49 ?_;have hbX3:=hbX.size
      cases pl
      ·
       refine dT 24 50 ?_;refine Drawn.cl 25 (fun K hK=>?_);go_simp;refine Drawn.bk hK (hS:=by (try dsimp only);obtain ⟨kf,km⟩:(_∧_):=⟨x2,x8⟩;have:=lt_cell kf.1;have:=lt_cell km.1;refine ⟨⟨?_,?_⟩,?_,?_,?_,?_,?_,?_,?_,?_⟩ <;> (obtain ⟨kf0,kf1⟩:=kf;obtain ⟨km0,km1,km2,km3,km4,km5,km6,km7⟩:=km;go_simp)) (h:=fun hHeld=>?_)
       clear hK K;refine dT 26 5 ?_;refine dN ?_
       have hpt:Hid (pre f t=false):=by
        show _=_
        rw [hpre.out];simp
       have hxs:=hbX.size;refine name_world (fun W2=>Hid (Lk W2 w4.heap.size (.slice ca f.classes.length ccap) (.slice (some ⟨b,o,none⟩) f.methods.length mcap) (.slice pa t.params.length pcap) (.slice da t.code.length dcap) (.slice ha t.handlers.length hcap) t false)∧Below w4.heap.size w4 W2∧W2.cell? ⟨wr.heap.size,6,none⟩=some (.slice da t.code.length dcap)) ?_ ?_
       ·refine ⟨?_,Rd.byB,?_⟩
        ·show Lk _ _ _ _ _ _ _ _ _
         refine ⟨⟨?_,?_⟩,⟨?_,?_,?_,?_,?_,?_,?_,?_⟩,?_,?_⟩
         all_goals go_simp
        ·obtain ⟨kf,km⟩:(_∧_):=⟨x2,x8⟩;have hz:=lt_cell km.1;have km6:=km.2.2.2.2.2.2.1;clear kf km;go_simp
       rintro W2 ⟨hlk0,hbl0,m6'⟩;have hbl1:Below wr.heap.size wr W2:=(hbr.trans (hbX.mono hbr.size)).trans (hbl0.mono (by have:=hbr.size;omega))
       have hbl2:Below w.heap.size w W2:=hwr2.out.trans (hbl1.mono hwrs);have hblw:w.heap.size≤w4.heap.size:=by have:=hbr.size;omega
       have hl6:=lt_cell m6';have hlbs:=hlk0.out.lt;have hlbr:wr.heap.size < w4.heap.size:=by have:=hbr.size;omega
       clear f1 f2 m0 m1 m2 m3 m4 m5 m6 m7 htW hfW hmW hts0 k2 k8
       go_wp2_with fail
       obtain ⟨wo,rfl⟩:∃ wo:World,wo=wr:=⟨_,rfl⟩
       go_loopw [55] (fun i wr=>∃ j:Nat,j≤t.code.length∧i=.int .i64 j∧Hid (Lk wr w4.heap.size (.slice ca f.classes.length ccap) (.slice (some ⟨b,o,none⟩) f.methods.length mcap) (.slice pa t.params.length pcap) (.slice da t.code.length dcap) (.slice ha t.handlers.length hcap) t false)∧Keep W2.heap.size w4.heap.size W2 wr) (fun i _=>t.code.length - (intOf i).toNat)
       case atStart=>exact ⟨0,by omega,rfl,hlk0,Keep.refl _ _ _⟩
       case round =>
        obtain ⟨j,hj,rfl,hlk,hkp⟩:=hrel;have hks:=hkp.size;have z10:=hlk.out.2.2.1;have hlz:=hlk.out.lt
        by_cases hlt2:j < t.code.length
        ·obtain ⟨b2,o2,rfl,hb2',he2⟩:=del j hlt2;obtain ⟨x,hx⟩:=at_of hlt2;rw [hx.out] at he2;obtain ⟨g1,g2,g3,g4,g5,oks,va,g6,gargs⟩:=he2;obtain ⟨aa,acap,rfl,alc,acc,_⟩:=gargs;have h1:=hkp.cell (by omega) (by omega) (kept hbl2 hb2' g1)
         have h2:=hkp.cell (by omega) (by omega) (kept hbl2 hb2' g2)
         have h3:=hkp.cell (by omega) (by omega) (kept hbl2 hb2' g3)
         have h4:=hkp.cell (by omega) (by omega) (kept hbl2 hb2' g4)
         have h5:=hkp.cell (by omega) (by omega) (kept hbl2 hb2' g5)
         have h6:=hkp.cell (by omega) (by omega) (kept hbl2 hb2' g6)
         have hI2:(0:Int)≤(j:Int)∧(j:Int) < t.code.length:=⟨by omega,by omega⟩
         obtain ⟨hI3,hI4⟩:=hI2;clear del g1 g2 g3 g4 g5 g6
         go_wp2_with fail
         go_roundw
         case rel=>exact ⟨j+1,by omega,by go_num,Lib.hid (hlk.out.next (Below.alloc (Below.refl _ _) (Nat.le_refl _) _) hlk.out.lt),hkp.trans (Keep.alloc (Keep.refl _ _ _) (by omega) _)⟩
         case measure=>simp [intOf];omega
        ·have hge2:¬ (j:Int) < t.code.length:=by omega
         have hkb:Below w.heap.size w wr:=hbl2.trans (hkp.below (by omega) (by omega))
         clear del
         go_wp2_with fail
         go_ret;exact ⟨ret_bool (by rw [hall0.out];simp [hno.out (by rw [rme_eq,hpt.out];rfl)]),hkb⟩
      ·have hregs:0≤t.regs∧t.regs≤90:=by
        have h:=hpl.out;simp only [Form.rng,decide_eq_true_eq] at h;omega
       refine dT 24 50 ?_;refine Drawn.cl 25 (fun K hK=>?_);go_simp;refine Drawn.bk hK (hS:=by (try dsimp only);obtain ⟨kf,km⟩:(_∧_):=⟨x2,x8⟩;have:=lt_cell kf.1;have:=lt_cell km.1;refine ⟨⟨?_,?_⟩,?_,?_,?_,?_,?_,?_,?_,?_⟩ <;> (obtain ⟨kf0,kf1⟩:=kf;obtain ⟨km0,km1,km2,km3,km4,km5,km6,km7⟩:=km;go_simp)) (h:=fun hHeld=>?_)
       clear hK K;refine dT 26 5 ?_;refine dN ?_
       have hpt:Hid (pre f t=true):=by
        show _=_
        rw [hpre.out,decide_eq_true HS0.out,decide_eq_true HL0.out];rfl
       have hxs:=hbX.size;refine name_world (fun W2=>Hid (Lk W2 w4.heap.size (.slice ca f.classes.length ccap) (.slice (some ⟨b,o,none⟩) f.methods.length mcap) (.slice pa t.params.length pcap) (.slice da t.code.length dcap) (.slice ha t.handlers.length hcap) t true)∧Below w4.heap.size w4 W2∧W2.cell? ⟨wr.heap.size,6,none⟩=some (.slice da t.code.length dcap)) ?_ ?_
       ·refine ⟨?_,Rd.byB,?_⟩
        ·show Lk _ _ _ _ _ _ _ _ _
         refine ⟨⟨?_,?_⟩,⟨?_,?_,?_,?_,?_,?_,?_,?_⟩,?_,?_⟩
         all_goals go_simp
        ·obtain ⟨kf,km⟩:(_∧_):=⟨x2,x8⟩;have hz:=lt_cell km.1;have km6:=km.2.2.2.2.2.2.1;clear kf km;go_simp
       rintro W2 ⟨hlk0,hbl0,m6'⟩;have hbl1:Below wr.heap.size wr W2:=(hbr.trans (hbX.mono hbr.size)).trans (hbl0.mono (by have:=hbr.size;omega))
       have hbl2:Below w.heap.size w W2:=hwr2.out.trans (hbl1.mono hwrs);have hblw:w.heap.size≤w4.heap.size:=by have:=hbr.size;omega
       have hl6:=lt_cell m6';have hlbs:=hlk0.out.lt;have hlbr:wr.heap.size < w4.heap.size:=by have:=hbr.size;omega
       clear f1 f2 m0 m1 m2 m3 m4 m5 m6 m7 htW hfW hmW hts0 k2 k8
       go_wp2_with fail
       obtain ⟨wo,rfl⟩:∃ wo:World,wo=wr:=⟨_,rfl⟩;have hFit:Hid (Fit f t f.classes.length ccap dcap):=⟨clc,ccc,dlc,dcc,hregs⟩
       go_loopw [55] (fun i wr=>∃ j:Nat,j≤t.code.length∧i=.int .i64 j∧Hid (Lk wr w4.heap.size (.slice ca f.classes.length ccap) (.slice (some ⟨b,o,none⟩) f.methods.length mcap) (.slice pa t.params.length pcap) (.slice da t.code.length dcap) (.slice ha t.handlers.length hcap) t (insTo f t j))∧Keep W2.heap.size w4.heap.size W2 wr) (fun i _=>t.code.length - (intOf i).toNat)
       case atStart=>exact ⟨0,by omega,rfl,by show Lk _ _ _ _ _ _ _ _ _;simpa [insTo] using hlk0.out,Keep.refl _ _ _⟩
       case round =>
        obtain ⟨j,hj,rfl,hlk,hkp⟩:=hrel;have hks:=hkp.size;have hlz:=hlk.out.lt;have hkb:Below w.heap.size w wr:=hbl2.trans (hkp.below (by omega) (by omega))
        by_cases hlt2:j < t.code.length
        ·obtain ⟨b2,o2,rfl,hb2',he2⟩:=del j hlt2;have hst:=Lib.hid (insTo_succ (f:=f) hlt2);obtain ⟨x,hx⟩:=at_of hlt2;rw [hx.out] at he2 hst;obtain ⟨g1,g2,g3,g4,g5,oks,va,g6,gargs⟩:=he2;have hvi:VIns w w.heap.size (.agg #[.int .i64 x.op,.int .i64 x.a,.int .i64 x.b,.int .i64 x.c,.int .i64 x.n,va]) x:=⟨va,rfl,oks,gargs⟩;have hvi2:=Lib.hid hvi;clear hvi;obtain ⟨aa,acap,rfl,alc,acc,_⟩:=gargs;have h1:=hkp.cell (by omega) (by omega) (kept hbl2 hb2' g1)
         have h2:=hkp.cell (by omega) (by omega) (kept hbl2 hb2' g2)
         have h3:=hkp.cell (by omega) (by omega) (kept hbl2 hb2' g3)
         have h4:=hkp.cell (by omega) (by omega) (kept hbl2 hb2' g4)
         have h5:=hkp.cell (by omega) (by omega) (kept hbl2 hb2' g5)
         have h6:=hkp.cell (by omega) (by omega) (kept hbl2 hb2' g6)
         have hI2:(0:Int)≤(j:Int)∧(j:Int) < t.code.length:=⟨by omega,by omega⟩
         obtain ⟨hI3,hI4⟩:=hI2;obtain ⟨q,hq7⟩:∃ q,Hid (insTo f t j=q):=⟨_,rfl⟩;rw [hq7.out] at hlk hst;have z10:=hlk.out.2.2.1;clear del g1 g2 g3 g4 g5 g6
         cases q
         ·go_wp2_with fail
          go_roundw
          case rel =>
           refine ⟨j+1,by omega,by go_num,?_,hkp.trans (Keep.alloc (Keep.refl _ _ _) (by omega) _)⟩
           rw [hst.out];exact (hlk.out.next (Below.alloc (Below.refl _ _) (Nat.le_refl _) _) hlk.out.lt)
          case measure=>simp [intOf];omega
         ·go_wp2_with fail
          have hkc:=hkb.alloc (by omega) (.cells #[.int .i64 x.op,.int .i64 x.a,.int .i64 x.b,.int .i64 x.c,.int .i64 x.n,.slice aa x.args.length acap] 63)
          refine (Look.ins f t x _ w4.heap.size ca ccap _ _ _ dcap _ _ (hlk.out.next (Below.alloc (Below.refl _ _) (Nat.le_refl _) _) hlk.out.lt) hFit.out okr.out w.heap.size hblw (Sl.mono mCls hcs2.out hkc (Nat.le_refl _)) (Sl.mono mMe hms2.out hkc (Nat.le_refl _)) (hvi2.out.mono hkc (Nat.le_refl _))).mono ?_;rintro e w6 ⟨rfl,hA,hK6⟩;have hA2:=Lib.hid hA;clear hA hkc
          go_wp2_with fail
          go_roundw
          case rel =>
           refine ⟨j+1,by omega,by go_num,?_,hkp.trans (Keep.trans (Keep.alloc (Keep.refl _ _ _) hks _) (hK6.mono (by simp;omega)))⟩
           rw [hst.out,Bool.true_and];exact hA2.out
          case measure=>simp [intOf];omega
        ·have hge2:¬ (j:Int) < t.code.length:=by omega
         have hjj:Hid (j=t.code.length):=by show _=_;omega
         obtain ⟨q,hq7⟩:∃ q,Hid (insTo f t j=q):=⟨_,rfl⟩;rw [hq7.out] at hlk;have hrm:Hid (Rform.rme f t=q):=by show _=_;rw [rme_eq,hpt.out,← hq7.out,hjj.out];rfl
         have z10:=hlk.out.2.2.1;clear del
         cases q
         ·go_wp2_with fail
          go_ret;exact ⟨ret_bool (by rw [hall0.out];simp [hno.out hrm.out]),hkb⟩
         ·have hh:=Lib.hid (hyes.out hrm.out);have hfin:Below w1.heap.size w1 wr:=hq2.out.trans ((hbl1.trans (hkp.below (by omega) (by omega))).mono hqs)
          go_wp2_with fail
          go_roundw
          case rel=>exact ⟨k+1,by omega,by go_num,hfin,hh.out⟩
          case measure=>simp [intOf];omega
     ·have hlo0:(t.locals==0)=false:=by simpa using hl0
      have HL0:=Lib.hid hl0;clear hl0;refine Drawn.hd (fun w'=>(w'.cell? ⟨w.heap.size,0,none⟩=some (.slice ca f.classes.length ccap)∧w'.cell? ⟨w.heap.size,1,none⟩=some (.slice (some ⟨b,o,none⟩) f.methods.length mcap))∧w'.cell? ⟨wr.heap.size,0,none⟩=some (.slice pa t.params.length pcap)∧w'.cell? ⟨wr.heap.size,1,none⟩=some (.int .i64 t.ret.kind)∧w'.cell? ⟨wr.heap.size,2,none⟩=some (.int .i64 t.ret.cls)∧w'.cell? ⟨wr.heap.size,3,none⟩=some (.int .i64 t.stack)∧w'.cell? ⟨wr.heap.size,4,none⟩=some (.int .i64 t.locals)∧w'.cell? ⟨wr.heap.size,5,none⟩=some (.int .i64 t.regs)∧w'.cell? ⟨wr.heap.size,6,none⟩=some (.slice da t.code.length dcap)∧w'.cell? ⟨wr.heap.size,7,none⟩=some (.slice ha t.handlers.length hcap)) (hS:=by (try dsimp only);first | exact ⟨⟨f1,f2⟩,m0,m1,m2,m3,m4,m5,m6,m7⟩ | go_keep) (h:=fun hHeld=>?_)
      refine dT 0 26 ?_;refine dT 1 27 ?_;refine dT 2 28 ?_;refine dT 3 29 ?_;refine Drawn.cl 4 (fun K hK=>?_);go_simp
      go_at_call 111
      refine (headV f t 2400 _ _ _ _ hph.out (hfW.mono Rd.byB (by simp)) (hmW.mono Rd.byB (by simp)) (by omega)).mono ?_
      rintro e w2 ⟨rfl,hb2⟩;have hbW:Below W.heap.size W w2:=Below.trans Rd.byB (hb2.mono (by simp))
      have k2:=B2.next ⟨f1,f2⟩ hbW (by omega)
      have k8:=B8.next ⟨m0,m1,m2,m3,m4,m5,m6,m7⟩ hbW (by omega)
      go_wp2_with fail
      refine Drawn.bk hK (hS:=by (try dsimp only);exact ⟨k2,k8⟩) (h:=fun hHeld=>?_)
      clear hK K;refine dT 5 31 ?_;refine dT 6 32 ?_;refine dT 7 33 ?_;refine dT 8 34 ?_;refine dT 9 35 ?_;refine dT 10 36 ?_;refine dT 11 37 ?_;refine dT 12 38 ?_;refine dT 13 39 ?_;refine dT 14 40 ?_;refine dT 15 41 ?_;refine dS 16 42 ?_;refine dS 17 43 ?_;refine dS 18 44 ?_;refine dS 19 45 ?_;refine dS 20 46 ?_;refine dS 21 47 ?_;refine dS 22 48 ?_;refine dT 23 49 ?_;refine dT 24 50 ?_;refine Drawn.cl 25 (fun K hK=>?_);go_simp;refine Drawn.bk hK (hS:=by (try dsimp only);obtain ⟨kf,km⟩:(_∧_):=⟨k2,k8⟩;have:=lt_cell kf.1;have:=lt_cell km.1;refine ⟨⟨?_,?_⟩,?_,?_,?_,?_,?_,?_,?_,?_⟩ <;> (obtain ⟨kf0,kf1⟩:=kf;obtain ⟨km0,km1,km2,km3,km4,km5,km6,km7⟩:=km;go_simp)) (h:=fun hHeld=>?_)
      clear hK K;refine dT 26 5 ?_;refine dN ?_
      have hpt:Hid (pre f t=false):=by
       show _=_
       rw [hpre.out,decide_eq_false HL0.out];simp
      have hxs:=hbW.size;refine name_world (fun W2=>Hid (Lk W2 w2.heap.size (.slice ca f.classes.length ccap) (.slice (some ⟨b,o,none⟩) f.methods.length mcap) (.slice pa t.params.length pcap) (.slice da t.code.length dcap) (.slice ha t.handlers.length hcap) t false)∧Below w2.heap.size w2 W2∧W2.cell? ⟨wr.heap.size,6,none⟩=some (.slice da t.code.length dcap)) ?_ ?_
      ·refine ⟨?_,Rd.byB,?_⟩
       ·show Lk _ _ _ _ _ _ _ _ _
        refine ⟨⟨?_,?_⟩,⟨?_,?_,?_,?_,?_,?_,?_,?_⟩,?_,?_⟩
        all_goals go_simp
       ·obtain ⟨kf,km⟩:(_∧_):=⟨k2,k8⟩;have hz:=lt_cell km.1;have km6:=km.2.2.2.2.2.2.1;clear kf km;go_simp
      rintro W2 ⟨hlk0,hbl0,m6'⟩;have hbl1:Below wr.heap.size wr W2:=(hbr.trans (hbW.mono hbr.size)).trans (hbl0.mono (by have:=hbr.size;omega))
      have hbl2:Below w.heap.size w W2:=hwr2.out.trans (hbl1.mono hwrs);have hblw:w.heap.size≤w2.heap.size:=by have:=hbr.size;omega
      have hl6:=lt_cell m6';have hlbs:=hlk0.out.lt;have hlbr:wr.heap.size < w2.heap.size:=by have:=hbr.size;omega
      clear f1 f2 m0 m1 m2 m3 m4 m5 m6 m7 htW hfW hmW hts0 k2 k8
      go_wp2_with fail
      obtain ⟨wo,rfl⟩:∃ wo:World,wo=wr:=⟨_,rfl⟩
      go_loopw [55] (fun i wr=>∃ j:Nat,j≤t.code.length∧i=.int .i64 j∧Hid (Lk wr w2.heap.size (.slice ca f.classes.length ccap) (.slice (some ⟨b,o,none⟩) f.methods.length mcap) (.slice pa t.params.length pcap) (.slice da t.code.length dcap) (.slice ha t.handlers.length hcap) t false)∧Keep W2.heap.size w2.heap.size W2 wr) (fun i _=>t.code.length - (intOf i).toNat)
      case atStart=>exact ⟨0,by omega,rfl,hlk0,Keep.refl _ _ _⟩
      case round =>
       obtain ⟨j,hj,rfl,hlk,hkp⟩:=hrel;have hks:=hkp.size;have z10:=hlk.out.2.2.1;have hlz:=hlk.out.lt
       by_cases hlt2:j < t.code.length
       ·obtain ⟨b2,o2,rfl,hb2',he2⟩:=del j hlt2;obtain ⟨x,hx⟩:=at_of hlt2;rw [hx.out] at he2;obtain ⟨g1,g2,g3,g4,g5,oks,va,g6,gargs⟩:=he2;obtain ⟨aa,acap,rfl,alc,acc,_⟩:=gargs;have h1:=hkp.cell (by omega) (by omega) (kept hbl2 hb2' g1)
        have h2:=hkp.cell (by omega) (by omega) (kept hbl2 hb2' g2)
        have h3:=hkp.cell (by omega) (by omega) (kept hbl2 hb2' g3)
        have h4:=hkp.cell (by omega) (by omega) (kept hbl2 hb2' g4)
        have h5:=hkp.cell (by omega) (by omega) (kept hbl2 hb2' g5)
        have h6:=hkp.cell (by omega) (by omega) (kept hbl2 hb2' g6)
        have hI2:(0:Int)≤(j:Int)∧(j:Int) < t.code.length:=⟨by omega,by omega⟩
        obtain ⟨hI3,hI4⟩:=hI2;clear del g1 g2 g3 g4 g5 g6
        go_wp2_with fail
        go_roundw
        case rel=>exact ⟨j+1,by omega,by go_num,Lib.hid (hlk.out.next (Below.alloc (Below.refl _ _) (Nat.le_refl _) _) hlk.out.lt),hkp.trans (Keep.alloc (Keep.refl _ _ _) (by omega) _)⟩
        case measure=>simp [intOf];omega
       ·have hge2:¬ (j:Int) < t.code.length:=by omega
        have hkb:Below w.heap.size w wr:=hbl2.trans (hkp.below (by omega) (by omega))
        clear del
        go_wp2_with fail
        go_ret;exact ⟨ret_bool (by rw [hall0.out];simp [hno.out (by rw [rme_eq,hpt.out];rfl)]),hkb⟩
    ·have hst0:(t.stack==0)=false:=by simpa using hs0
     have HS0:=Lib.hid hs0;clear hs0;refine Drawn.hd (fun w'=>(w'.cell? ⟨w.heap.size,0,none⟩=some (.slice ca f.classes.length ccap)∧w'.cell? ⟨w.heap.size,1,none⟩=some (.slice (some ⟨b,o,none⟩) f.methods.length mcap))∧w'.cell? ⟨wr.heap.size,0,none⟩=some (.slice pa t.params.length pcap)∧w'.cell? ⟨wr.heap.size,1,none⟩=some (.int .i64 t.ret.kind)∧w'.cell? ⟨wr.heap.size,2,none⟩=some (.int .i64 t.ret.cls)∧w'.cell? ⟨wr.heap.size,3,none⟩=some (.int .i64 t.stack)∧w'.cell? ⟨wr.heap.size,4,none⟩=some (.int .i64 t.locals)∧w'.cell? ⟨wr.heap.size,5,none⟩=some (.int .i64 t.regs)∧w'.cell? ⟨wr.heap.size,6,none⟩=some (.slice da t.code.length dcap)∧w'.cell? ⟨wr.heap.size,7,none⟩=some (.slice ha t.handlers.length hcap)) (hS:=by (try dsimp only);first | exact ⟨⟨f1,f2⟩,m0,m1,m2,m3,m4,m5,m6,m7⟩ | go_keep) (h:=fun hHeld=>?_)
     refine dT 0 26 ?_;refine dT 1 27 ?_;refine dT 2 28 ?_;refine dT 3 29 ?_;refine Drawn.cl 4 (fun K hK=>?_);go_simp
     go_at_call 111
     refine (headV f t 2400 _ _ _ _ hph.out (hfW.mono Rd.byB (by simp)) (hmW.mono Rd.byB (by simp)) (by omega)).mono ?_
     rintro e w2 ⟨rfl,hb2⟩;have hbW:Below W.heap.size W w2:=Below.trans Rd.byB (hb2.mono (by simp))
     have k2:=B2.next ⟨f1,f2⟩ hbW (by omega)
     have k8:=B8.next ⟨m0,m1,m2,m3,m4,m5,m6,m7⟩ hbW (by omega)
     go_wp2_with fail
     refine Drawn.bk hK (hS:=by (try dsimp only);exact ⟨k2,k8⟩) (h:=fun hHeld=>?_)
     clear hK K;refine dT 5 31 ?_;refine dT 6 32 ?_;refine dT 7 33 ?_;refine dT 8 34 ?_;refine dT 9 35 ?_;refine dT 10 36 ?_;refine dS 11 37 ?_;refine dS 12 38 ?_;refine dS 13 39 ?_;refine dT 14 40 ?_;refine dT 15 41 ?_;refine dS 16 42 ?_;refine dS 17 43 ?_;refine dS 18 44 ?_;refine dS 19 45 ?_;refine dS 20 46 ?_;refine dS 21 47 ?_;refine dS 22 48 ?_;refine dT 23 49 ?_;refine dT 24 50 ?_;refine Drawn.cl 25 (fun K hK=>?_);go_simp;refine Drawn.bk hK (hS:=by (try dsimp only);obtain ⟨kf,km⟩:(_∧_):=⟨k2,k8⟩;have:=lt_cell kf.1;have:=lt_cell km.1;refine ⟨⟨?_,?_⟩,?_,?_,?_,?_,?_,?_,?_,?_⟩ <;> (obtain ⟨kf0,kf1⟩:=kf;obtain ⟨km0,km1,km2,km3,km4,km5,km6,km7⟩:=km;go_simp)) (h:=fun hHeld=>?_)
     clear hK K;refine dT 26 5 ?_;refine dN ?_
     have hpt:Hid (pre f t=false):=by
      show _=_
      rw [hpre.out,decide_eq_false HS0.out];simp
     have hxs:=hbW.size;refine name_world (fun W2=>Hid (Lk W2 w2.heap.size (.slice ca f.classes.length ccap) (.slice (some ⟨b,o,none⟩) f.methods.length mcap) (.slice pa t.params.length pcap) (.slice da t.code.length dcap) (.slice ha t.handlers.length hcap) t false)∧Below w2.heap.size w2 W2∧W2.cell? ⟨wr.heap.size,6,none⟩=some (.slice da t.code.length dcap)) ?_ ?_
     ·refine ⟨?_,Rd.byB,?_⟩
      ·show Lk _ _ _ _ _ _ _ _ _
       refine ⟨⟨?_,?_⟩,⟨?_,?_,?_,?_,?_,?_,?_,?_⟩,?_,?_⟩
       all_goals go_simp
      ·obtain ⟨kf,km⟩:(_∧_):=⟨k2,k8⟩;have hz:=lt_cell km.1;have km6:=km.2.2.2.2.2.2.1;clear kf km;go_simp
     rintro W2 ⟨hlk0,hbl0,m6'⟩;have hbl1:Below wr.heap.size wr W2:=(hbr.trans (hbW.mono hbr.size)).trans (hbl0.mono (by have:=hbr.size;omega))
     have hbl2:Below w.heap.size w W2:=hwr2.out.trans (hbl1.mono hwrs);have hblw:w.heap.size≤w2.heap.size:=by have:=hbr.size;omega
     have hl6:=lt_cell m6';have hlbs:=hlk0.out.lt;have hlbr:wr.heap.size < w2.heap.size:=by have:=hbr.size;omega
     clear f1 f2 m0 m1 m2 m3 m4 m5 m6 m7 htW hfW hmW hts0 k2 k8
     go_wp2_with fail
     obtain ⟨wo,rfl⟩:∃ wo:World,wo=wr:=⟨_,rfl⟩
     go_loopw [55] (fun i wr=>∃ j:Nat,j≤t.code.length∧i=.int .i64 j∧Hid (Lk wr w2.heap.size (.slice ca f.classes.length ccap) (.slice (some ⟨b,o,none⟩) f.methods.length mcap) (.slice pa t.params.length pcap) (.slice da t.code.length dcap) (.slice ha t.handlers.length hcap) t false)∧Keep W2.heap.size w2.heap.size W2 wr) (fun i _=>t.code.length - (intOf i).toNat)
     case atStart=>exact ⟨0,by omega,rfl,hlk0,Keep.refl _ _ _⟩
     case round =>
      obtain ⟨j,hj,rfl,hlk,hkp⟩:=hrel;have hks:=hkp.size;have z10:=hlk.out.2.2.1;have hlz:=hlk.out.lt
      by_cases hlt2:j < t.code.length
      ·obtain ⟨b2,o2,rfl,hb2',he2⟩:=del j hlt2;obtain ⟨x,hx⟩:=at_of hlt2;rw [hx.out] at he2;obtain ⟨g1,g2,g3,g4,g5,oks,va,g6,gargs⟩:=he2;obtain ⟨aa,acap,rfl,alc,acc,_⟩:=gargs;have h1:=hkp.cell (by omega) (by omega) (kept hbl2 hb2' g1)
       have h2:=hkp.cell (by omega) (by omega) (kept hbl2 hb2' g2)
       have h3:=hkp.cell (by omega) (by omega) (kept hbl2 hb2' g3)
       have h4:=hkp.cell (by omega) (by omega) (kept hbl2 hb2' g4)
       have h5:=hkp.cell (by omega) (by omega) (kept hbl2 hb2' g5)
       have h6:=hkp.cell (by omega) (by omega) (kept hbl2 hb2' g6)
       have hI2:(0:Int)≤(j:Int)∧(j:Int) < t.code.length:=⟨by omega,by omega⟩
       obtain ⟨hI3,hI4⟩:=hI2;clear del g1 g2 g3 g4 g5 g6
       go_wp2_with fail
       go_roundw
       case rel=>exact ⟨j+1,by omega,by go_num,Lib.hid (hlk.out.next (Below.alloc (Below.refl _ _) (Nat.le_refl _) _) hlk.out.lt),hkp.trans (Keep.alloc (Keep.refl _ _ _) (by omega) _)⟩
       case measure=>simp [intOf];omega
      ·have hge2:¬ (j:Int) < t.code.length:=by omega
       have hkb:Below w.heap.size w wr:=hbl2.trans (hkp.below (by omega) (by omega))
       clear del
       go_wp2_with fail
       go_ret;exact ⟨ret_bool (by rw [hall0.out];simp [hno.out (by rw [rme_eq,hpt.out];rfl)]),hkb⟩
  ·have hst:=Lib.hid (Form.all_of (p:=Rform.rme f) (fun j hj=>hall.out j hj (by omega)))
   clear hall mel
   go_wp2
   go_ret;exact ⟨ret_bool (by rw [hall0.out,hst.out];rfl),hwr⟩
end Look
namespace Rck
open Num Rd D Mem Hpw Flow HierW FormW Sck
section
variable {w:World}{f:Fi}{vf:Value}
def ChkR (w:World) (f:Fi) (e:Ending) (w':World):Prop:=∃ c k:Int,e=.returned (.agg #[.int .i64 c,.int .i64 k,.int .i64 0])∧Below w.heap.size w w'∧((c=2∧Rform.rmay f=false)∨(c=3∧Rform.rmay f=true∧∃ (n:Nat) (h:n < f.methods.length),k=n∧Ckr.okMe f f.methods[n]=false∧∀ j (h:j < f.methods.length),j < n→Ckr.okMe f f.methods[j]=true)∨(c=0∧Rform.rmay f=true∧∀ m∈f.methods,Ckr.okMe f m=true))
theorem methodV (p:Bool){vm:Value}{m:Me}(S:Run.FiR f) (hmem:m∈f.methods) (hf:VFi w w.heap.size vf f) (hm:VMe w w.heap.size vm m) (hp:Ckr.okMe f m=p):Calls Try.prog 58 #[vf,vm] w (MethR w p):=by
 rw [← hp];exact method S hmem hf hm
theorem rmayV' (p:Bool) (hf:VFi w w.heap.size vf f) (hp:Rform.rmay f=p):Calls Try.prog 57 #[vf] w fun e w'=>e=.returned (.bool p)∧Below w.heap.size w w':=by
 rw [← hp];exact Look.rmay f vf w hf
set_option maxRecDepth 100000 in
theorem check (hf:VFi w w.heap.size vf f):Calls Try.prog 19 #[vf] w (ChkR w f):=by
 have HF:=Lib.hid hf;obtain ⟨vc,vms,rfl,hc,hms⟩:=hf;obtain ⟨ca,ccap,rfl,_⟩:=hc;obtain ⟨ma,mcap,rfl,q1,q2,hel⟩:=hms;have HEL:=Lib.hid hel;clear hel;obtain ⟨p,hs⟩:∃ p,Hid (Rform.rmay f=p):=⟨_,Lib.hid rfl⟩
 go_enter Try.func19,Try.ntmps19
 go_wp2_with fail
 refine (rmayV' p (HF.out.mono (by exact Rd.byB) (by simp <;> omega)) hs.out).mono ?_
 rintro e w1 ⟨rfl,hb1⟩;have b0:w1.cell? ⟨w.heap.size,0,none⟩=some (.slice ca f.classes.length ccap):=kept hb1 Rd.byL (by go_simp)
 have b1:w1.cell? ⟨w.heap.size,1,none⟩=some (.slice ma f.methods.length mcap):=kept hb1 Rd.byL (by go_simp)
 have y0:w1.cell? ⟨w.heap.size+1,0,none⟩=some (.int .i64 0):=kept hb1 Rd.byL (by go_simp)
 have y1:w1.cell? ⟨w.heap.size+1,1,none⟩=some (.int .i64 0):=kept hb1 Rd.byL (by go_simp)
 have y2:w1.cell? ⟨w.heap.size+1,2,none⟩=some (.int .i64 0):=kept hb1 Rd.byL (by go_simp)
 have f0:w1.frozen? ⟨w.heap.size+1,0,none⟩=false:=keptf hb1 Rd.byL (by go_simp)
 have f1:w1.frozen? ⟨w.heap.size+1,1,none⟩=false:=keptf hb1 Rd.byL (by go_simp)
 have f2:w1.frozen? ⟨w.heap.size+1,2,none⟩=false:=keptf hb1 Rd.byL (by go_simp)
 have hbw:Below w.heap.size w w1:=Below.trans (by exact Rd.byB) (hb1.mono (by simp <;> omega))
 have hsz:=hbw.size;have ly:=cell_lt y0;clear hb1
 cases p
 ·go_wp2
  refine bodyPost_ret (v:=.agg #[.int .i64 2,.int .i64 0,.int .i64 0]) (by simp [results,Try.results19,go_sem] <;> go_simp) rfl ?_
  exact ⟨2,0,rfl,by exact Rd.byB,.inl ⟨rfl,hs.out⟩⟩
 ·have S:=Run.fiR_of hs.out
  go_wp2_with fail
  go_loopw [14] (fun c wr=>∃ n:Nat,c=.int .i64 n∧n≤f.methods.length∧Hid (Below w1.heap.size w1 wr)∧Hid (∀ j (h:j < f.methods.length),j < n→Ckr.okMe f f.methods[j]=true)) (fun c _=>f.methods.length - (intOf c).toNat)
  case atStart=>exact ⟨0,rfl,Nat.zero_le _,Below.refl _ _,fun j _ h=>absurd h (by omega)⟩
  case round =>
   obtain ⟨n,rfl,hn,hbr,hall⟩:=hrel;have hszr:=hbr.out.size;have hbwr:Below w.heap.size w wr:=hbw.trans (hbr.out.mono hsz);have r0:=kept hbr.out ly y0;have r1:=kept hbr.out ly y1;have r2:=kept hbr.out ly y2;have z0:=keptf hbr.out ly f0;have z1:=keptf hbr.out ly f1;have z2:=keptf hbr.out ly f2;have c0:=kept hbr.out (cell_lt b0) b0;have c1:=kept hbr.out (cell_lt b0) b1;have lc:=cell_lt c0;have lr:=cell_lt r0
   by_cases hlt:n < f.methods.length
   ·obtain ⟨mb,mo,rfl,hmb,vp,vd,vh,g0,g1,g2,g3,g4,g5,g6,g7,oks,t1,t2,t3⟩:=HEL.out n hlt;have hvm:VMe w w.heap.size (.agg #[vp,.int .i64 f.methods[n].ret.kind,.int .i64 f.methods[n].ret.cls,.int .i64 f.methods[n].stack,.int .i64 f.methods[n].locals,.int .i64 f.methods[n].regs,vd,vh]) f.methods[n]:=⟨vp,vd,vh,rfl,oks,t1,t2,t3⟩;obtain ⟨pa,pcap,rfl,_⟩:=t1;obtain ⟨da,dcap,rfl,_⟩:=t2;obtain ⟨ha,hcap,rfl,_⟩:=t3;have HVM:=Lib.hid hvm;clear hvm;obtain ⟨q,hq⟩:∃ q,Hid (Ckr.okMe f f.methods[n]=q):=⟨_,Lib.hid rfl⟩;have hmem:=Lib.hid (List.getElem_mem hlt)
    have hst:=Lib.hid (fun j (h:j < f.methods.length) (hj:j < n+1) (hqt:q=true)=>(show Ckr.okMe f f.methods[j]=true from by
     by_cases hj2:j < n
     ·exact hall.out j h hj2
     ·obtain rfl:j=n:=by omega
      rw [hq.out];exact hqt))
    have hfl:=Lib.hid (fun (hqf:q=false)=>(show ∃ (n2:Nat) (h:n2 < f.methods.length),(n:Int)=n2∧Ckr.okMe f f.methods[n2]=false∧∀ j (h:j < f.methods.length),j < n2→Ckr.okMe f f.methods[j]=true from ⟨n,hlt,rfl,hq.out.trans hqf,hall.out⟩));replace g0:=kept hbwr hmb g0;replace g1:=kept hbwr hmb g1;replace g2:=kept hbwr hmb g2;replace g3:=kept hbwr hmb g3;replace g4:=kept hbwr hmb g4;replace g5:=kept hbwr hmb g5;replace g6:=kept hbwr hmb g6;replace g7:=kept hbwr hmb g7;have lg:=cell_lt g0;have i9:(n:Int) < f.methods.length:=by omega
    clear b0 b1 y0 y1 y2 f0 f1 f2
    generalize f.methods[n]=cm at *
    go_wp2_with fail
    refine (methodV q S hmem.out (HF.out.mono (hbwr.trans (by exact Rd.byB)) Rd.byL) (HVM.out.mono (hbwr.trans (by exact Rd.byB)) Rd.byL) hq.out).mono ?_
    rintro e w2 ⟨⟨x1,x2,x3,rfl⟩,hb2⟩;have hb2r:Below wr.heap.size wr w2:=Below.trans (by exact Rd.byB) (hb2.mono Rd.byL)
    replace r0:=kept hb2r lr r0;replace r1:=kept hb2r lr r1;replace r2:=kept hb2r lr r2;replace z0:=keptf hb2r lr z0;replace z1:=keptf hb2r lr z1;replace z2:=keptf hb2r lr z2;have hb2w:Below w.heap.size w w2:=hbwr.trans (hb2r.mono hbwr.size);have ls2:=hb2w.size
    cases q
    ·go_wp2
     refine bodyPost_ret (v:=.agg #[.int .i64 3,.int .i64 n,.int .i64 0]) (by simp [results,Try.results19,go_sem] <;> go_simp) rfl ?_
     exact ⟨3,n,rfl,by exact Rd.byB,.inr (.inl ⟨rfl,hs.out,hfl.out (by first | rfl | trivial)⟩)⟩
    ·go_wp2
     exact ⟨⟨n+1,by simp,hlt,Lib.hid (hbr.out.trans (hb2r.mono hszr)),Lib.hid (fun j h hj=>hst.out j h hj (by first | rfl | trivial))⟩,by simp only [intOf];omega⟩
   ·go_wp2
    refine bodyPost_ret (v:=.agg #[.int .i64 0,.int .i64 0,.int .i64 0]) (by simp [results,Try.results19,go_sem] <;> go_simp) rfl ?_
    refine ⟨0,0,rfl,by exact Rd.byB,.inr (.inr ⟨rfl,hs.out,fun m hm=>?_⟩)⟩
    obtain ⟨j,hj,rfl⟩:=List.getElem_of_mem hm;exact hall.out j hj (by omega)
end
end Rck
namespace Ckr
open D Num Flow
open Chk (Gd gd_of wf_flat wf_ref wf_ty ftype_ty insAt insAt_mem covers Fit GLs GSs GS GV Γ fits_of gs_of gs_int gs_kind1 gs_null gs_ref gs_kind load_sim store_sim gv_none)
open Run (Vl Hp Rf Ext Typed ofT obj VtOk VlOk Res MeR FiR meAt HpOk RfOk)
def hands (m:Me) (fr:Rf):List Vl:=if (insAt m fr.at_).op=19∧fr.given.kind≠0 then [fr.given] else if (insAt m fr.at_).op=22∧fr.got.kind≠0 then [fr.got] else []
def gho (m:Me) (fr:Rf):Run.Sf:=⟨fr.regs,hands m fr,fr.at_⟩
def AR (f:Fi) (m:Me) (i:Ins) (fr0:Rf) (h0:Hp) (xs:List Ty) (ns:List Nat):Run.Act Rf→Prop
 | .go fr h=>Ext h0 h∧Typed f.classes h∧fr.at_∈ns∧(fr.given=Vl.nil∧fr.got=Vl.nil)∧GLs f.classes h xs fr.regs∧i.op≠18
 | .back v h=>Ext h0 h∧Typed f.classes h∧Run.RetT f.classes m h v
 | .thrown o h=>Ext h0 h∧Typed f.classes h
 | .stop e h=>e≠6
 | .call k args fr h=>Ext h0 h∧Typed f.classes h∧Run.allOf f.classes h args (meAt f k).params=true∧(fr.at_=fr0.at_∧fr.regs=fr0.regs)∧(i.op=18∧k=i.a.toNat)∧GLs f.classes h xs fr.regs∧fr.at_+1∈ns
section
variable {f:Fi}{m:Me}{i:Ins}{fr:Rf}{h h0:Hp}{s t:State}{ns:List Nat}{xs:List Ty}
theorem act_ar {α:Type}{R:α→Hp→Prop}{r:Res α}{k:α→Hp→Run.Act Rf}(hr:Run.ResT f.classes h R r) (hk:∀ a h',Ext h h'→Typed f.classes h'→R a h'→AR f m i fr h xs ns (k a h')):AR f m i fr h xs ns (r.act k):=by
 cases r with
 | ok a h'=>exact hk a h' hr.1 hr.2.1 hr.2.2
 | thrown o h'=>exact hr
 | stop e h'=>exact hr
theorem kind_ar {v:Vl}{k:Int}{K:Run.Act Rf}(e:v.kind=k) (hk:AR f m i fr h0 xs ns K):AR f m i fr h0 xs ns (Run.rkind v k h K):=by
 unfold Run.rkind;rw [if_pos e];exact hk
theorem set_ar (E:Ext h h0) (T:Typed f.classes h0) (hf:RfOk m h.objs.length fr) (p:Paired s.slots) (g:GLs f.classes h s.slots fr.regs){a:Int}{x:Ty}{v:Vl}(g1:GS f.classes h0 x v) (he:sto s a x=some t) (hn:fr.at_+1∈ns) (h18:i.op≠18):AR f m i fr h t.slots ns (Run.rset fr a v h0):=by
 injection he with he
 subst he;exact ⟨E,T,hn,⟨rfl,rfl⟩,store_sim (g.ext E hf.regs.vals) p hf.regs.pair _ g1,h18⟩
theorem cast_ar (E:Ext h h0) (T:Typed f.classes h0) (hf:RfOk m h.objs.length fr) (g:GLs f.classes h s.slots fr.regs){a c:Int}(hl:loadB s.slots a.toNat 3=true) (ho:GV f.classes h0 ⟨3,c⟩ (Run.rd fr a)) (he:sto s a ⟨3,c⟩=some t) (hn:fr.at_+1∈ns) (h18:i.op≠18):AR f m i fr h t.slots ns (Run.rgo fr (fr.at_+1) h0):=by
 injection he with he
 subst he
 have hk:kd s.slots a.toNat=3∨kd s.slots a.toNat=7:=by
  unfold loadB at hl;rw [if_neg (by decide),if_pos rfl] at hl
  simpa using hl
 refine ⟨E,T,hn,⟨rfl,rfl⟩,?_,h18⟩;have g2:=g.ext E hf.regs.vals;have el:lose s.slots a.toNat=s.slots.set a.toNat none_:=by unfold lose;rw [if_neg (by omega),if_neg (by omega)]
 simp only [Flow.store];rw [if_pos (by decide),el,List.set_set]
 refine ⟨by simpa using g2.1,fun j=>?_⟩
 unfold kd;rw [Chk.getD_set]
 split
 ·rename_i e
  refine ⟨?_,by simp⟩
  rw [e.1];exact ho
 ·exact g2.2 j
theorem fit_of (hm:Hier.may f.classes=true) (g:GLs f.classes h s.slots fr.regs){a:Int}{ty:Ty}(ht:ty.kind=1∨ty.kind=2∨ty.kind=3) (he:fit1 f.classes s a ty=true):ofT f.classes h (Run.rd fr a) ty=true∧(Run.rd fr a).kind=ty.kind:=by
 unfold fit1 at he;simp only [Bool.and_eq_true] at he;exact fits_of hm (load_sim g (by omega) he.1).1 he.2 ht
theorem args_of (hm:Hier.may f.classes=true) (g:GLs f.classes h s.slots fr.regs):∀ (ts:List Ty) (xs:List Int),(∀ t∈ts,t.kind=1∨t.kind=2∨t.kind=3)→xs.length=ts.length→fitAll f.classes s xs ts=true→∃ args,Run.rargs fr xs ts=some args∧Run.allOf f.classes h args ts=true:=by
 intro ts
 induction ts with
 | nil=>intro xs _ _ _;exact ⟨[],by cases xs <;> rfl,rfl⟩
 | cons t ts ih =>
  intro xs hk hl he
  cases xs with
  | nil=>simp at hl
  | cons a xs =>
   unfold fitAll at he;simp only [List.headD_cons,List.tail_cons,Bool.and_eq_true] at he;obtain ⟨args,e1,e2⟩:=ih xs (fun x hx=>hk x (by simp [hx])) (by simpa using hl) he.2
   obtain ⟨o1,o2⟩:=fit_of hm g (hk t (by simp)) he.1
   refine ⟨Run.rd fr a :: args,?_,?_⟩
   ·simp only [Run.rargs];rw [if_pos o2,e1];rfl
   ·simp only [Run.allOf,Bool.and_eq_true];exact ⟨o1,e2⟩
theorem hand_of (F:Fit f.classes h s (gho m fr)){a k:Int}(hk:1≤k∧k≤3) (he:hand s a k=some t):(hands m fr).length=1∧GS f.classes h (s.stack.getD 0 none_) ((hands m fr).getD 0 Vl.nil)∧((hands m fr).getD 0 Vl.nil).kind=k∧sto s a (s.stack.getD 0 none_)=some t:=by
 obtain ⟨e1,e2,e3⟩:=hand_some he;have hl:=F.stk.len;have hg:=F.stk.get 0 (by omega)
 have g2:=gs_kind hg;refine ⟨by rw [← e1];exact hl,hg,?_,e3⟩
 unfold okH at e2;simp only [Bool.or_eq_true,Bool.and_eq_true,decide_eq_true_eq] at e2;have hg':GS f.classes h (s.stack.getD 0 none_) ((hands m fr).getD 0 Vl.nil):=hg;have g2:=gs_kind hg';omega
end
section
variable {f:Fi}{m:Me}{i:Ins}{fr:Rf}{h:Hp}{s t:State}{input:List Int}{fuel:Nat}
theorem sim (S:FiR f) (M:MeR f m) (hi:Sd f m i) (hii:insAt m fr.at_=i) (H:HpOk f.classes input fuel h) (T:Typed f.classes h) (hf:RfOk m h.objs.length fr) (hg:Gd f.classes.length m.regs.toNat 1 s) (F:Fit f.classes h s (gho m fr)) (he:does f m i s=some t):AR f m i fr h t.slots (nexts i fr.at_) (Run.rstep f input m i fr h):=by
 have hm:=S.may
 have step1:¬ (i.op=10∨i.op=20∨i.op=21)→fr.at_+1∈nexts i fr.at_:=fun hn=>by
  unfold nexts;rw [if_neg (by omega)]
  split
  ·simp
  ·rw [if_neg (by omega)];simp
 have hsome:∀ {a b:State},some a=some b→a=b:=fun e=>by injection e
 have E:=Ext.refl h;have g:GLs f.classes h s.slots fr.regs:=F.loc;have P:=hg.pair;have ld:∀ {a k:Int},(1≤k∧k≤3)→loadB s.slots a.toNat k=true→GS f.classes h (loadV s.slots a.toNat k) (Run.rd fr a)∧(Run.rd fr a).kind=k:=fun hk hl=>load_sim g hk hl;unfold does at he;unfold Run.rstep
 by_cases q:i.op=1
 ·rw [if_pos q] at he ⊢;exact set_ar E T hf P g (gs_int 1 _ (.inl rfl)) he (step1 (by omega)) (by omega)
 rw [if_neg q] at he ⊢;have p1:=q;clear q
 by_cases q:i.op=2
 ·rw [if_pos (.inl q)] at he;rw [if_pos q];exact set_ar E T hf P g (gs_int 2 _ (.inr rfl)) he (step1 (by omega)) (by omega)
 by_cases q24:i.op=24
 ·rw [if_pos (.inr q24)] at he
  repeat rw [if_neg (by omega)]
  rw [if_pos q24];exact act_ar (Run.takeIn_t T input) (fun v h' E' T' R=>set_ar E' T' hf P g (gs_kind1 2 R.2 (.inr rfl)) he (step1 (by omega)) (by omega))
 rw [if_neg (by omega)] at he
 rw [if_neg q];have p2:=q;clear q
 by_cases q:i.op=3
 ·rw [if_pos q] at he ⊢;exact set_ar E T hf P g gs_null he (step1 (by omega)) (by omega)
 rw [if_neg q] at he ⊢;have p3:=q;clear q
 by_cases q:i.op=4
 ·rw [if_pos q] at he ⊢;obtain ⟨e1,e2⟩:=rdk_some he;obtain ⟨g1,g2⟩:=ld (hi.a4 q).1 e1;exact kind_ar g2 (set_ar E T hf P g g1 e2 (step1 (by omega)) (by omega))
 rw [if_neg q] at he ⊢;have p4:=q;clear q
 by_cases q:i.op=5
 ·rw [if_pos q] at he ⊢;obtain ⟨e1,e2⟩:=rdk_some he;obtain ⟨e3,e4⟩:=rdk_some e2;refine act_ar (Run.reckon_t H T (ld (by decide) e1).2 (ld (by decide) e3).2 _) (fun v h' E' T' R=>set_ar E' T' hf P g (gs_kind1 1 R.2 (.inl rfl)) e4 (step1 (by omega)) (by omega))
 rw [if_neg q] at he ⊢;have p5:=q;clear q
 by_cases q:i.op=6
 ·rw [if_pos q] at he ⊢;obtain ⟨e1,e2⟩:=rdk_some he;obtain ⟨e3,e4⟩:=rdk_some e2;refine act_ar (Run.reckon_t H T (ld (by decide) e1).2 (ld (by decide) e3).2 _) (fun v h' E' T' R=>set_ar E' T' hf P g (gs_kind1 2 R.2 (.inr rfl)) e4 (step1 (by omega)) (by omega))
 rw [if_neg q] at he ⊢;have p6:=q;clear q
 by_cases q:i.op=7
 ·rw [if_pos q] at he ⊢;obtain ⟨e1,e2⟩:=rdk_some he;exact kind_ar (ld (by decide) e1).2 (set_ar E T hf P g (gs_int 2 _ (.inr rfl)) e2 (step1 (by omega)) (by omega))
 rw [if_neg q] at he ⊢;have p7:=q;clear q
 by_cases q:i.op=8
 ·rw [if_pos q] at he ⊢;obtain ⟨e1,e2⟩:=rdk_some he;exact kind_ar (ld (by decide) e1).2 (set_ar E T hf P g (gs_int 1 _ (.inl rfl)) e2 (step1 (by omega)) (by omega))
 rw [if_neg q] at he ⊢;have p8:=q;clear q
 by_cases q:i.op=9
 ·rw [if_pos q] at he ⊢;obtain ⟨e1,e2⟩:=rdk_some he;obtain ⟨e3,e4⟩:=rdk_some e2;exact kind_ar (ld (by decide) e1).2 (kind_ar (ld (by decide) e3).2 (set_ar E T hf P g (gs_int 1 _ (.inl rfl)) e4 (step1 (by omega)) (by omega)))
 rw [if_neg q] at he ⊢;have p9:=q;clear q
 by_cases q:i.op=10
 ·rw [if_pos q]
  repeat rw [if_neg (by omega)] at he
  have:=hsome he
  subst this;exact ⟨E,T,by unfold nexts;rw [if_pos q];simp [Run.rgo],⟨rfl,rfl⟩,g,by omega⟩
 rw [if_neg q];have p10:=q;clear q
 by_cases q:i.op=11
 ·rw [if_pos q] at he ⊢;obtain ⟨e1,e2⟩:=rdk_some he
  have:=hsome e2
  subst this;refine kind_ar (ld (by decide) e1).2 ⟨E,T,?_,⟨rfl,rfl⟩,g,by omega⟩
  unfold nexts;rw [if_neg (by omega),if_pos (.inl q)]
  simp only
  split <;> simp
 rw [if_neg q] at he ⊢;have p11:=q;clear q
 by_cases q:i.op=12
 ·rw [if_pos q] at he ⊢;obtain ⟨e1,e2⟩:=rdk_some he
  have:=hsome e2
  subst this;refine kind_ar (ld (by decide) e1).2 ⟨E,T,?_,⟨rfl,rfl⟩,g,by omega⟩
  unfold nexts;rw [if_neg (by omega),if_pos (.inr q)]
  simp only
  split <;> simp
 rw [if_neg q] at he ⊢;have p12:=q;clear q
 by_cases q:i.op=21
 ·rw [if_pos q] at he
  repeat rw [if_neg (by omega)]
  rw [if_pos q];obtain ⟨e1,e2⟩:=rdk_some he;have e3:=(ld (by decide) e1).2
  exact kind_ar e3 (act_ar (R:=fun _ _=>False) (Run.throw_t H T e3) (fun _ h' E' T' R=>R.elim))
 rw [if_neg q] at he;have p21:=q;clear q
 by_cases q:i.op=23
 ·rw [if_pos q] at he
  repeat rw [if_neg (by omega)]
  rw [if_pos q];obtain ⟨e1,e2⟩:=rdk_some he
  have:=hsome e2
  subst this;have e3:=(ld (by have:=hi.out q;omega) e1).2
  exact kind_ar e3 (act_ar (Run.emit_t T e3) (fun _ h' E' T' R=>⟨E',T',step1 (by omega),⟨rfl,rfl⟩,g.ext E' hf.regs.vals,by omega⟩))
 rw [if_neg q] at he;have p23:=q;clear q
 by_cases q:i.op=13
 ·rw [if_pos q] at he ⊢;have hc:=hi.cls (by omega)
  refine act_ar (Run.new_t H T i.b) (fun v h' E' T' R=>set_ar E' T' hf P g (gs_ref R.1 (.inr ?_)) he (step1 (by omega)) (by omega))
  rw [R.2,Hier.is_in (Hier.wf_of_may hm) hc]
  simp
 rw [if_neg q] at he ⊢;have p13:=q;clear q
 by_cases q:i.op=14
 ·rw [if_pos q] at he ⊢;obtain ⟨e1,e2⟩:=fitk_some he;obtain ⟨hc,hfl⟩:=hi.fld (by omega)
  obtain ⟨o1,o2⟩:=fit_of hm g (.inr (.inr rfl)) e1;refine kind_ar o2 (act_ar (Run.get_t H T (hf.regs.vals _) o1 hc hfl) (fun x h' E' T' R=>?_));obtain ⟨r1,r2⟩:=R;subst r1;exact set_ar E' T' hf P g (gs_of r2 (wf_ty (ftype_ty hm hc hfl)).2) e2 (step1 (by omega)) (by omega)
 rw [if_neg q] at he ⊢;have p14:=q;clear q
 by_cases q:i.op=15
 ·rw [if_pos q] at he ⊢;obtain ⟨e1,e2⟩:=fitk_some he;obtain ⟨e3,e4⟩:=fitk_some e2
  have:=hsome e4
  subst this;obtain ⟨hc,hfl⟩:=hi.fld (by omega)
  obtain ⟨o1,o2⟩:=fit_of hm g (.inr (.inr rfl)) e1;obtain ⟨o3,o4⟩:=fit_of hm g (wf_ty (ftype_ty hm hc hfl)).2 e3;exact kind_ar o2 (kind_ar o4 (act_ar (Run.put_t H T (hf.regs.vals _) (hf.regs.vals _) o3 o1) (fun _ h' E' T' R=>⟨E',T',step1 (by omega),⟨rfl,rfl⟩,g.ext E' hf.regs.vals,by omega⟩)))
 rw [if_neg q] at he ⊢;have p15:=q;clear q
 by_cases q:i.op=16
 ·rw [if_pos q] at he ⊢;obtain ⟨e1,e2⟩:=rdk_some he;have e3:=(ld (by decide) e1).2
  refine kind_ar e3 (act_ar (Run.cast_t H T e3 i.b) (fun _ h' E' T' R=>?_));obtain ⟨r1,r2⟩:=R;subst r1;exact cast_ar E' T' hf g e1 (gs_of r2 (.inr (.inr rfl))).1 e2 (step1 (by omega)) (by omega)
 rw [if_neg q] at he ⊢;have p16:=q;clear q
 by_cases q:i.op=17
 ·rw [if_pos q] at he ⊢;obtain ⟨e1,e2⟩:=rdk_some he;have e3:=(ld (by decide) e1).2
  exact kind_ar e3 (act_ar (Run.isV_t T e3 i.c) (fun x h' E' T' R=>set_ar E' T' hf P g (gs_kind1 1 R.2 (.inl rfl)) e2 (step1 (by omega)) (by omega)))
 rw [if_neg q] at he ⊢;have p17:=q;clear q
 by_cases q:i.op=18
 ·rw [if_pos q] at he ⊢
  split at he
  ·rename_i e1
   have:=hsome he
   subst this;obtain ⟨hk,hl⟩:=hi.meth q;have M2:=S.mes _ (Run.meAt_mem (f:=f) (k:=i.a.toNat) (by omega))
   obtain ⟨args,a1,a2⟩:=args_of hm g _ _ (fun x hx=>(wf_ty (M2.params.2 x hx)).2) hl e1;unfold Run.r18;rw [a1];exact ⟨E,T,a2,⟨rfl,rfl⟩,⟨q,rfl⟩,g,step1 (by omega)⟩
  ·cases he
 rw [if_neg q] at he ⊢;have p18:=q;clear q
 by_cases q:i.op=19
 ·rw [if_pos q] at he ⊢;obtain ⟨h1,h2,h3,h4⟩:=hand_of F (hi.a19 q).1 he
  have hh:hands m fr=[fr.given]:=by
   unfold hands at h1 ⊢;rw [hii] at h1 ⊢
   by_cases e:i.op=19∧fr.given.kind≠0
   ·rw [if_pos e]
   ·rw [if_neg e,if_neg (by omega)] at h1;simp at h1
  rw [hh] at h2 h3;exact kind_ar h3 (set_ar E T hf P g h2 h4 (step1 (by omega)) (by omega))
 rw [if_neg q] at he ⊢;have p19:=q;clear q
 by_cases q:i.op=22
 ·rw [if_pos q] at he
  repeat rw [if_neg (by omega)]
  rw [if_pos q];obtain ⟨h1,h2,h3,h4⟩:=hand_of F (by decide) he
  have hh:hands m fr=[fr.got]:=by
   unfold hands at h1 ⊢;rw [hii] at h1 ⊢;rw [if_neg (by omega)] at h1 ⊢
   by_cases e:i.op=22∧fr.got.kind≠0
   ·rw [if_pos e]
   ·rw [if_neg e] at h1;simp at h1
  rw [hh] at h2 h3;exact kind_ar h3 (set_ar E T hf P g h2 h4 (step1 (by omega)) (by omega))
 rw [if_neg q] at he;have p22:=q;clear q
 by_cases q:i.op=20
 ·rw [if_pos q] at he ⊢;unfold Run.r20
  split at he
  ·rename_i hr
   rw [if_pos hr];exact ⟨E,T,.inl hr⟩
  ·rename_i hr
   rw [if_neg hr];obtain ⟨e1,e2⟩:=fitk_some he;obtain ⟨o1,o2⟩:=fit_of hm g (wf_ty (ret_ty M hr)).2 e1;refine kind_ar o2 ?_;rw [if_pos o1];exact ⟨E,T,.inr o1⟩
 have:=hi.op
 omega
end
end Ckr
namespace Ckr
open D Num Flow
open Chk (Gd gd_of insAt insAt_mem covers Fit GLs GSs GS GV Γ gs_of gs_ref gv_none meets tstores_sim none_paired wf_ty)
open Run (Vl Hp Rf Ext Typed ofT obj VtOk VlOk Res MeR FiR meAt HpOk RfOk)
def FrT (f:Fi) (m:Me) (h:Hp) (fr:Rf):Prop:=∃ s,(final f m).states.getD fr.at_ none=some s∧Γ f.classes s (h,gho m fr)
theorem gss_ext {l:List Cls}{h h':Hp}:∀ {xs:List Ty}{vs:List Vl},GSs l h xs vs→Ext h h'→(∀ v∈vs,VlOk h.objs.length v)→GSs l h' xs vs:=by
 intro xs
 induction xs with
 | nil=>intro vs g _ _;cases vs with
  | nil=>trivial
  | cons v vs=>exact g.elim
 | cons y xs ih=>intro vs g e hv;cases vs with
  | nil=>exact g.elim
  | cons u vs=>exact ⟨⟨g.1.1.ext e (hv u (by simp)),g.1.2⟩,ih g.2 e (fun v hm=>hv v (by simp [hm]))⟩
section
variable {f:Fi}{m:Me}
theorem final_ok (S:FiR f) (hm:m∈f.methods):RunOk f.classes.length m.regs.toNat 1 m.code.length (final f m):=iter_ok S.may (one_ok S hm) _ (run0_ok S hm)
theorem final_held (S:FiR f) (hm:m∈f.methods):(∀ k s,(run0 f m).states.getD k none=some s→Cov (Γ f.classes) (final f m) k s) ∧
  ∀ k s,(final f m).states.getD k none=some s→((one f m k s).1=true∨(final f m).bad=true)∧∀ p∈(one f m k s).2,p.1 < m.code.length→Cov (Γ f.classes) (final f m) p.1 p.2:=fin_held (Γ f.classes) S.may (meets S.may m.regs.toNat 1) (one_ok S hm) (run0_ok S hm) (fun k s hs=>by
 rw [run0_is S hm] at hs ⊢
 left
 have hc:=(S.mes m hm).code;simp only at hs;rw [getD_setO _ _ _ _ (by simp;omega)] at hs
 split at hs
 ·rename_i e;simp [e]
 ·rw [List.getD_eq_getElem?_getD,List.getElem?_replicate] at hs
  split at hs <;> cases hs)
theorem final_start (S:FiR f) (hm:m∈f.methods):Cov (Γ f.classes) (final f m) 0 (start m):=(final_held S hm).1 0 (start m) (by
 rw [run0_is S hm];have hc:=(S.mes m hm).code;simp only
 rw [getD_setO _ _ _ _ (by simp;omega),if_pos rfl])
theorem final_of (S:FiR f) (hm:m∈f.methods) (hok:okMe f m=true){k:Nat}{s:State}(hs:(final f m).states.getD k none=some s) :
  k < m.code.length∧Gd f.classes.length m.regs.toNat 1 s∧∃ t,does f m (insAt m k) s=some t∧(∀ j∈nexts (insAt m k) k,Cov (Γ f.classes) (final f m) j ⟨t.slots,given f m (insAt m k) j,false⟩)∧∀ x∈m.handlers,covers x k=true→Cov (Γ f.classes) (final f m) x.go.toNat (hstate m s true x):=by
 have R:=final_ok S hm;have hk:k < m.code.length:=by have:=getD_lt hs;rw [R.1] at this;exact this
 obtain ⟨h1,h2⟩:=(final_held S hm).2 k s hs;have hbad:(final f m).bad=false:=by unfold okMe at hok;simpa using hok
 have h1:(goes f m k s).isSome=true:=by
  rcases h1 with h1 | h1
  ·exact h1
  ·exact absurd h1 (by rw [hbad];simp)
 obtain ⟨s',hg⟩:=Option.isSome_iff_exists.1 h1;obtain ⟨g1,⟨t,g2,rfl⟩,g3⟩:=goes_some hg;refine ⟨hk,gd_of (R.2.1 k s hs) g1,t,g2,fun j hj=>?_,fun x hx hc=>?_⟩
 ·refine h2 (j,⟨t.slots,given f m (insAt m k) j,false⟩) ?_ (g3 j hj);unfold one;simp only [hg];exact List.mem_append.2 (.inl (List.mem_map.2 ⟨j,hj,rfl⟩))
 ·have hh:=(S.mes m hm).hds.2 x hx;simp only [Form.hd,Bool.and_eq_true,Run.rng_iff] at hh;refine h2 (x.go.toNat,hstate m s true x) ?_ (by omega)
  unfold one;simp only [hg,Option.isSome_some];exact List.mem_append.2 (.inr (List.mem_map.2 ⟨x,by simp [hx,hc],rfl⟩))
theorem cov_fr {j:Nat}{s:State}(c:Cov (Γ f.classes) (final f m) j s){h:Hp}{fr:Rf}(F:Fit f.classes h s (gho m fr)) (e:fr.at_=j):FrT f m h fr:=by
 obtain ⟨z,h1,h2⟩:=c;exact ⟨z,by rw [e];exact h1,h2 _ (fun _=>F)⟩
theorem thr (S:FiR f) (hm:m∈f.methods) (hok:okMe f m=true){fr fr':Rf}{h h2:Hp}(e1:fr'.at_=fr.at_) (e2:fr'.regs=fr.regs) (hf:RfOk m h.objs.length fr) (hft:FrT f m h fr) (E:Ext h h2):Run.ThrT Run.RM (FrT f) f m h2 fr':=by
 intro h3 o E2 ho
 obtain ⟨s,hs,hg⟩:=hft;obtain ⟨hk,G,t,_,_,hcov⟩:=final_of S hm hok hs;have F:=hg G.live
 cases hh:Run.handler f.classes m (Run.RM.at_ fr') (obj h3 o).cls with
 | none =>
  have ea:Run.after Run.RM f m fr' o h3=.thrown:=by unfold Run.after;rw [hh]
  rw [ea];exact ⟨fun e=>(by cases e),fun fr2 e=>(by cases e)⟩
 | some x =>
  have hx:=List.mem_of_find?_eq_some hh;have hp:=List.find?_some hh;simp only [Bool.and_eq_true,decide_eq_true_eq] at hp;have hat:Run.RM.at_ fr'=fr.at_:=e1;rw [hat] at hp;have cv:=hcov x hx (by unfold covers;simp only [Bool.and_eq_true,decide_eq_true_eq];exact hp.1)
  have hcaught:Run.RM.caught m fr' x.go.toNat o=some ⟨fr'.regs,x.go.toNat,Vl.nil,⟨3,o⟩⟩:=rfl;have ea:Run.after Run.RM f m fr' o h3=.go ⟨fr'.regs,x.go.toNat,Vl.nil,⟨3,o⟩⟩:=by unfold Run.after;rw [hh];simp only;rw [hcaught]
  rw [ea];refine ⟨fun e=>(by cases e),fun fr2 e=>?_⟩
  injection e with e
  subst e;refine cov_fr cv ⟨?_,?_⟩ rfl
  ·show GLs f.classes h3 (hstate m s true x).slots fr'.regs
   rw [e2];exact F.loc.ext (E.trans E2) hf.regs.vals
  ·show GSs f.classes h3 (hstate m s true x).stack (hands m _)
   have e:hstate m s true x=⟨s.slots,if (insAt m x.go.toNat).op=22 then [⟨3,x.cls⟩] else [],false⟩:=rfl;rw [e];unfold hands;simp only;rw [if_neg (c:=(insAt m x.go.toNat).op=19∧Vl.nil.kind≠0) (by simp [Vl.nil])]
   by_cases q:(insAt m x.go.toNat).op=22
   ·rw [if_pos q,if_pos ⟨q,by simp⟩]
    exact ⟨gs_ref rfl (.inr hp.2),trivial⟩
   ·rw [if_neg q,if_neg (fun e=>q e.1)]
    trivial
theorem hands_nil {fr:Rf}(h1:fr.given=Vl.nil) (h2:fr.got=Vl.nil):hands m fr=[]:=by
 unfold hands;rw [h1,h2,if_neg (by simp [Vl.nil]),if_neg (by simp [Vl.nil])]
theorem machT (S:FiR f) (hok:∀ m∈f.methods,okMe f m=true) (input:List Int) (fuel:Nat):Run.MachT Run.RM RfOk (FrT f) f input fuel:=by
 refine ⟨fun m hm fr h H ho T hf hft=>?_,fun m hm fr h hf hft=>thr S hm (hok m hm) rfl rfl hf hft (Ext.refl h),fun m hm h args hv hl hall=>?_,fun m hm fr h h' hf E hft=>?_⟩
 ·obtain ⟨s,hs,hg⟩:=id hft;obtain ⟨hk,G,t,hd,hn,_⟩:=final_of S hm (hok m hm) hs;have F:=hg G.live;have M:=S.mes m hm;have hi:=insAt_mem hk;refine ⟨insAt m fr.at_,hi.2,?_⟩
  have:=sim (input:=input) S M (sd_of S M (M.ins _ hi.1)) rfl H T hf G F hd
  show Run.ActT Run.RM (FrT f) f m h (Run.rstep f input m (insAt m fr.at_) fr h)
  revert this
  cases Run.rstep f input m (insAt m fr.at_) fr h with
  | go fr2 h2 =>
   rintro ⟨a1,a2,a3,⟨a4,a5⟩,a6,a7⟩;refine ⟨a1,a2,cov_fr (hn _ a3) ⟨a6,?_⟩ rfl⟩
   show GSs f.classes h2 (given f m (insAt m fr.at_) fr2.at_) (hands m fr2)
   rw [hands_nil a4 a5];unfold given;rw [if_neg (fun e=>a7 e.1)]
   trivial
  | back v h2=>exact id
  | thrown o h2=>exact id
  | stop e h2=>exact id
  | call k args fr2 h2 =>
   rintro ⟨a1,a2,a3,⟨a4,a5⟩,⟨a6,a7⟩,a8,a9⟩;refine ⟨a1,a2,a3,thr S hm (hok m hm) a4 a5 hf hft a1,fun v h3 E hr ht=>⟨_,rfl,?_⟩⟩;have hf2:RfOk m h.objs.length fr:=hf;refine cov_fr (hn _ a9) ⟨?_,?_⟩ rfl
   ·show GLs f.classes h3 t.slots fr2.regs
    rw [a5] at a8 ⊢;exact a8.ext E (fun i=>(hf.regs.vals i).mono a1.1)
   ·show GSs f.classes h3 (given f m (insAt m fr.at_) (fr2.at_+1)) (hands m _)
    unfold given hands;simp only;have eme:meRef f (insAt m fr.at_)=meAt f k:=by unfold meRef;rw [a7]
    rw [eme];have h2:¬ ((insAt m (fr2.at_+1)).op=22∧Vl.nil.kind≠0):=by simp [Vl.nil]
    by_cases q:(insAt m (fr2.at_+1)).op=19
    ·by_cases q0:(meAt f k).ret.kind=0
     ·rw [if_neg (fun e=>e.2.2 q0)];unfold Run.RetOk at hr;rw [if_pos q0] at hr;subst hr;rw [if_neg (by simp [Vl.nil]),if_neg h2]
      trivial
     ·have ho:=ht.resolve_left q0;have hkind:=Run.of_kind ho;have hmk:=S.mes _ (Run.meAt_mem (f:=f) (k:=k) (by have:=((sd_of S M (M.ins _ hi.1)).meth a6).1;omega))
      rw [if_pos ⟨a6,q,q0⟩,if_pos ⟨q,by omega⟩]
      exact ⟨gs_of ho (wf_ty (ret_ty hmk q0)).2,trivial⟩
    ·rw [if_neg (fun e=>q e.2.1),if_neg (fun e=>q e.1),if_neg h2]
     trivial
 ·have M:=S.mes m hm;have hlo:=M.regs;refine cov_fr (final_start S hm) ⟨?_,?_⟩ rfl
  ·refine tstores_sim (n:=h.objs.length) m.params args _ _ 0 hl hall M.params.2 hv (by simp;omega) ⟨by simp,fun i=>?_⟩ (none_paired _) (Run.fresh_ok _ _)
   have e:(List.replicate m.regs.toNat none_).getD i none_=none_:=by
    rw [List.getD_eq_getElem?_getD,List.getElem?_replicate];split <;> rfl
   unfold kd;rw [e];exact ⟨gv_none _,by simp [none_]⟩
  ·show GSs f.classes h [] (hands m _)
   rw [hands_nil rfl rfl]
   trivial
 ·obtain ⟨s,hs,hg⟩:=hft;refine ⟨s,hs,fun hb=>⟨(hg hb).loc.ext E hf.regs.vals,?_⟩⟩;have g:=(hg hb).stk
  show GSs f.classes h' s.stack (hands m fr)
  have g':GSs f.classes h s.stack (hands m fr):=g;refine gss_ext g' E (fun v hv=>?_);unfold hands at hv
  split at hv
  ·have:v=fr.given:=by simpa using hv
   rw [this];exact hf.given
  ·split at hv
   ·have:v=fr.got:=by simpa using hv
    rw [this];exact hf.got
   ·cases hv
theorem safe (h:Rform.rmay f=true) (hn:∀ m∈f.methods,∀ i∈m.code,Ok i.n) (hok:∀ m∈f.methods,okMe f m=true) (entry:Int) (args input:List Int) (fuel:Int) (ha:∀ n∈args,Ok n) (hin:∀ n∈input,Ok n):(Run.play Run.RM f entry args input fuel).1.fin≠6 :=
 Run.play_safe (Run.rm_ok (Run.fiR_of h) hn hin) (machT (Run.fiR_of h) hok input fuel.toNat) (fun m hm=>((Run.fiR_of h).mes m hm).params.2) ha
end
end Ckr
end Go.Proofs.Ytncmhenfgbcihab
