/- Parts of the proof: Kn. -/
import Derived.Test.YtncmhenfgbcihabG22
import Derived.Test.YtncmhenfgbcihabG13
import Derived.Test.YtncmhenfgbcihabG06
set_option linter.unusedSimpArgs false
set_option linter.unusedVariables false
set_option maxHeartbeats 8000000
namespace Go.Proofs.Ytncmhenfgbcihab
open Go.RowKit
namespace Rck
open Num Rd D Mem Hpw Flow HierW FormW Sck
section
theorem ok_ins {w:World}{B:Nat}{vf:Value}{f:Fi}(hf:VFi w B vf f):∀ m∈f.methods,∀ i∈m.code,Ok i.n:=by
 intro m hm i hi
 obtain ⟨_,_,_,_,hms⟩:=hf;obtain ⟨_,_,_,_,_,hel⟩:=hms;obtain ⟨k,hk,rfl⟩:=List.getElem_of_mem hm;obtain ⟨_,_,_,_,vp,vco,vh,_,_,_,_,_,_,_,_,_,_,hco,_⟩:=hel k hk;obtain ⟨_,_,_,_,_,hec⟩:=hco;obtain ⟨j,hj,rfl⟩:=List.getElem_of_mem hi;obtain ⟨_,_,_,_,_,_,_,_,_,ho,_⟩:=hec j hj;exact ho.2.2.2.2
theorem ok_ints {w:World}{B:Nat}{v:Value}{l:List Int}(h:Sl 1 EInt w B v l):∀ x∈l,Ok x:=by
 intro x hx
 obtain ⟨_,_,_,_,_,hel⟩:=h;obtain ⟨k,hk,rfl⟩:=List.getElem_of_mem hx;obtain ⟨_,_,_,_,_,h⟩:=hel k hk;exact h
set_option maxRecDepth 100000 in
theorem rcheckSafe (vf:Value) (f:Fi) (entry:Int) (va:Value) (args:List Int) (vi:Value) (input:List Int) (fuel:Int) (w:World) (hf:VFi w w.heap.size vf f) (he:Ok entry) (ha:Sl 1 EInt w w.heap.size va args) (hi:Sl 1 EInt w w.heap.size vi input) (hfu:Ok fuel) :
  Calls Try.prog 7 #[vf,.int .i64 entry,va,vi,.int .i64 fuel] w fun e w'=>e=.returned (.bool true)∧Below w.heap.size w w':=by
 have HF:=Lib.hid hf;have HA:=Lib.hid ha;have HI:=Lib.hid hi;obtain ⟨vc,vms,rfl,hc,hms⟩:=hf;obtain ⟨ca,ccap,rfl,_⟩:=hc;obtain ⟨ma,mcap,rfl,_⟩:=hms;obtain ⟨aa,acap,rfl,_⟩:=ha;obtain ⟨ia,icap,rfl,_⟩:=hi;clear he hfu
 go_enter Try.func7,Try.ntmps7
 go_wp2_with fail
 refine (check (HF.out.mono (by exact Rd.byB) Rd.byL)).mono ?_
 rintro e w1 ⟨c,k,rfl,hb1,hck⟩;have b0:w1.cell? ⟨w.heap.size,0,none⟩=some (.slice ca f.classes.length ccap):=kept hb1 Rd.byL (by go_simp)
 have b1:w1.cell? ⟨w.heap.size,1,none⟩=some (.slice ma f.methods.length mcap):=kept hb1 Rd.byL (by go_simp)
 have hbw:Below w.heap.size w w1:=Below.trans (by exact Rd.byB) (hb1.mono Rd.byL)
 have lb:=cell_lt b0;clear hb1
 rcases hck with ⟨rfl,_⟩ | ⟨rfl,_⟩ | ⟨rfl,hsm,hok⟩
 ·go_wp2
  go_ret;exact ⟨rfl,by exact Rd.byB⟩
 ·go_wp2
  go_ret;exact ⟨rfl,by exact Rd.byB⟩
 ·by_cases hm3:3000 < fuel
  ·go_wp2
   go_ret;exact ⟨rfl,by exact Rd.byB⟩
  ·have hsafe:=Ckr.safe hsm (ok_ins HF.out) hok entry args input fuel (ok_ints HA.out) (ok_ints HI.out);obtain ⟨sh,hsh⟩:∃ sh,Hid (Run.play Run.RM f entry args input fuel=sh):=⟨_,Lib.hid rfl⟩;rw [hsh.out] at hsafe;have hq:(sh.1.fin != 6)=true:=by simpa using hsafe
   have HSM:=Lib.hid hsm;clear hsm hok hsafe
   go_wp2_with fail
   refine (RefG.rmay f _ _ (HF.out.mono (hbw.trans (by exact Rd.byB)) (by have:=hbw.size;simp;omega))).mono ?_
   rw [HSM.out];rintro e w2 ⟨rfl,hb2⟩;have hb12:Below w1.heap.size w1 w2:=Below.trans (by exact Rd.byB) (hb2.mono Rd.byL)
   have c0:=kept hb12 lb b0;have c1:=kept hb12 lb b1;have hbw2:Below w.heap.size w w2:=hbw.trans (hb12.mono hbw.size)
   go_wp2_with fail
   refine (Rhq.play HSM.out (HF.out.mono (hbw2.trans (by exact Rd.byB)) (by have:=hbw2.size;first | exact this | (simp;omega))) (HI.out.mono mInt (hbw2.trans (by exact Rd.byB)) (by have:=hbw2.size;first | exact this | (simp;omega))) (HA.out.mono mInt (hbw2.trans (by exact Rd.byB)) (by have:=hbw2.size;first | exact this | (simp;omega)))).mono ?_
   rw [hsh.out];rintro e w3 ⟨v3,rfl,⟨vo,rfl,hrow⟩,hb3⟩;obtain ⟨oa,on,oc,rfl⟩:=Rhw.own_sl hrow;have hbw3:Below w.heap.size w w3:=hbw2.trans (Below.trans (by exact Rd.byB) (hb3.mono (by have:=hbw2.size;first | exact this | (simp;omega))))
   have hs3:=hbw3.size
   go_wp2
   go_ret;exact ⟨rfl,by exact Rd.byB⟩
end
end Rck
end Go.Proofs.Ytncmhenfgbcihab
