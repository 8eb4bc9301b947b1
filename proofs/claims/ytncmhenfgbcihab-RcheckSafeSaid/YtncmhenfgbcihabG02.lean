/- Parts of the proof: FormR, FormH, Drawn, FormRH, Rform, RformB, RefG, FormRI, RefH. -/
import Derived.Test.YtncmhenfgbcihabG01
import Derived.Test.YtncmhenfgbcihabRows
import Derived.WalkKit
import Derived.Deep.RegionHeld3
set_option linter.unusedSimpArgs false
set_option linter.unusedVariables false
set_option maxHeartbeats 8000000
namespace Go.Proofs.Ytncmhenfgbcihab
open Go.RowKit
namespace FormR
open Num Rd D HierW FormW
def within (n lo hi:Int):Bool:=decide (lo≤n∧n≤hi)
theorem within_rng (n lo hi:Int):within n lo hi=Form.rng n lo (hi+1):=by
 unfold within Form.rng
 apply decide_eq_decide.2
 omega
theorem wi (n lo hi:Int) (w:World):Calls Try.prog 50 #[.int .i64 n,.int .i64 lo,.int .i64 hi] w fun e w'=>e=.returned (.bool (within n lo hi))∧w=w':=by
 go_enter Try.func50,Try.ntmps50
 go_wp2
 all_goals go_ret
 all_goals go_tidy
 all_goals refine ⟨ret_bool ?_,rfl⟩
 all_goals simp_all [within]
 all_goals (intros;omega)
theorem wiV (n lo hi:Int) (p:Bool) (w:World) (hp:within n lo hi=p):Calls Try.prog 50 #[.int .i64 n,.int .i64 lo,.int .i64 hi] w fun e w'=>e=.returned (.bool p)∧w=w':=by
 subst hp;exact wi n lo hi w
theorem slots (v:Value) (l:List Ty) (w:World) (h:Ts w v l) (hs:l.length≤1000000000):Calls Try.prog 52 #[v] w fun e w'=>e=.returned (.int .i64 (Form.slots l:Nat))∧w=w':=by
 obtain ⟨a,cap,rfl,hlc,hcc,hel⟩:=h
 go_enter Try.func52,Try.ntmps52
 go_wp2
 go_loopw [3,4] (fun n i wr=>∃ k:Nat,k≤l.length∧i=.int .i64 k∧n=.int .i64 ((Form.slots (l.take k)+(l.length - k):Nat):Int)∧w=wr) (fun _ i _=>l.length - (intOf i).toNat)
 case atStart=>exact ⟨0,by omega,rfl,by simp [Form.slots],rfl⟩
 case round =>
  obtain ⟨k,hk,rfl,rfl,rfl⟩:=hrel;have hle:=Form.slots_le (l.take k);have hlt':(l.take k).length≤k:=List.length_take_le _ _
  by_cases hlt:k < l.length
  ·obtain ⟨b,o,rfl,hb,he⟩:=hel k hlt;have hst:=Lib.hid (Form.slots_take hlt);obtain ⟨t,ht⟩:=at_of hlt;rw [ht.out] at he hst;obtain ⟨g1,g2,_,_⟩:=he;obtain ⟨kd,c⟩:=t;simp only at g1 g2;obtain ⟨S,hS⟩:∃ S,Hid (Form.slots (l.take k)=S):=⟨_,rfl⟩;rw [hS.out] at hst hle ⊢;obtain ⟨R,hR⟩:∃ R,Hid (S+(l.length - k)=R):=⟨_,rfl⟩;rw [hR.out];have hR2:(R:Int)≤3000000000:=by have:=hR.out;omega
   clear hel hlt'
   by_cases q:kd=2
   ·subst q
    go_wp2
    go_roundw
    case rel=>exact ⟨k+1,by omega,by go_num,by rw [hst.out];have:=hR.out;simp;omega,trivial⟩
    case measure=>simp [intOf];omega
   ·have q':(kd==2)=false:=by simpa using q
    go_wp2
    go_roundw
    case rel=>exact ⟨k+1,by omega,by go_num,by rw [hst.out,if_neg q];have:=hR.out;simp;omega,trivial⟩
    case measure=>simp [intOf];omega
  ·have hst:=Lib.hid (slots_end hlt hk);clear hel
   go_wp2
   go_ret;exact ⟨ret_int (by rw [hst.out];simp;omega),rfl⟩
theorem slotsV (v:Value) (l:List Ty) (S:Nat) (w:World) (h:Ts w v l) (hs:l.length≤1000000000) (hS:Form.slots l=S):Calls Try.prog 52 #[v] w fun e w'=>e=.returned (.int .i64 S)∧w=w':=by
 subst hS;exact slots v l w h hs
end FormR
namespace FormW
open Num Rd D HierW
set_option maxRecDepth 100000 in
theorem head (f:Fi) (m:Me) (most:Int) (vf vm:Value) (w:World) (hf:VFi w w.heap.size vf f) (hm:VMe w w.heap.size vm m) (hmost:0≤most∧most≤100000) :
  Calls Try.prog 111 #[vf,vm,.int .i64 most] w fun e w'=>e=.returned (.bool (Form.head f.classes.length m most))∧Below w.heap.size w w':=by
 obtain ⟨vc,vme,rfl,⟨ca,ccap,rfl,clc,ccc,_⟩,⟨ma,mcap,rfl,mlc,mcc,_⟩⟩:=hf;obtain ⟨vp,vcd,vh,rfl,⟨ok1,ok2,_,_,_⟩,⟨pa,pcap,rfl,plc,pcc,pel⟩,⟨da,dcap,rfl,dlc,dcc,_⟩,⟨ha,hcap,rfl,hlc,hcc,hel⟩⟩:=hm;obtain ⟨most1,most2⟩:=hmost;unfold Ok at ok1 ok2;obtain ⟨rk,hrk⟩:∃ rk,Hid (m.ret.kind=rk):=⟨_,rfl⟩;obtain ⟨rc,hrc⟩:∃ rc,Hid (m.ret.cls=rc):=⟨_,rfl⟩;rw [hrk.out] at ok1;rw [hrc.out] at ok2;rw [hrk.out,hrc.out]
 go_enter Try.func111,Try.ntmps111
 go_wp2_with fail
 refine name_world (fun W=>Below w.heap.size w W∧w.heap.size+2≤W.heap.size ∧
  (W.cell? ⟨w.heap.size,0,none⟩=some (.slice ca f.classes.length ccap)∧W.cell? ⟨w.heap.size,1,none⟩=some (.slice ma f.methods.length mcap)) ∧
  W.cell? ⟨w.heap.size+1,0,none⟩=some (.slice pa m.params.length pcap)∧W.cell? ⟨w.heap.size+1,1,none⟩=some (.int .i64 rk)∧W.cell? ⟨w.heap.size+1,2,none⟩=some (.int .i64 rc)∧W.cell? ⟨w.heap.size+1,6,none⟩=some (.slice da m.code.length dcap)∧W.cell? ⟨w.heap.size+1,7,none⟩=some (.slice ha m.handlers.length hcap))
  ?_ ?_
 ·refine ⟨Rd.byB,?_,⟨?_,?_⟩,?_,?_,?_,?_,?_⟩
  all_goals go_simp
 rintro W ⟨hbw,hsz,⟨f1,f2⟩,m0,m1,m2,m6,m7⟩;have hbs:=hbw.size;have hbW:=Lib.hid hbw
 go_loopw [14] (fun i wr=>∃ k:Nat,k≤m.params.length∧i=.int .i64 k∧Below W.heap.size W wr∧Hid (∀ j (h:j < m.params.length),j < k→Hier.ty f.classes.length m.params[j]=true)) (fun i _=>m.params.length - (intOf i).toNat)
 case atStart=>exact ⟨0,by omega,rfl,Below.refl _ _,fun j _ h=>absurd h (by omega)⟩
 case round =>
  obtain ⟨k,hk,rfl,hr,hall⟩:=hrel;have hrs:=hr.size;have n1:w.heap.size < wr.heap.size:=by omega
  have n2:w.heap.size+1 < wr.heap.size:=by omega
  have a1:=kept hr (by omega) f1
  have a2:=kept hr (by omega) m0
  have a3:=kept hr (by omega) m1
  have a4:=kept hr (by omega) m2
  have a5:=kept hr (by omega) m6
  have a6:=kept hr (by omega) m7
  by_cases hlt:k < m.params.length
  ·obtain ⟨b,o,rfl,hb,he⟩:=pel k hlt;have hyes:=Lib.hid (Form.all_step (p:=Hier.ty f.classes.length) hall.out hlt);have hno:=Lib.hid (Form.head_param (nc:=f.classes.length) (most:=most) hlt);obtain ⟨t,ht⟩:=at_of hlt;rw [ht.out] at he hyes hno;obtain ⟨g1,g2,_,_⟩:=he;have hwr:Below w.heap.size w wr:=hbw.trans (hr.mono hbs);have k1:=kept hwr hb g1;have k2:=kept hwr hb g2;clear pel g1 g2 hel f1 f2 m0 m1 m2 m6 m7 a2 a3 a4 a5 a6;obtain ⟨tb,htb⟩:∃ tb,Hid (Hier.ty f.classes.length t=tb):=⟨_,rfl⟩
   cases tb
   ·go_wp2_with (go_at_call 141;refine (type _ _ _ t _).mono ?_;rw [htb.out];rintro e w1 ⟨rfl,hb1⟩)
    go_ret;exact ⟨ret_bool (hno.out htb.out).symm,(hwr.alloc (by omega) _).trans (hb1.mono (by simp;omega))⟩
   ·go_wp2_with (go_at_call 141;refine (type _ _ _ t _).mono ?_;rw [htb.out];rintro e w1 ⟨rfl,hb1⟩)
    go_roundw
    case rel=>exact ⟨k+1,by omega,by go_num,(hr.alloc (by omega) _).trans (hb1.mono (by simp;omega)),hyes.out htb.out⟩
    case measure=>simp [intOf];omega
  ·obtain ⟨wo,rfl⟩:∃ wo:World,wo=wr:=⟨_,rfl⟩;have hpar:=Lib.hid (Form.all_of (fun j hj=>hall.out j hj (by omega)))
   have hwo:Below w.heap.size w wo:=hbw.trans (hr.mono hbs);clear pel hall f1 f2 m0 m1 m2 m6 m7
   go_wp2
   go_loopw [27] (fun i wr=>∃ k:Nat,k≤m.handlers.length∧i=.int .i64 k∧Below wo.heap.size wo wr∧Hid (∀ j (h:j < m.handlers.length),j < k→Form.hd f.classes.length m.code.length m.handlers[j]=true)) (fun i _=>m.handlers.length - (intOf i).toNat)
   case atStart=>exact ⟨0,by omega,rfl,Below.refl _ _,fun j _ h=>absurd h (by omega)⟩
   case round =>
    obtain ⟨k,hk,rfl,hq,hall⟩:=hrel;have hqs:=hq.size;have n3:w.heap.size < wr.heap.size:=by omega
    have n4:w.heap.size+1 < wr.heap.size:=by omega
    have c1:=kept hq (by omega) a1
    have c2:=kept hq (by omega) a2
    have c3:=kept hq (by omega) a3
    have c4:=kept hq (by omega) a4
    have c5:=kept hq (by omega) a5
    have c6:=kept hq (by omega) a6
    clear a1 a2 a3 a4 a5 a6;have hwr:Below w.heap.size w wr:=hwo.trans (hq.mono (by omega))
    by_cases hlt:k < m.handlers.length
    ·obtain ⟨b,o,rfl,hb,he⟩:=hel k hlt;have hyes:=Lib.hid (Form.all_step (p:=Form.hd f.classes.length m.code.length) hall.out hlt);have hno:=Lib.hid (Form.head_hd (nc:=f.classes.length) (most:=most) hlt);obtain ⟨t,ht⟩:=at_of hlt;rw [ht.out] at he hyes hno;obtain ⟨g1,g2,g3,g4,_⟩:=he;have k1:=kept hwr hb g1;have k2:=kept hwr hb g2;have k3:=kept hwr hb g3;have k4:=kept hwr hb g4;obtain ⟨lo,hi,go,cl⟩:=t;simp only at k1 k2 k3 k4;clear hel g1 g2 g3 g4 c2 c3 c4 c6;have hq2:=Lib.hid hq;have hwr2:=Lib.hid hwr
     go_wp2_with (go_at_call 89;refine (sin _ _ _ _).mono ?_;rintro e w1 ⟨rfl,rfl⟩)
     all_goals first
      | (
               go_ret;refine ⟨ret_bool (hno.out ?_).symm,Rd.byB⟩;go_tidy;rw [Bool.eq_false_iff];simp only [Form.hd,Bool.and_eq_true,decide_eq_true_eq,ne_eq];rintro ⟨⟨z1,z2⟩,z3⟩
               first | omega | (simp_all;done) | (simp only [z2,z3,Bool.not_true,Bool.false_eq_true,or_false] at *;omega))
      | skip
     go_roundw
     case rel =>
      refine ⟨k+1,by omega,by go_num,hq2.out.alloc (by omega) _,hyes.out ?_⟩
      go_tidy;simp only [Form.hd,Bool.and_eq_true,decide_eq_true_eq];refine ⟨⟨⟨by omega,by omega,by omega⟩,?_⟩,?_⟩
      ·assumption
      ·simp_all
     case measure=>simp [intOf];omega
    ·have hge:m.handlers.length≤k:=by omega
     have hh:m.handlers.all (Form.hd f.classes.length m.code.length)=true:=Form.all_of (fun j hj=>hall.out j hj (by omega))
     have hhd:=Lib.hid (Form.head_rest (nc:=f.classes.length) (most:=most) hpar.out hh);clear hh;clear hel hall;obtain ⟨tr,htr⟩:∃ tr,Hid (Hier.ty f.classes.length ⟨rk,rc⟩=tr):=⟨_,rfl⟩;obtain ⟨rr,hrr⟩:∃ rr,Hid (Form.rng m.code.length 1 (most+1)=rr):=⟨_,rfl⟩
     by_cases d1:m.params.length≤4
     ·have d1':(m.params.length:Int)≤4:=by omega
      have hq:=fun w=>run_eql_ty rk rc 0 0 w;have hg:=fun op x y xs ys w=>run_guard_ty op x y xs ys w
      have hnr:Hid (Form.ret f.classes.length m.ret=(decide (rk=0∧rc=0) || tr)):=by
       show _=_
       rw [← htr.out,← hrk.out,← hrc.out];rfl
      have hrr':Hid (Form.head f.classes.length m most=(true && (decide (rk=0∧rc=0) || tr) && rr && decide (m.handlers.length≤8))):=by
       show _=_
       rw [hhd.out,decide_eq_true d1,hnr.out,hrr.out]
      clear hhd hnr
      cases tr <;> cases rr
      all_goals
       go_wp2_with (first
        | (go_at_call 141;refine (type _ _ _ ⟨rk,rc⟩ _).mono ?_;rw [htr.out];rintro e w1 ⟨rfl,hb1⟩;have y5:=kept hb1 (by omega) c5;have y6:=kept hb1 (by omega) c6)
        | (go_at_call 89;refine (sinV _ _ _ _ _ hrr.out).mono ?_;rintro e w2 ⟨rfl,rfl⟩))
       all_goals go_ret
       all_goals refine ⟨ret_bool ?_,?_⟩
       all_goals first
        | exact hwr
        | exact hwr.trans (hb1.mono (by omega))
        | skip
       all_goals go_tidy
       all_goals rw [hrr'.out]
       all_goals simp_all
       all_goals first | rfl | (intros;omega)
     ·have d1':¬ (m.params.length:Int)≤4:=by omega
      have e1:Hid (Form.head f.classes.length m most=false):=by
       show _=_
       rw [hhd.out,decide_eq_false d1];rfl
      go_wp2_with fail
      go_ret;refine ⟨ret_bool ?_,hwr⟩;go_tidy;rw [e1.out]
end FormW
namespace Drawn
theorem La {α:Type _}(l:List α) (i:Nat) (a:α):l.toArray.setIfInBounds i a=(l.set i a).toArray:=List.setIfInBounds_toArray l i a
theorem Lb {α:Type _}{x:α}{xs:List α}{a:α}:(x :: xs).set 0 a=a :: xs:=rfl
theorem Lc {α:Type _}{x:α}{xs:List α}{i:Nat}{a:α}:(x :: xs).set (i+1) a=x :: xs.set i a:=rfl
variable {P:Program}{ops:Array Oper}{Q:Exit→Act→World→Prop}{md:Region.Mode}{S:World→Prop}
theorem take {i:Nat}{oi:Oper}{d:Option Tmp}{v:Value}{fuel:Nat}{listed:Array Bool}{a:Act}{w:World}(hi:ops[i]? = some oi) (hd:oi.dst=d)
  (hs:Region.noSelect ops=true) (hf:Region.free md ops listed i=true) (hr:(Region.ready md ops listed).contains i=true)
  (hQ:∀ c a w,Q (.panic c) (a.put d v) w→Q (.panic c) a w) (hw:Region.wanted oi (yielded ops a.tmps)=true) (hy:∀ w,S w→(execOp a.eval oi).run P w=.ok (.value v) w) (hS:S w)
  (h:wpAnyH P md ops Q S fuel (listed.setIfInBounds i true) (a.put d v) w):wpAnyH P md ops Q S (fuel+1) listed a w:=by
 subst hd;exact wpAnyH_take hi hs hf hr hQ (Or.inl ⟨hw,hy⟩) hS h
theorem pass {i:Nat}{oi:Oper}{d:Option Tmp}{fuel:Nat}{listed:Array Bool}{a:Act}{w:World}(hi:ops[i]? = some oi) (hd:oi.dst=d)
  (hs:Region.noSelect ops=true) (hf:Region.free md ops listed i=true) (hr:(Region.ready md ops listed).contains i=true)
  (hQ:∀ c a w,Q (.panic c) (a.put d undef) w→Q (.panic c) a w) (hw:Region.wanted oi (yielded ops a.tmps)=false) (hS:S w)
  (h:wpAnyH P md ops Q S fuel (listed.setIfInBounds i true) (a.put d undef) w):wpAnyH P md ops Q S (fuel+1) listed a w:=by
 subst hd;exact wpAnyH_take hi hs hf hr hQ (Or.inr ⟨hw,rfl⟩) hS h
theorem tk (i:Nat) (d:Option Tmp){oi:Oper}{v:Value}{fuel:Nat}{listed:Array Bool}{a:Act}{w:World}(hi:ops[i]? = some oi) (hd:oi.dst=d) (hS:S w)
  (h:wpAnyH P md ops Q S fuel (listed.setIfInBounds i true) (a.put d v) w)
  (hs:Region.noSelect ops=true:=by kernel_rfl) (hf:Region.free md ops listed i=true:=by kernel_rfl) (hr:(Region.ready md ops listed).contains i=true:=by kernel_rfl)
  (hy:∀ w,S w→(execOp a.eval oi).run P w=.ok (.value v) w:=by (intro w hSw;(try dsimp only at hSw);go_simp;try with_reducible rfl))
  (hQ:∀ c a w,Q (.panic c) (a.put d v) w→Q (.panic c) a w:=by exact fun _ _ _ h=>h) (hw:Region.wanted oi (yielded ops a.tmps)=true:=by rfl):wpAnyH P md ops Q S (fuel+1) listed a w :=
 take hi hd hs hf hr hQ hw hy hS h
theorem ps (i:Nat) (d:Option Tmp){oi:Oper}{fuel:Nat}{listed:Array Bool}{a:Act}{w:World}(hi:ops[i]? = some oi) (hd:oi.dst=d) (hS:S w)
  (h:wpAnyH P md ops Q S fuel (listed.setIfInBounds i true) (a.put d undef) w)
  (hs:Region.noSelect ops=true:=by kernel_rfl) (hf:Region.free md ops listed i=true:=by kernel_rfl) (hr:(Region.ready md ops listed).contains i=true:=by kernel_rfl)
  (hQ:∀ c a w,Q (.panic c) (a.put d undef) w→Q (.panic c) a w:=by exact fun _ _ _ h=>h) (hw:Region.wanted oi (yielded ops a.tmps)=false:=by rfl):wpAnyH P md ops Q S (fuel+1) listed a w :=
 pass hi hd hs hf hr hQ hw hS h
theorem T (i:Nat) (d:Option Tmp){oi:Oper}{v:Value}{fuel:Nat}{listed:Array Bool}{a a':Act}{w:World}(hi:ops[i]? = some oi:=by exact rfl) (hd:oi.dst=d:=by exact rfl) (hS:S w:=by assumption)
  (hs:Region.noSelect ops=true:=by kernel_rfl) (hf:Region.free md ops listed i=true:=by kernel_rfl) (hr:(Region.ready md ops listed).contains i=true:=by kernel_rfl)
  (hy:∀ w,S w→(execOp a.eval oi).run P w=.ok (.value v) w:=by (intro w hSw;(try dsimp only at hSw);go_simp;try with_reducible rfl))
  (hQ:∀ c a w,Q (.panic c) (a.put d v) w→Q (.panic c) a w:=by exact fun _ _ _ h=>h) (hw:Region.wanted oi (yielded ops a.tmps)=true:=by rfl)
  (ha:a.put d v=a':=by ((try simp only [Act.put,Go.Proofs.Ytncmhenfgbcihab.Drawn.La,Go.Proofs.Ytncmhenfgbcihab.Drawn.Lb,Go.Proofs.Ytncmhenfgbcihab.Drawn.Lc]);try exact rfl))
  (h:wpAnyH P md ops Q S fuel (listed.setIfInBounds i true) a' w):wpAnyH P md ops Q S (fuel+1) listed a w:=by
 subst ha;exact take hi hd hs hf hr hQ hw hy hS h
theorem cl (i:Nat){o:Oper}{fuel:Nat}{listed:Array Bool}{a:Act}{w:World}
  (h:∀ K':Act→World→Prop,Shut (∀ a w,S w→(S w→wpAnyH P md ops Q S fuel (listed.setIfInBounds i true) a w)→K' a w)→if Region.wanted o (yielded ops a.tmps)=true then Oper.wp P o a w K' Q else K' (a.put o.dst undef) w)
  (ho:ops[i]? = some o:=by exact rfl) (hr:Region.ready md ops listed=[i]:=by kernel_rfl):wpAnyH P md ops Q S (fuel+1) listed a w :=
 wpAnyH_ready hr (by simp) (AllReadyH.cons ho h AllReadyH.nil)
theorem bk {K':Act→World→Prop}{fuel:Nat}{l:Array Bool}{a a':Act}{w:World}(hK:Shut (∀ a w,S w→(S w→wpAnyH P md ops Q S fuel l a w)→K' a w)) (hS:S w:=by ((try dsimp only);(repeat' refine And.intro ?_ ?_) <;> go_simp))
  (ha:a=a':=by ((try simp only [Act.put,Go.Proofs.Ytncmhenfgbcihab.Drawn.La,Go.Proofs.Ytncmhenfgbcihab.Drawn.Lb,Go.Proofs.Ytncmhenfgbcihab.Drawn.Lc]);try exact rfl))
  (h:S w→wpAnyH P md ops Q S fuel l a' w):K' a w:=by
 subst ha;exact hK.out _ _ hS h
theorem hd (S:World→Prop){id:Nat}{a:Act}{w:World}(hS:S w.drew:=by ((try dsimp only);(repeat' refine And.intro ?_ ?_) <;> go_simp)) (hm:P.follows .mixedOrders=true:=by kernel_rfl)
  (h:S w.drew→wpAnyH P .any ops Q S ops.size (Array.replicate ops.size false) a w.drew):(Code.region id ops true).wp P Q a w :=
 wp_region_held_drew hm hS h
end Drawn
section
variable {P:Program}{ops:Array Oper}{Q:Exit→Act→World→Prop}{md:Region.Mode}{S:World→Prop}
theorem dT (i n:Nat){oi:Oper}{v:Value}{fuel:Nat}{listed:Array Bool}{a a':Act}{w:World}(h:wpAnyH P md ops Q S fuel (listed.setIfInBounds i true) a' w)
  (hi:ops[i]? = some oi:=by exact rfl) (hd:oi.dst=some n:=by exact rfl) (hS:S w:=by assumption)
  (hs:Region.noSelect ops=true:=by kernel_rfl) (hf:Region.free md ops listed i=true:=by kernel_rfl) (hr:(Region.ready md ops listed).contains i=true:=by kernel_rfl)
  (hy:∀ w,S w→(execOp a.eval oi).run P w=.ok (.value v) w:=by (intro w hSw;(try dsimp only at hSw);go_simp;try with_reducible rfl))
  (hQ:∀ c a w,Q (.panic c) (a.put (some n) v) w→Q (.panic c) a w:=by exact fun _ _ _ h=>h) (hw:Region.wanted oi (yielded ops a.tmps)=true:=by rfl)
  (ha:a.put (some n) v=a':=by ((try simp only [Act.put,Go.Proofs.Ytncmhenfgbcihab.Drawn.La,Go.Proofs.Ytncmhenfgbcihab.Drawn.Lb,Go.Proofs.Ytncmhenfgbcihab.Drawn.Lc]);try exact rfl)):wpAnyH P md ops Q S (fuel+1) listed a w:=by
 subst ha;exact Drawn.take hi hd hs hf hr hQ hw hy hS h
theorem dS (i n:Nat){oi:Oper}{fuel:Nat}{listed:Array Bool}{a a':Act}{w:World}(h:wpAnyH P md ops Q S fuel (listed.setIfInBounds i true) a' w)
  (hi:ops[i]? = some oi:=by exact rfl) (hd:oi.dst=some n:=by exact rfl) (hS:S w:=by assumption)
  (hs:Region.noSelect ops=true:=by kernel_rfl) (hf:Region.free md ops listed i=true:=by kernel_rfl) (hr:(Region.ready md ops listed).contains i=true:=by kernel_rfl)
  (hQ:∀ c a w,Q (.panic c) (a.put (some n) undef) w→Q (.panic c) a w:=by exact fun _ _ _ h=>h) (hw:Region.wanted oi (yielded ops a.tmps)=false:=by rfl)
  (ha:a.put (some n) undef=a':=by ((try simp only [Act.put,Go.Proofs.Ytncmhenfgbcihab.Drawn.La,Go.Proofs.Ytncmhenfgbcihab.Drawn.Lb,Go.Proofs.Ytncmhenfgbcihab.Drawn.Lc]);try exact rfl)):wpAnyH P md ops Q S (fuel+1) listed a w:=by
 subst ha;exact Drawn.pass hi hd hs hf hr hQ hw hS h
theorem dN {fuel:Nat}{listed:Array Bool}{a:Act}{w:World}(h:Q .normal a w) (hr:Region.ready md ops listed=[]:=by kernel_rfl):wpAnyH P md ops Q S fuel listed a w:=wpAnyH_done hr h fuel
end
namespace FormR
open Num Rd D HierW FormW
theorem head_len {nc:Int}{m:Me}{most:Int}(h:4 < m.params.length∨8 < m.handlers.length∨within m.code.length 1 most=false):Form.head nc m most=false:=by
 rw [within_rng] at h;rw [Bool.eq_false_iff]
 intro h'
 simp only [Form.head,Bool.and_eq_true,decide_eq_true_eq] at h';obtain ⟨⟨⟨⟨⟨_,_⟩,h1⟩,_⟩,h2⟩,h3⟩:=h'
 rcases h with h | h | h
 ·omega
 ·omega
 ·rw [h] at h2;cases h2
theorem rtypeV (a:Option Addr) (n cap:Nat) (t:Ty) (p:Bool) (w:World) (hp:Hier.ty n t=p):Calls Try.prog 98 #[.slice a n cap,.agg #[.int .i64 t.kind,.int .i64 t.cls]] w fun e w'=>e=.returned (.bool p)∧Below w.heap.size w w':=by
 subst hp;exact rtype a n cap t w
set_option maxRecDepth 100000 in
theorem head (f:Fi) (m:Me) (most:Int) (vf vm:Value) (w:World) (hf:VFi w w.heap.size vf f) (hm:VMe w w.heap.size vm m) (hmost:0≤most∧most≤100000) :
  Calls Try.prog 51 #[vf,vm,.int .i64 most] w fun e w'=>e=.returned (.bool (Form.head f.classes.length m most))∧Below w.heap.size w w':=by
 obtain ⟨vc,vme,rfl,⟨ca,ccap,rfl,clc,ccc,_⟩,⟨ma,mcap,rfl,mlc,mcc,_⟩⟩:=hf;obtain ⟨vp,vcd,vh,rfl,⟨ok1,ok2,_,_,_⟩,⟨pa,pcap,rfl,plc,pcc,pel⟩,⟨da,dcap,rfl,dlc,dcc,_⟩,⟨ha,hcap,rfl,hlc,hcc,hel⟩⟩:=hm;obtain ⟨most1,most2⟩:=hmost;unfold Ok at ok1 ok2;obtain ⟨rk,hrk⟩:∃ rk,Hid (m.ret.kind=rk):=⟨_,rfl⟩;obtain ⟨rc,hrc⟩:∃ rc,Hid (m.ret.cls=rc):=⟨_,rfl⟩;rw [hrk.out] at ok1;rw [hrc.out] at ok2;rw [hrk.out,hrc.out];obtain ⟨rr,hrr⟩:∃ rr,Hid (within m.code.length 1 most=rr):=⟨_,rfl⟩;have hlen:=Lib.hid (head_len (nc:=f.classes.length) (m:=m) (most:=most))
 by_cases d1:4 < m.params.length
 ·have e1:=Lib.hid (hlen.out (.inl d1));have d1':(4:Int) < m.params.length:=by omega
  go_enter Try.func51,Try.ntmps51
  go_wp2_with fail
  go_ret;exact ⟨ret_bool e1.out.symm,Rd.byB⟩
 by_cases d2:8 < m.handlers.length
 ·have e1:=Lib.hid (hlen.out (.inr (.inl d2)));have d2':(8:Int) < m.handlers.length:=by omega
  have d1':¬ (4:Int) < m.params.length:=by omega
  go_enter Try.func51,Try.ntmps51
  go_wp2_with fail
  go_ret;exact ⟨ret_bool e1.out.symm,Rd.byB⟩
 have d1':¬ (4:Int) < m.params.length:=by omega
 have d2':¬ (8:Int) < m.handlers.length:=by omega
 have D1:=Lib.hid d1;have D2:=Lib.hid d2;clear d1 d2
 cases rr
 ·have e1:=Lib.hid (hlen.out (.inr (.inr hrr.out)))
  go_enter Try.func51,Try.ntmps51
  go_wp2_with (go_at_call 50;refine (wiV _ _ _ _ _ hrr.out).mono ?_;rintro e w1 ⟨rfl,rfl⟩)
  go_ret;exact ⟨ret_bool e1.out.symm,Rd.byB⟩
 go_enter Try.func51,Try.ntmps51
 go_wp2_with (go_at_call 50;refine (wiV _ _ _ _ _ hrr.out).mono ?_;rintro e w1 ⟨rfl,rfl⟩)
 refine name_world (fun W=>Below w.heap.size w W∧w.heap.size+2≤W.heap.size ∧
  (W.cell? ⟨w.heap.size,0,none⟩=some (.slice ca f.classes.length ccap)∧W.cell? ⟨w.heap.size,1,none⟩=some (.slice ma f.methods.length mcap)) ∧
  W.cell? ⟨w.heap.size+1,0,none⟩=some (.slice pa m.params.length pcap)∧W.cell? ⟨w.heap.size+1,1,none⟩=some (.int .i64 rk)∧W.cell? ⟨w.heap.size+1,2,none⟩=some (.int .i64 rc)∧W.cell? ⟨w.heap.size+1,6,none⟩=some (.slice da m.code.length dcap)∧W.cell? ⟨w.heap.size+1,7,none⟩=some (.slice ha m.handlers.length hcap))
  ?_ ?_
 ·refine ⟨Rd.byB,?_,⟨?_,?_⟩,?_,?_,?_,?_,?_⟩
  all_goals go_simp
 rintro W ⟨hbw,hsz,⟨f1,f2⟩,m0,m1,m2,m6,m7⟩;have hbs:=hbw.size;have hbW:=Lib.hid hbw
 go_loopw [7] (fun i wr=>∃ k:Nat,k≤m.params.length∧i=.int .i64 k∧Below W.heap.size W wr∧Hid (∀ j (h:j < m.params.length),j < k→Hier.ty f.classes.length m.params[j]=true)) (fun i _=>m.params.length - (intOf i).toNat)
 case atStart=>exact ⟨0,by omega,rfl,Below.refl _ _,fun j _ h=>absurd h (by omega)⟩
 case round =>
  obtain ⟨k,hk,rfl,hr,hall⟩:=hrel;have hrs:=hr.size;have n1:w.heap.size < wr.heap.size:=by omega
  have n2:w.heap.size+1 < wr.heap.size:=by omega
  have a1:=kept hr (by omega) f1
  have a2:=kept hr (by omega) m0
  have a3:=kept hr (by omega) m1
  have a4:=kept hr (by omega) m2
  have a5:=kept hr (by omega) m6
  have a6:=kept hr (by omega) m7
  by_cases hlt:k < m.params.length
  ·obtain ⟨b,o,rfl,hb,he⟩:=pel k hlt;have hyes:=Lib.hid (Form.all_step (p:=Hier.ty f.classes.length) hall.out hlt);have hno:=Lib.hid (Form.head_param (nc:=f.classes.length) (most:=most) hlt);obtain ⟨t,ht⟩:=at_of hlt;rw [ht.out] at he hyes hno;obtain ⟨g1,g2,_,_⟩:=he;have hwr:Below w.heap.size w wr:=hbw.trans (hr.mono hbs);have k1:=kept hwr hb g1;have k2:=kept hwr hb g2;have hltI:(k:Int) < m.params.length:=by omega
   clear pel g1 g2 hel f1 f2 m0 m1 m2 m6 m7 a3 a4 a5 a6;obtain ⟨tb,htb⟩:∃ tb,Hid (Hier.ty f.classes.length t=tb):=⟨_,rfl⟩
   go_wp2_with fail
   refine Drawn.hd (fun w'=>w'.cell? ⟨w.heap.size,0,none⟩=some (.slice ca f.classes.length ccap)∧w'.cell? ⟨w.heap.size+1,0,none⟩=some (.slice (some ⟨b,o,none⟩) m.params.length pcap)∧w'.cell? ⟨b,o+k*2,none⟩=some (.int .i64 t.kind)∧w'.cell? ⟨b,o+k*2+1,none⟩=some (.int .i64 t.cls)) (hS:=by (try dsimp only);first | exact ⟨a1,a2,k1,k2⟩ | go_keep) (h:=fun hHeld=>?_)
   refine dT 0 35 ?_;refine dT 1 36 ?_;refine dT 2 37 ?_;refine dT 3 38 ?_;refine dT 4 39 ?_;refine dT 5 40 ?_;refine dT 6 41 ?_;refine Drawn.cl 7 (fun K hK=>?_);go_simp
   go_at_call 98
   refine (rtypeV _ _ _ t tb _ htb.out).mono ?_;rintro e w2 ⟨rfl,hb2⟩;have hb3:Below wr.heap.size wr w2:=Below.trans Rd.byB (hb2.mono (by simp))
   have b1:=kept hb3 (by omega) a1
   have b2:=kept hb3 (by omega) a2
   have b3:=kept hb3 (by omega) k1
   have b4:=kept hb3 (by omega) k2
   go_wp2_with fail
   refine Drawn.bk hK (hS:=by (try dsimp only);exact ⟨b1,b2,b3,b4⟩) (h:=fun hHeld=>?_)
   clear hK K;refine dT 8 43 ?_;refine dN ?_
   cases tb
   ·go_wp2_with fail
    go_ret;exact ⟨ret_bool (hno.out htb.out).symm,hwr.trans (hb3.mono (by omega))⟩
   ·go_wp2_with fail
    go_roundw
    case rel=>exact ⟨k+1,by omega,by go_num,hr.trans (hb3.mono (by omega)),hyes.out htb.out⟩
    case measure=>simp [intOf];omega
  ·obtain ⟨wo,rfl⟩:∃ wo:World,wo=wr:=⟨_,rfl⟩;have hpar:=Lib.hid (Form.all_of (fun j hj=>hall.out j hj (by omega)))
   have hwo:Below w.heap.size w wo:=hbw.trans (hr.mono hbs);clear pel hall f1 f2 m0 m1 m2 m6 m7;have hge:¬ (k:Int) < m.params.length:=by omega
   go_wp2_with fail
   have hcode:1≤m.code.length∧(m.code.length:Int)≤100000:=by
    have h:=hrr.out;simp only [within,decide_eq_true_eq] at h;omega
   obtain ⟨hc1,hc2⟩:=hcode
   go_loopw [8] (fun i wr=>∃ k:Nat,k≤m.handlers.length∧i=.int .i64 k∧Below wo.heap.size wo wr∧Hid (∀ j (h:j < m.handlers.length),j < k→Form.hd f.classes.length m.code.length m.handlers[j]=true)) (fun i _=>m.handlers.length - (intOf i).toNat)
   case atStart=>exact ⟨0,by omega,rfl,Below.refl _ _,fun j _ h=>absurd h (by omega)⟩
   case round =>
    obtain ⟨k,hk,rfl,hq,hall⟩:=hrel;have hqs:=hq.size;have n3:w.heap.size < wr.heap.size:=by omega
    have n4:w.heap.size+1 < wr.heap.size:=by omega
    have c1:=kept hq (by omega) a1
    have c2:=kept hq (by omega) a2
    have c3:=kept hq (by omega) a3
    have c4:=kept hq (by omega) a4
    have c5:=kept hq (by omega) a5
    have c6:=kept hq (by omega) a6
    clear a1 a2 a3 a4 a5 a6;have hwr:Below w.heap.size w wr:=hwo.trans (hq.mono (by omega))
    by_cases hlt:k < m.handlers.length
    ·obtain ⟨b,o,rfl,hb,he⟩:=hel k hlt;have hyes:=Lib.hid (Form.all_step (p:=Form.hd f.classes.length m.code.length) hall.out hlt);have hno:=Lib.hid (Form.head_hd (nc:=f.classes.length) (most:=most) hlt);obtain ⟨t,ht⟩:=at_of hlt;rw [ht.out] at he hyes hno;obtain ⟨g1,g2,g3,g4,_⟩:=he;have k1:=kept hwr hb g1;have k2:=kept hwr hb g2;have k3:=kept hwr hb g3;have k4:=kept hwr hb g4;obtain ⟨lo,hi,go,cl⟩:=t;simp only at k1 k2 k3 k4;clear hel g1 g2 g3 g4 c2 c3 c4;have hq2:=Lib.hid hq;have hwr2:=Lib.hid hwr
     go_wp2_with (go_at_call 50;refine (wi _ _ _ _).mono ?_;rintro e w1 ⟨rfl,rfl⟩)
     all_goals first
      | (
               go_ret;refine ⟨ret_bool (hno.out ?_).symm,Rd.byB⟩;go_tidy;rw [Bool.eq_false_iff];simp only [Form.hd,Bool.and_eq_true,decide_eq_true_eq,ne_eq];rintro ⟨⟨z1,z2⟩,z3⟩
               first | omega | (simp_all [within_rng];done) | (simp only [within_rng,z2,z3,Bool.not_true,Bool.false_eq_true,or_false,Int.sub_add_cancel] at *;omega))
      | skip
     go_roundw
     case rel =>
      refine ⟨k+1,by omega,by go_num,hq2.out.alloc (by omega) _,hyes.out ?_⟩
      go_tidy;simp only [Form.hd,Bool.and_eq_true,decide_eq_true_eq];refine ⟨⟨⟨by omega,by omega,by omega⟩,?_⟩,?_⟩
      ·simp_all [within_rng]
      ·simp_all [within_rng]
     case measure=>simp [intOf];omega
    ·have hge:m.handlers.length≤k:=by omega
     have hh:m.handlers.all (Form.hd f.classes.length m.code.length)=true:=Form.all_of (fun j hj=>hall.out j hj (by omega))
     have hhd:=Lib.hid (Form.head_rest (nc:=f.classes.length) (most:=most) hpar.out hh);clear hh;clear hel hall;obtain ⟨tr,htr⟩:∃ tr,Hid (Hier.ty f.classes.length ⟨rk,rc⟩=tr):=⟨_,rfl⟩
     have hnr:Hid (Form.head f.classes.length m most=(decide (rk=0∧rc=0) || tr)):=by
      show _=_
      have h1:=hrr.out;rw [within_rng] at h1;have h2:=D1.out;have h3:=D2.out;rw [hhd.out,decide_eq_true (by omega),decide_eq_true (by omega),h1,← htr.out,← hrk.out,← hrc.out]
      simp [Form.ret]
     by_cases hz:rk=0
     ·subst hz
      by_cases hz2:rc=0
      ·subst hz2
       go_wp2_with fail
       go_ret;exact ⟨ret_bool (by rw [hnr.out];simp),hwr⟩
      ·go_wp2_with (go_at_call 98;refine (rtypeV _ _ _ ⟨0,rc⟩ tr _ htr.out).mono ?_;rintro e w1 ⟨rfl,hb1⟩)
       go_ret;exact ⟨ret_bool (by rw [hnr.out];simp [hz2]),hwr.trans (hb1.mono (by omega))⟩
     ·go_wp2_with (go_at_call 98;refine (rtypeV _ _ _ ⟨rk,rc⟩ tr _ htr.out).mono ?_;rintro e w1 ⟨rfl,hb1⟩)
      go_ret;exact ⟨ret_bool (by rw [hnr.out];simp [hz]),hwr.trans (hb1.mono (by omega))⟩
end FormR
namespace Rform
open D Num Go.Proofs.Ytncmhenfgbcihab.Form
def reg (regs n kind:Int):Bool:=rng n 0 (regs+1 - wide kind)
def fk (cl:List Cls) (c n:Int):Int:=((Hier.at' cl c.toNat).fields.getD n.toNat ⟨0,0⟩).kind
def regsOk (regs:Int) (ps:List Ty) (xs:List Int):Bool:=(List.range ps.length).all fun k=>reg regs (xs.getD k 0) (ps.getD k ⟨0,0⟩).kind
def mAt (ms:List Me) (k:Int):List Ty:=((ms.map (·.params)).getD k.toNat [])
def num (i:Ins):Bool :=
 if i.op=1 then decide (wrap32 i.n=i.n) else if i.op=2 then true else if i.op=5∨i.op=6 then rng i.n 1 9
 else if i.op=14∨i.op=15 then true else decide (i.n=0)
def body (cl:List Cls) (ms:List Me) (ncode regs retk:Int) (i:Ins):Bool :=
 if i.op=1 then reg regs i.a 1 && decide (i.b=0) && decide (i.c=0)
 else if i.op=2∨i.op=24 then reg regs i.a 2 && decide (i.b=0) && decide (i.c=0)
 else if i.op=3∨i.op=21∨i.op=22 then reg regs i.a 3 && decide (i.b=0) && decide (i.c=0)
 else if i.op=4 then rng i.c 1 4 && (reg regs i.a i.c && reg regs i.b i.c)
 else if i.op=5 then reg regs i.a 1 && (reg regs i.b 1 && reg regs i.c 1)
 else if i.op=6 then reg regs i.a 2 && (reg regs i.b 2 && reg regs i.c 2)
 else if i.op=7 then reg regs i.a 2 && reg regs i.b 1 && decide (i.c=0)
 else if i.op=8 then reg regs i.a 1 && reg regs i.b 2 && decide (i.c=0)
 else if i.op=9 then reg regs i.a 1 && (reg regs i.b 2 && reg regs i.c 2)
 else if i.op=10 then rng i.a 0 ncode && decide (i.b=0) && decide (i.c=0)
 else if i.op=11 then rng i.a 0 ncode && rng i.b 1 5 && reg regs i.c 1
 else if i.op=12 then rng i.a 0 ncode && decide (i.b=0) && reg regs i.c 3
 else if i.op=13∨i.op=16 then reg regs i.a 3 && rng i.b 0 cl.length && decide (i.c=0)
 else if i.op=14∨i.op=15 then rng i.c 0 cl.length && rng i.n 0 (nf cl i.c) && reg regs i.a (fk cl i.c i.n) && reg regs i.b 3
 else if i.op=17 then reg regs i.a 1 && reg regs i.b 1 && rng i.c 0 cl.length
 else if i.op=18 then rng i.a 0 ms.length && decide (i.args.length=(mAt ms i.a).length) && regsOk regs (mAt ms i.a) i.args && decide (i.b=0) && decide (i.c=0)
 else if i.op=19 then rng i.b 1 4 && reg regs i.a i.b && decide (i.c=0)
 else if i.op=23 then rng i.b 1 3 && reg regs i.a i.b && decide (i.c=0)
 else if i.op=20 then decide (i.b=0) && decide (i.c=0) && (if retk=0 then decide (i.a=0) else reg regs i.a retk)
 else false
def ins (f:Fi) (m:Me) (i:Ins):Bool :=
 (decide (i.op=18) || decide (i.args.length=0)) && body f.classes f.methods m.code.length m.regs m.ret.kind i && num i
def rme (f:Fi) (m:Me):Bool :=
 head f.classes.length m 2400 && decide (m.stack=0) && decide (m.locals=0) && rng m.regs (max 1 (slots m.params:Nat)) 91 && m.code.all (ins f m)
def rmay (f:Fi):Bool:=Hier.may f.classes && rng f.methods.length 1 9 && f.methods.all (rme f)
def kinds (op:Int):Option (Int × Int × Int) :=
 if op=1 then some (1,0,0) else if op=2∨op=24 then some (2,0,0) else if op=3∨op=21∨op=22 then some (3,0,0)
 else if op=5 then some (1,1,1) else if op=6 then some (2,2,2) else if op=7 then some (2,1,0) else if op=8 then some (1,2,0) else if op=9 then some (1,2,2)
 else if op=10 then some (-1,0,0) else if op=11 then some (-1,-1,1) else if op=12 then some (-1,0,3) else if op=13∨op=16 then some (3,-1,0)
 else if op=14∨op=15 then some (-1,3,-1) else if op=17 then some (1,3,-1) else if op=18∨op=20 then some (-1,0,0) else if op=19∨op=23 then some (-1,-1,0)
 else if op=4 then some (-1,-1,-1) else none
def fok (regs kind n:Int):Bool:=if kind=0 then decide (n=0) else if 0 < kind then reg regs n kind else true
end Rform
namespace Rform
open D Num Go.Proofs.Ytncmhenfgbcihab.Form
theorem ins_none {f:Fi}{m:Me}{i:Ins}(h:kinds i.op=none):ins f m i=false:=by
 obtain ⟨op,a,b,c,n,args⟩:=i;simp only at h
 by_cases h1:op=1
 ·subst h1;simp [kinds] at h
 by_cases h2:op=2
 ·subst h2;simp [kinds] at h
 by_cases h3:op=3
 ·subst h3;simp [kinds] at h
 by_cases h4:op=4
 ·subst h4;simp [kinds] at h
 by_cases h5:op=5
 ·subst h5;simp [kinds] at h
 by_cases h6:op=6
 ·subst h6;simp [kinds] at h
 by_cases h7:op=7
 ·subst h7;simp [kinds] at h
 by_cases h8:op=8
 ·subst h8;simp [kinds] at h
 by_cases h9:op=9
 ·subst h9;simp [kinds] at h
 by_cases h10:op=10
 ·subst h10;simp [kinds] at h
 by_cases h11:op=11
 ·subst h11;simp [kinds] at h
 by_cases h12:op=12
 ·subst h12;simp [kinds] at h
 by_cases h13:op=13
 ·subst h13;simp [kinds] at h
 by_cases h14:op=14
 ·subst h14;simp [kinds] at h
 by_cases h15:op=15
 ·subst h15;simp [kinds] at h
 by_cases h16:op=16
 ·subst h16;simp [kinds] at h
 by_cases h17:op=17
 ·subst h17;simp [kinds] at h
 by_cases h18:op=18
 ·subst h18;simp [kinds] at h
 by_cases h19:op=19
 ·subst h19;simp [kinds] at h
 by_cases h20:op=20
 ·subst h20;simp [kinds] at h
 by_cases h21:op=21
 ·subst h21;simp [kinds] at h
 by_cases h22:op=22
 ·subst h22;simp [kinds] at h
 by_cases h23:op=23
 ·subst h23;simp [kinds] at h
 by_cases h24:op=24
 ·subst h24;simp [kinds] at h
 have hb:body f.classes f.methods m.code.length m.regs m.ret.kind ⟨op,a,b,c,n,args⟩=false:=by
  unfold body;simp only
  repeat rw [if_neg (by omega)]
 simp [ins,hb]
theorem reg_13 (regs n:Int):reg regs n 1=reg regs n 3:=rfl
theorem ins_fok {f:Fi}{m:Me}{i:Ins}{k0 k1 k2:Int}(h:kinds i.op=some (k0,k1,k2)) (hf:fok m.regs k0 i.a=false∨fok m.regs k1 i.b=false∨fok m.regs k2 i.c=false):ins f m i=false:=by
 obtain ⟨op,a,b,c,n,args⟩:=i;simp only at h hf
 by_cases h1:op=1
 ·subst h1;simp [kinds] at h;obtain ⟨rfl,rfl,rfl⟩:=h
  rcases hf with hf | hf | hf <;> simp [fok] at hf <;> simp [ins,body,hf,reg_13]
 by_cases h2:op=2
 ·subst h2;simp [kinds] at h;obtain ⟨rfl,rfl,rfl⟩:=h
  rcases hf with hf | hf | hf <;> simp [fok] at hf <;> simp [ins,body,hf,reg_13]
 by_cases h3:op=3
 ·subst h3;simp [kinds] at h;obtain ⟨rfl,rfl,rfl⟩:=h
  rcases hf with hf | hf | hf <;> simp [fok] at hf <;> simp [ins,body,hf,reg_13]
 by_cases h4:op=4
 ·subst h4;simp [kinds] at h;obtain ⟨rfl,rfl,rfl⟩:=h
  rcases hf with hf | hf | hf <;> simp [fok] at hf <;> simp [ins,body,hf,reg_13]
 by_cases h5:op=5
 ·subst h5;simp [kinds] at h;obtain ⟨rfl,rfl,rfl⟩:=h
  rcases hf with hf | hf | hf <;> simp [fok] at hf <;> simp [ins,body,hf,reg_13]
 by_cases h6:op=6
 ·subst h6;simp [kinds] at h;obtain ⟨rfl,rfl,rfl⟩:=h
  rcases hf with hf | hf | hf <;> simp [fok] at hf <;> simp [ins,body,hf,reg_13]
 by_cases h7:op=7
 ·subst h7;simp [kinds] at h;obtain ⟨rfl,rfl,rfl⟩:=h
  rcases hf with hf | hf | hf <;> simp [fok] at hf <;> simp [ins,body,hf,reg_13]
 by_cases h8:op=8
 ·subst h8;simp [kinds] at h;obtain ⟨rfl,rfl,rfl⟩:=h
  rcases hf with hf | hf | hf <;> simp [fok] at hf <;> simp [ins,body,hf,reg_13]
 by_cases h9:op=9
 ·subst h9;simp [kinds] at h;obtain ⟨rfl,rfl,rfl⟩:=h
  rcases hf with hf | hf | hf <;> simp [fok] at hf <;> simp [ins,body,hf,reg_13]
 by_cases h10:op=10
 ·subst h10;simp [kinds] at h;obtain ⟨rfl,rfl,rfl⟩:=h
  rcases hf with hf | hf | hf <;> simp [fok] at hf <;> simp [ins,body,hf,reg_13]
 by_cases h11:op=11
 ·subst h11;simp [kinds] at h;obtain ⟨rfl,rfl,rfl⟩:=h
  rcases hf with hf | hf | hf <;> simp [fok] at hf <;> simp [ins,body,hf,reg_13]
 by_cases h12:op=12
 ·subst h12;simp [kinds] at h;obtain ⟨rfl,rfl,rfl⟩:=h
  rcases hf with hf | hf | hf <;> simp [fok] at hf <;> simp [ins,body,hf,reg_13]
 by_cases h13:op=13
 ·subst h13;simp [kinds] at h;obtain ⟨rfl,rfl,rfl⟩:=h
  rcases hf with hf | hf | hf <;> simp [fok] at hf <;> simp [ins,body,hf,reg_13]
 by_cases h14:op=14
 ·subst h14;simp [kinds] at h;obtain ⟨rfl,rfl,rfl⟩:=h
  rcases hf with hf | hf | hf <;> simp [fok] at hf <;> simp [ins,body,hf,reg_13]
 by_cases h15:op=15
 ·subst h15;simp [kinds] at h;obtain ⟨rfl,rfl,rfl⟩:=h
  rcases hf with hf | hf | hf <;> simp [fok] at hf <;> simp [ins,body,hf,reg_13]
 by_cases h16:op=16
 ·subst h16;simp [kinds] at h;obtain ⟨rfl,rfl,rfl⟩:=h
  rcases hf with hf | hf | hf <;> simp [fok] at hf <;> simp [ins,body,hf,reg_13]
 by_cases h17:op=17
 ·subst h17;simp [kinds] at h;obtain ⟨rfl,rfl,rfl⟩:=h
  rcases hf with hf | hf | hf <;> simp [fok] at hf <;> simp [ins,body,hf,reg_13]
 by_cases h18:op=18
 ·subst h18;simp [kinds] at h;obtain ⟨rfl,rfl,rfl⟩:=h
  rcases hf with hf | hf | hf <;> simp [fok] at hf <;> simp [ins,body,hf,reg_13]
 by_cases h19:op=19
 ·subst h19;simp [kinds] at h;obtain ⟨rfl,rfl,rfl⟩:=h
  rcases hf with hf | hf | hf <;> simp [fok] at hf <;> simp [ins,body,hf,reg_13]
 by_cases h20:op=20
 ·subst h20;simp [kinds] at h;obtain ⟨rfl,rfl,rfl⟩:=h
  rcases hf with hf | hf | hf <;> simp [fok] at hf <;> simp [ins,body,hf,reg_13]
 by_cases h21:op=21
 ·subst h21;simp [kinds] at h;obtain ⟨rfl,rfl,rfl⟩:=h
  rcases hf with hf | hf | hf <;> simp [fok] at hf <;> simp [ins,body,hf,reg_13]
 by_cases h22:op=22
 ·subst h22;simp [kinds] at h;obtain ⟨rfl,rfl,rfl⟩:=h
  rcases hf with hf | hf | hf <;> simp [fok] at hf <;> simp [ins,body,hf,reg_13]
 by_cases h23:op=23
 ·subst h23;simp [kinds] at h;obtain ⟨rfl,rfl,rfl⟩:=h
  rcases hf with hf | hf | hf <;> simp [fok] at hf <;> simp [ins,body,hf,reg_13]
 by_cases h24:op=24
 ·subst h24;simp [kinds] at h;obtain ⟨rfl,rfl,rfl⟩:=h
  rcases hf with hf | hf | hf <;> simp [fok] at hf <;> simp [ins,body,hf,reg_13]
 exfalso;unfold kinds at h
 repeat rw [if_neg (by omega)] at h
 cases h
end Rform
namespace RefG
open Num Rd D HierW FormW FormR
def Named (w:World) (op:Int) (e:Ending) (w':World):Prop :=
 Below w.heap.size w w'∧((Rform.kinds op=none∧e=.returned (.tuple #[.slice none 0 0,.bool false])) ∨
  ∃ k0 k1 k2 n,Rform.kinds op=some (k0,k1,k2)∧e=.returned (.tuple #[.slice (some ⟨n,0,none⟩) 3 3,.bool true])∧w.heap.size≤n ∧
   w'.cell? ⟨n,0,none⟩=some (.int .i64 k0)∧w'.cell? ⟨n,1,none⟩=some (.int .i64 k1)∧w'.cell? ⟨n,2,none⟩=some (.int .i64 k2))
theorem named_mk {w w':World}{op k0 k1 k2:Int}{n:Nat}{e:Ending}(hb:Below w.heap.size w w') (hk:Rform.kinds op=some (k0,k1,k2)) (he:e=.returned (.tuple #[.slice (some ⟨n,0,none⟩) 3 3,.bool true])) (hn:w.heap.size≤n)
  (h0:w'.cell? ⟨n,0,none⟩=some (.int .i64 k0)) (h1:w'.cell? ⟨n,1,none⟩=some (.int .i64 k1)) (h2:w'.cell? ⟨n,2,none⟩=some (.int .i64 k2)):Named w op e w':=⟨hb,.inr ⟨k0,k1,k2,n,hk,he,hn,h0,h1,h2⟩⟩
theorem named1 (w:World):Calls Try.prog 114 #[.int .i64 1] w (Named w 1):=by
 go_enter Try.func114,Try.ntmps114
 go_wp2
 go_ret2
 refine named_mk (n:=w.heap.size) (k0:=1) (k1:=0) (k2:=0) Rd.byB (by decide) rfl (by omega) ?_ ?_ ?_ <;> go_simp
theorem named2 (w:World):Calls Try.prog 114 #[.int .i64 2] w (Named w 2):=by
 go_enter Try.func114,Try.ntmps114
 go_wp2
 go_ret2
 refine named_mk (n:=w.heap.size) (k0:=2) (k1:=0) (k2:=0) Rd.byB (by decide) rfl (by omega) ?_ ?_ ?_ <;> go_simp
theorem named3 (w:World):Calls Try.prog 114 #[.int .i64 3] w (Named w 3):=by
 go_enter Try.func114,Try.ntmps114
 go_wp2
 go_ret2
 refine named_mk (n:=w.heap.size) (k0:=3) (k1:=0) (k2:=0) Rd.byB (by decide) rfl (by omega) ?_ ?_ ?_ <;> go_simp
theorem named4 (w:World):Calls Try.prog 114 #[.int .i64 4] w (Named w 4):=by
 go_enter Try.func114,Try.ntmps114
 go_wp2
 go_ret2
 refine named_mk (n:=w.heap.size) (k0:=-1) (k1:=-1) (k2:=-1) Rd.byB (by decide) rfl (by omega) ?_ ?_ ?_ <;> go_simp
theorem named5 (w:World):Calls Try.prog 114 #[.int .i64 5] w (Named w 5):=by
 go_enter Try.func114,Try.ntmps114
 go_wp2
 go_ret2
 refine named_mk (n:=w.heap.size) (k0:=1) (k1:=1) (k2:=1) Rd.byB (by decide) rfl (by omega) ?_ ?_ ?_ <;> go_simp
theorem named6 (w:World):Calls Try.prog 114 #[.int .i64 6] w (Named w 6):=by
 go_enter Try.func114,Try.ntmps114
 go_wp2
 go_ret2
 refine named_mk (n:=w.heap.size) (k0:=2) (k1:=2) (k2:=2) Rd.byB (by decide) rfl (by omega) ?_ ?_ ?_ <;> go_simp
theorem named7 (w:World):Calls Try.prog 114 #[.int .i64 7] w (Named w 7):=by
 go_enter Try.func114,Try.ntmps114
 go_wp2
 go_ret2
 refine named_mk (n:=w.heap.size) (k0:=2) (k1:=1) (k2:=0) Rd.byB (by decide) rfl (by omega) ?_ ?_ ?_ <;> go_simp
theorem named8 (w:World):Calls Try.prog 114 #[.int .i64 8] w (Named w 8):=by
 go_enter Try.func114,Try.ntmps114
 go_wp2
 go_ret2
 refine named_mk (n:=w.heap.size) (k0:=1) (k1:=2) (k2:=0) Rd.byB (by decide) rfl (by omega) ?_ ?_ ?_ <;> go_simp
theorem named9 (w:World):Calls Try.prog 114 #[.int .i64 9] w (Named w 9):=by
 go_enter Try.func114,Try.ntmps114
 go_wp2
 go_ret2
 refine named_mk (n:=w.heap.size) (k0:=1) (k1:=2) (k2:=2) Rd.byB (by decide) rfl (by omega) ?_ ?_ ?_ <;> go_simp
theorem named10 (w:World):Calls Try.prog 114 #[.int .i64 10] w (Named w 10):=by
 go_enter Try.func114,Try.ntmps114
 go_wp2
 go_ret2
 refine named_mk (n:=w.heap.size) (k0:=-1) (k1:=0) (k2:=0) Rd.byB (by decide) rfl (by omega) ?_ ?_ ?_ <;> go_simp
theorem named11 (w:World):Calls Try.prog 114 #[.int .i64 11] w (Named w 11):=by
 go_enter Try.func114,Try.ntmps114
 go_wp2
 go_ret2
 refine named_mk (n:=w.heap.size) (k0:=-1) (k1:=-1) (k2:=1) Rd.byB (by decide) rfl (by omega) ?_ ?_ ?_ <;> go_simp
theorem named12 (w:World):Calls Try.prog 114 #[.int .i64 12] w (Named w 12):=by
 go_enter Try.func114,Try.ntmps114
 go_wp2
 go_ret2
 refine named_mk (n:=w.heap.size) (k0:=-1) (k1:=0) (k2:=3) Rd.byB (by decide) rfl (by omega) ?_ ?_ ?_ <;> go_simp
theorem named13 (w:World):Calls Try.prog 114 #[.int .i64 13] w (Named w 13):=by
 go_enter Try.func114,Try.ntmps114
 go_wp2
 go_ret2
 refine named_mk (n:=w.heap.size) (k0:=3) (k1:=-1) (k2:=0) Rd.byB (by decide) rfl (by omega) ?_ ?_ ?_ <;> go_simp
theorem named14 (w:World):Calls Try.prog 114 #[.int .i64 14] w (Named w 14):=by
 go_enter Try.func114,Try.ntmps114
 go_wp2
 go_ret2
 refine named_mk (n:=w.heap.size) (k0:=-1) (k1:=3) (k2:=-1) Rd.byB (by decide) rfl (by omega) ?_ ?_ ?_ <;> go_simp
theorem named15 (w:World):Calls Try.prog 114 #[.int .i64 15] w (Named w 15):=by
 go_enter Try.func114,Try.ntmps114
 go_wp2
 go_ret2
 refine named_mk (n:=w.heap.size) (k0:=-1) (k1:=3) (k2:=-1) Rd.byB (by decide) rfl (by omega) ?_ ?_ ?_ <;> go_simp
theorem named16 (w:World):Calls Try.prog 114 #[.int .i64 16] w (Named w 16):=by
 go_enter Try.func114,Try.ntmps114
 go_wp2
 go_ret2
 refine named_mk (n:=w.heap.size) (k0:=3) (k1:=-1) (k2:=0) Rd.byB (by decide) rfl (by omega) ?_ ?_ ?_ <;> go_simp
theorem named17 (w:World):Calls Try.prog 114 #[.int .i64 17] w (Named w 17):=by
 go_enter Try.func114,Try.ntmps114
 go_wp2
 go_ret2
 refine named_mk (n:=w.heap.size) (k0:=1) (k1:=3) (k2:=-1) Rd.byB (by decide) rfl (by omega) ?_ ?_ ?_ <;> go_simp
theorem named18 (w:World):Calls Try.prog 114 #[.int .i64 18] w (Named w 18):=by
 go_enter Try.func114,Try.ntmps114
 go_wp2
 go_ret2
 refine named_mk (n:=w.heap.size) (k0:=-1) (k1:=0) (k2:=0) Rd.byB (by decide) rfl (by omega) ?_ ?_ ?_ <;> go_simp
theorem named19 (w:World):Calls Try.prog 114 #[.int .i64 19] w (Named w 19):=by
 go_enter Try.func114,Try.ntmps114
 go_wp2
 go_ret2
 refine named_mk (n:=w.heap.size) (k0:=-1) (k1:=-1) (k2:=0) Rd.byB (by decide) rfl (by omega) ?_ ?_ ?_ <;> go_simp
theorem named20 (w:World):Calls Try.prog 114 #[.int .i64 20] w (Named w 20):=by
 go_enter Try.func114,Try.ntmps114
 go_wp2
 go_ret2
 refine named_mk (n:=w.heap.size) (k0:=-1) (k1:=0) (k2:=0) Rd.byB (by decide) rfl (by omega) ?_ ?_ ?_ <;> go_simp
theorem named21 (w:World):Calls Try.prog 114 #[.int .i64 21] w (Named w 21):=by
 go_enter Try.func114,Try.ntmps114
 go_wp2
 go_ret2
 refine named_mk (n:=w.heap.size) (k0:=3) (k1:=0) (k2:=0) Rd.byB (by decide) rfl (by omega) ?_ ?_ ?_ <;> go_simp
theorem named22 (w:World):Calls Try.prog 114 #[.int .i64 22] w (Named w 22):=by
 go_enter Try.func114,Try.ntmps114
 go_wp2
 go_ret2
 refine named_mk (n:=w.heap.size) (k0:=3) (k1:=0) (k2:=0) Rd.byB (by decide) rfl (by omega) ?_ ?_ ?_ <;> go_simp
theorem named23 (w:World):Calls Try.prog 114 #[.int .i64 23] w (Named w 23):=by
 go_enter Try.func114,Try.ntmps114
 go_wp2
 go_ret2
 refine named_mk (n:=w.heap.size) (k0:=-1) (k1:=-1) (k2:=0) Rd.byB (by decide) rfl (by omega) ?_ ?_ ?_ <;> go_simp
theorem named24 (w:World):Calls Try.prog 114 #[.int .i64 24] w (Named w 24):=by
 go_enter Try.func114,Try.ntmps114
 go_wp2
 go_ret2
 refine named_mk (n:=w.heap.size) (k0:=2) (k1:=0) (k2:=0) Rd.byB (by decide) rfl (by omega) ?_ ?_ ?_ <;> go_simp
theorem namedNo (op:Int) (w:World) (h:¬ (1≤op∧op≤24)):Calls Try.prog 114 #[.int .i64 op] w (Named w op):=by
 have hk:Hid (Rform.kinds op=none):=by
  show _=_
  unfold Rform.kinds
  repeat rw [if_neg (by omega)]
 have n1:(op==1)=false:=by simp;omega
 have n2:(op==2)=false:=by simp;omega
 have n3:(op==3)=false:=by simp;omega
 have n4:(op==4)=false:=by simp;omega
 have n5:(op==5)=false:=by simp;omega
 have n6:(op==6)=false:=by simp;omega
 have n7:(op==7)=false:=by simp;omega
 have n8:(op==8)=false:=by simp;omega
 have n9:(op==9)=false:=by simp;omega
 have n10:(op==10)=false:=by simp;omega
 have n11:(op==11)=false:=by simp;omega
 have n12:(op==12)=false:=by simp;omega
 have n13:(op==13)=false:=by simp;omega
 have n14:(op==14)=false:=by simp;omega
 have n15:(op==15)=false:=by simp;omega
 have n16:(op==16)=false:=by simp;omega
 have n17:(op==17)=false:=by simp;omega
 have n18:(op==18)=false:=by simp;omega
 have n19:(op==19)=false:=by simp;omega
 have n20:(op==20)=false:=by simp;omega
 have n21:(op==21)=false:=by simp;omega
 have n22:(op==22)=false:=by simp;omega
 have n23:(op==23)=false:=by simp;omega
 have n24:(op==24)=false:=by simp;omega
 clear h
 go_enter Try.func114,Try.ntmps114
 go_wp2
 go_ret2
 exact ⟨Below.refl _ _,.inl ⟨hk.out,rfl⟩⟩
theorem named (op:Int) (w:World):Calls Try.prog 114 #[.int .i64 op] w (Named w op):=by
 by_cases h1:op=1
 ·subst h1;exact named1 w
 by_cases h2:op=2
 ·subst h2;exact named2 w
 by_cases h3:op=3
 ·subst h3;exact named3 w
 by_cases h4:op=4
 ·subst h4;exact named4 w
 by_cases h5:op=5
 ·subst h5;exact named5 w
 by_cases h6:op=6
 ·subst h6;exact named6 w
 by_cases h7:op=7
 ·subst h7;exact named7 w
 by_cases h8:op=8
 ·subst h8;exact named8 w
 by_cases h9:op=9
 ·subst h9;exact named9 w
 by_cases h10:op=10
 ·subst h10;exact named10 w
 by_cases h11:op=11
 ·subst h11;exact named11 w
 by_cases h12:op=12
 ·subst h12;exact named12 w
 by_cases h13:op=13
 ·subst h13;exact named13 w
 by_cases h14:op=14
 ·subst h14;exact named14 w
 by_cases h15:op=15
 ·subst h15;exact named15 w
 by_cases h16:op=16
 ·subst h16;exact named16 w
 by_cases h17:op=17
 ·subst h17;exact named17 w
 by_cases h18:op=18
 ·subst h18;exact named18 w
 by_cases h19:op=19
 ·subst h19;exact named19 w
 by_cases h20:op=20
 ·subst h20;exact named20 w
 by_cases h21:op=21
 ·subst h21;exact named21 w
 by_cases h22:op=22
 ·subst h22;exact named22 w
 by_cases h23:op=23
 ·subst h23;exact named23 w
 by_cases h24:op=24
 ·subst h24;exact named24 w
 exact namedNo op w (by omega)
theorem reg_within (regs n kd:Int):Rform.reg regs n kd=if kd=2 then within n 0 (regs - 2) else within n 0 (regs - 1):=by
 unfold Rform.reg Form.wide within Form.rng
 split <;> (apply decide_eq_decide.2;omega)
theorem reg (m:Me) (n kd:Int) (vm:Value) (w:World) (hm:VMe w w.heap.size vm m) (hr:0≤m.regs∧m.regs≤90):Calls Try.prog 115 #[vm,.int .i64 n,.int .i64 kd] w fun e w'=>e=.returned (.bool (Rform.reg m.regs n kd))∧Below w.heap.size w w':=by
 obtain ⟨vp,vcd,vh,rfl,_⟩:=hm;obtain ⟨hr1,hr2⟩:=hr;have hW:=Lib.hid (reg_within m.regs n kd)
 by_cases q:kd=2
 ·subst q;have hw2:=Lib.hid (hW.out.trans (if_pos rfl))
  go_enter Try.func115,Try.ntmps115
  go_wp2_with (go_at_call 50;refine (wi _ _ _ _).mono ?_;rintro e w1 ⟨rfl,rfl⟩)
  go_ret;exact ⟨ret_bool hw2.out.symm,Rd.byB⟩
 ·have q':(kd==2)=false:=by simpa using q
  have hw2:=Lib.hid (hW.out.trans (if_neg q));clear q
  go_enter Try.func115,Try.ntmps115
  go_wp2_with (go_at_call 50;refine (wi _ _ _ _).mono ?_;rintro e w1 ⟨rfl,rfl⟩)
  go_ret;exact ⟨ret_bool hw2.out.symm,Rd.byB⟩
theorem regV (m:Me) (n kd:Int) (p:Bool) (vm:Value) (w:World) (hp:Rform.reg m.regs n kd=p) (hm:VMe w w.heap.size vm m) (hr:0≤m.regs∧m.regs≤90):Calls Try.prog 115 #[vm,.int .i64 n,.int .i64 kd] w fun e w'=>e=.returned (.bool p)∧Below w.heap.size w w':=by
 subst hp;exact reg m n kd vm w hm hr
end RefG
namespace FormR
open Num Rd D HierW FormW
theorem sn1 (n:Int):decide (wrap32 n=n)=(decide (-2147483648≤n) && decide (n≤2147483647)):=by
 rw [Bool.eq_iff_iff];simp only [Bool.and_eq_true,decide_eq_true_eq];unfold wrap32;omega
theorem wide2:Form.wide 2=2:=rfl
theorem wide_not {k:Int}(h:¬ k=2):Form.wide k=1:=by simp [Form.wide,h]
theorem sins_args {cl:List Cls}{nm nc lo:Int}{i:Ins}(h:0 < i.args.length):Form.sins cl nm nc lo i=false:=by
 unfold Form.sins;rw [show decide (i.args.length=0)=false from decide_eq_false (by omega)];simp
set_option maxRecDepth 100000 in
theorem ins (f:Fi) (m:Me) (i:Ins) (vf vm vi:Value) (w:World) (hf:VFi w w.heap.size vf f) (hm:VMe w w.heap.size vm m) (hi:VIns w w.heap.size vi i) (hloc:0≤m.locals∧m.locals≤60) :
  Calls Try.prog 53 #[vf,vm,vi] w fun e w'=>e=.returned (.bool (Form.sins f.classes f.methods.length m.code.length m.locals i))∧Below w.heap.size w w':=by
 obtain ⟨vc,vme,rfl,⟨ca,ccap,rfl,clc,ccc,cel⟩,⟨ma,mcap,rfl,mlc,mcc,_⟩⟩:=hf;obtain ⟨vp,vcd,vh,rfl,⟨_,_,_,okl,_⟩,_,⟨da,dcap,rfl,dlc,dcc,_⟩,_⟩:=hm;obtain ⟨va,rfl,⟨oop,oa,ob,oc,on⟩,⟨aa,acap,rfl,alc,acc,_⟩⟩:=hi;obtain ⟨op,a,b,c,n,args⟩:=i;simp only at *
 unfold Ok at *
 obtain ⟨hloc1,hloc2⟩:=hloc
 go_enter Try.func53,Try.ntmps53
 go_wp2_with (go_at_call 50;refine (wi _ _ _ _).mono ?_;rintro e w' ⟨rfl,rfl⟩)
 all_goals first
  | (
       go_ret;refine ⟨ret_bool ?_,Rd.byB⟩;go_tidy
       first
       | (exact (sins_args (by show 0 < args.length;assumption)).symm)
       | simp_all [Form.sins,Form.sa,Form.sb,Form.sn,sn1,wide2,wide_not,Form.rng,within]
       first | done | rfl | (intros;omega) | (rw [Bool.eq_iff_iff];simp;omega) | (apply decide_eq_decide.2;omega))
  | skip
 ·refine name_world (fun W=>Below w.heap.size w W∧W.cell? ⟨w.heap.size+1+1,1,none⟩=some (.int .i64 a)∧W.cell? ⟨w.heap.size+1+1,2,none⟩=some (.int .i64 b)∧W.cell? ⟨w.heap.size,0,none⟩=some (.slice ca f.classes.length ccap)) ?_ ?_
  ·refine ⟨Rd.byB,?_,?_,?_⟩
   all_goals go_simp
  rintro W ⟨hbw,z1,z2,z3⟩;obtain ⟨p,hp⟩:∃ p,Hid (within a 0 ((f.classes.length:Int) - 1)=p):=⟨_,rfl⟩
  cases p
  ·have hr:=hp.out;have hr1:=hp.out;rw [within_rng] at hr1;simp only [Int.sub_add_cancel] at hr1
   have e1:Hid (Form.sins f.classes f.methods.length m.code.length m.locals ⟨op,a,b,c,n,args⟩=false):=by
    show _=_
    simp_all [Form.sins,Form.sa,Form.sb,Form.sn]
   refine Drawn.hd (fun w'=>w'.cell? ⟨w.heap.size+1+1,1,none⟩=some (.int .i64 a)∧w'.cell? ⟨w.heap.size+1+1,2,none⟩=some (.int .i64 b)) (hS:=by (try dsimp only);first | exact ⟨z1,z2⟩ | go_keep) (h:=fun hHeld=>?_)
   refine dT 0 100 ?_;refine dT 1 101 ?_;refine dT 2 102 ?_;refine Drawn.cl 3 (fun K hK=>?_);go_simp
   go_at_call 50
   refine (wiV _ _ _ _ _ hp.out).mono ?_;rintro e w2 ⟨rfl,rfl⟩
   go_wp2_with fail
   refine Drawn.bk hK (hS:=by (try dsimp only);exact ⟨z1,z2⟩) (h:=fun hHeld=>?_)
   clear hK K;refine dT 4 104 ?_;refine dS 5 105 ?_;refine dS 6 106 ?_;refine dS 7 107 ?_;refine dS 8 108 ?_;refine dS 9 109 ?_;refine dS 10 110 ?_;refine dS 11 111 ?_;refine dS 12 112 ?_;refine dS 13 113 ?_;refine dS 14 114 ?_;refine dS 15 115 ?_;refine dS 16 116 ?_;refine dT 17 117 ?_;refine dT 18 6 ?_;refine dN ?_
   go_wp2_with fail
   go_ret;refine ⟨ret_bool ?_,hbw.drew⟩;go_tidy;rw [e1.out]
  ·have hr:=hp.out;have hr1:=hp.out;rw [within_rng] at hr1;simp only [Int.sub_add_cancel] at hr1;have hr2:0≤a∧a < f.classes.length:=by simpa [Form.rng] using hr1
   obtain ⟨k,rfl⟩:=Int.eq_ofNat_of_zero_le hr2.1;have hk:k < f.classes.length:=by omega
   obtain ⟨b0,o0,rfl,hb0,he⟩:=cel k hk
   have hnf:Hid (Form.nf f.classes (k:Int)=(f.classes[k]).fields.length):=by
    show _=_
    rw [Form.nf,Int.toNat_natCast,Hier.at_eq hk]
   obtain ⟨x,hx⟩:=at_of hk;rw [hx.out] at he hnf;obtain ⟨_,_,fv,g3,fa,fcap,rfl,flc,fcc,_⟩:=he;have z4:=kept hbw hb0 g3;have fcI:(x.fields.length:Int)≤9223372036854775807:=by omega
   have hk0:(0:Int)≤(k:Int)∧(k:Int) < f.classes.length:=⟨by omega,by omega⟩
   have e1:Hid (Form.sins f.classes f.methods.length m.code.length m.locals ⟨op,(k:Int),b,c,n,args⟩=within b 0 ((x.fields.length:Int) - 1)):=by
    show _=_
    rw [within_rng];simp only [Int.sub_add_cancel];have hnf2:=hnf.out;simp_all [Form.sins,Form.sa,Form.sb,Form.sn]
    done
   clear cel;have hr3:=hr2.2;refine Drawn.hd (fun w'=>w'.cell? ⟨w.heap.size+1+1,1,none⟩=some (.int .i64 (k:Int))∧w'.cell? ⟨w.heap.size+1+1,2,none⟩=some (.int .i64 b)∧w'.cell? ⟨w.heap.size,0,none⟩=some (.slice (some ⟨b0,o0,none⟩) f.classes.length ccap)∧w'.cell? ⟨b0,o0+k*2+1,none⟩=some (.slice fa x.fields.length fcap)) (hS:=by (try dsimp only);first | exact ⟨z1,z2,z3,z4⟩ | go_keep) (h:=fun hHeld=>?_)
   refine dT 0 100 ?_;refine dT 1 101 ?_;refine dT 2 102 ?_;refine Drawn.cl 3 (fun K hK=>?_);go_simp
   go_at_call 50
   refine (wiV _ _ _ _ _ hp.out).mono ?_;rintro e w2 ⟨rfl,rfl⟩
   go_wp2_with fail
   refine Drawn.bk hK (hS:=by (try dsimp only);exact ⟨z1,z2,z3,z4⟩) (h:=fun hHeld=>?_)
   clear hK K;refine dT 4 104 ?_;refine dT 5 105 ?_;refine dT 6 106 ?_;refine dT 7 107 ?_;refine dT 8 108 ?_;refine dT 9 109 ?_;refine dT 10 110 ?_;refine dT 11 111 ?_;refine dT 12 112 ?_;refine dT 13 113 ?_;refine dT 14 114 ?_;refine dT 15 115 ?_;refine Drawn.cl 16 (fun K hK=>?_);go_simp
   go_at_call 50
   refine (wi _ _ _ _).mono ?_;rintro e w3 ⟨rfl,rfl⟩
   go_wp2_with fail
   refine Drawn.bk hK (hS:=by (try dsimp only);exact ⟨z1,z2,z3,z4⟩) (h:=fun hHeld=>?_)
   clear hK K;refine dT 17 117 ?_;refine dT 18 6 ?_;refine dN ?_
   go_wp2_with fail
   go_ret;refine ⟨ret_bool ?_,hbw.drew⟩;go_tidy;rw [e1.out,Num.wrap_i64,wrap64_id (show Ok ((x.fields.length:Int) - 1) from ⟨by omega,by omega⟩)]
 ·refine name_world (fun W=>Below w.heap.size w W∧W.cell? ⟨w.heap.size+1+1,1,none⟩=some (.int .i64 a)∧W.cell? ⟨w.heap.size+1+1,2,none⟩=some (.int .i64 b)∧W.cell? ⟨w.heap.size,0,none⟩=some (.slice ca f.classes.length ccap)) ?_ ?_
  ·refine ⟨Rd.byB,?_,?_,?_⟩
   all_goals go_simp
  rintro W ⟨hbw,z1,z2,z3⟩;obtain ⟨p,hp⟩:∃ p,Hid (within a 0 ((f.classes.length:Int) - 1)=p):=⟨_,rfl⟩
  cases p
  ·have hr:=hp.out;have hr1:=hp.out;rw [within_rng] at hr1;simp only [Int.sub_add_cancel] at hr1
   have e1:Hid (Form.sins f.classes f.methods.length m.code.length m.locals ⟨op,a,b,c,n,args⟩=false):=by
    show _=_
    simp_all [Form.sins,Form.sa,Form.sb,Form.sn]
   refine Drawn.hd (fun w'=>w'.cell? ⟨w.heap.size+1+1,1,none⟩=some (.int .i64 a)∧w'.cell? ⟨w.heap.size+1+1,2,none⟩=some (.int .i64 b)) (hS:=by (try dsimp only);first | exact ⟨z1,z2⟩ | go_keep) (h:=fun hHeld=>?_)
   refine dT 0 100 ?_;refine dT 1 101 ?_;refine dT 2 102 ?_;refine Drawn.cl 3 (fun K hK=>?_);go_simp
   go_at_call 50
   refine (wiV _ _ _ _ _ hp.out).mono ?_;rintro e w2 ⟨rfl,rfl⟩
   go_wp2_with fail
   refine Drawn.bk hK (hS:=by (try dsimp only);exact ⟨z1,z2⟩) (h:=fun hHeld=>?_)
   clear hK K;refine dT 4 104 ?_;refine dS 5 105 ?_;refine dS 6 106 ?_;refine dS 7 107 ?_;refine dS 8 108 ?_;refine dS 9 109 ?_;refine dS 10 110 ?_;refine dS 11 111 ?_;refine dS 12 112 ?_;refine dS 13 113 ?_;refine dS 14 114 ?_;refine dS 15 115 ?_;refine dS 16 116 ?_;refine dT 17 117 ?_;refine dT 18 6 ?_;refine dN ?_
   go_wp2_with fail
   go_ret;refine ⟨ret_bool ?_,hbw.drew⟩;go_tidy;rw [e1.out]
  ·have hr:=hp.out;have hr1:=hp.out;rw [within_rng] at hr1;simp only [Int.sub_add_cancel] at hr1;have hr2:0≤a∧a < f.classes.length:=by simpa [Form.rng] using hr1
   obtain ⟨k,rfl⟩:=Int.eq_ofNat_of_zero_le hr2.1;have hk:k < f.classes.length:=by omega
   obtain ⟨b0,o0,rfl,hb0,he⟩:=cel k hk
   have hnf:Hid (Form.nf f.classes (k:Int)=(f.classes[k]).fields.length):=by
    show _=_
    rw [Form.nf,Int.toNat_natCast,Hier.at_eq hk]
   obtain ⟨x,hx⟩:=at_of hk;rw [hx.out] at he hnf;obtain ⟨_,_,fv,g3,fa,fcap,rfl,flc,fcc,_⟩:=he;have z4:=kept hbw hb0 g3;have fcI:(x.fields.length:Int)≤9223372036854775807:=by omega
   have hk0:(0:Int)≤(k:Int)∧(k:Int) < f.classes.length:=⟨by omega,by omega⟩
   have e1:Hid (Form.sins f.classes f.methods.length m.code.length m.locals ⟨op,(k:Int),b,c,n,args⟩=within b 0 ((x.fields.length:Int) - 1)):=by
    show _=_
    rw [within_rng];simp only [Int.sub_add_cancel];have hnf2:=hnf.out;simp_all [Form.sins,Form.sa,Form.sb,Form.sn]
    done
   clear cel;have hr3:=hr2.2;refine Drawn.hd (fun w'=>w'.cell? ⟨w.heap.size+1+1,1,none⟩=some (.int .i64 (k:Int))∧w'.cell? ⟨w.heap.size+1+1,2,none⟩=some (.int .i64 b)∧w'.cell? ⟨w.heap.size,0,none⟩=some (.slice (some ⟨b0,o0,none⟩) f.classes.length ccap)∧w'.cell? ⟨b0,o0+k*2+1,none⟩=some (.slice fa x.fields.length fcap)) (hS:=by (try dsimp only);first | exact ⟨z1,z2,z3,z4⟩ | go_keep) (h:=fun hHeld=>?_)
   refine dT 0 100 ?_;refine dT 1 101 ?_;refine dT 2 102 ?_;refine Drawn.cl 3 (fun K hK=>?_);go_simp
   go_at_call 50
   refine (wiV _ _ _ _ _ hp.out).mono ?_;rintro e w2 ⟨rfl,rfl⟩
   go_wp2_with fail
   refine Drawn.bk hK (hS:=by (try dsimp only);exact ⟨z1,z2,z3,z4⟩) (h:=fun hHeld=>?_)
   clear hK K;refine dT 4 104 ?_;refine dT 5 105 ?_;refine dT 6 106 ?_;refine dT 7 107 ?_;refine dT 8 108 ?_;refine dT 9 109 ?_;refine dT 10 110 ?_;refine dT 11 111 ?_;refine dT 12 112 ?_;refine dT 13 113 ?_;refine dT 14 114 ?_;refine dT 15 115 ?_;refine Drawn.cl 16 (fun K hK=>?_);go_simp
   go_at_call 50
   refine (wi _ _ _ _).mono ?_;rintro e w3 ⟨rfl,rfl⟩
   go_wp2_with fail
   refine Drawn.bk hK (hS:=by (try dsimp only);exact ⟨z1,z2,z3,z4⟩) (h:=fun hHeld=>?_)
   clear hK K;refine dT 17 117 ?_;refine dT 18 6 ?_;refine dN ?_
   go_wp2_with fail
   go_ret;refine ⟨ret_bool ?_,hbw.drew⟩;go_tidy;rw [e1.out,Num.wrap_i64,wrap64_id (show Ok ((x.fields.length:Int) - 1) from ⟨by omega,by omega⟩)]
end FormR
namespace RefG
open Num Rd D HierW FormW FormR
def pick (x y z:Int) (j:Nat):Int:=if j=0 then x else if j=1 then y else z
theorem fok_pick {f:Fi}{m:Me}{i:Ins}{k0 k1 k2:Int}{j:Nat}(h:Rform.kinds i.op=some (k0,k1,k2)) (hf:Rform.fok m.regs (pick k0 k1 k2 j) (pick i.a i.b i.c j)=false):Rform.ins f m i=false:=by
 apply Rform.ins_fok h
 unfold pick at hf
 split at hf
 ·exact .inl hf
 ·split at hf
  ·exact .inr (.inl hf)
  ·exact .inr (.inr hf)
theorem cell_pick {W:World}{n:Nat}{x y z:Int}{j:Nat}(hj:j < 3) (h0:W.cell? ⟨n,0,none⟩=some (.int .i64 x)) (h1:W.cell? ⟨n,1,none⟩=some (.int .i64 y)) (h2:W.cell? ⟨n,2,none⟩=some (.int .i64 z)):W.cell? ⟨n,j,none⟩=some (.int .i64 (pick x y z j)):=by
 have h:j=0∨j=1∨j=2:=by omega
 rcases h with rfl | rfl | rfl
 ·exact h0
 ·exact h1
 ·exact h2
theorem pick_ok {x y z:Int}(j:Nat) (hx:Ok x) (hy:Ok y) (hz:Ok z):Ok (pick x y z j):=by
 unfold pick;split
 ·exact hx
 ·split
  ·exact hy
  ·exact hz
theorem namedB (w0 w:World) (op:Int) (hb:Below w0.heap.size w0 w):Calls Try.prog 114 #[.int .i64 op] w fun e w'=>Below w0.heap.size w0 w'∧Named w op e w':=(named op w).mono fun e w' h=>⟨hb.trans (h.1.mono hb.size),h⟩
end RefG
end Go.Proofs.Ytncmhenfgbcihab
