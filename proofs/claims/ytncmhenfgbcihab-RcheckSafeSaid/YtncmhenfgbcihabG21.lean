/- Parts of the proof: Look, LookC, LookI, LookM, LookN, LookO, LookP. -/
import Derived.Test.YtncmhenfgbcihabG02
import Derived.Test.YtncmhenfgbcihabG01
set_option linter.unusedSimpArgs false
set_option linter.unusedVariables false
set_option maxHeartbeats 8000000
namespace Go.Proofs.Ytncmhenfgbcihab
open Go.RowKit
structure Keep (B b:Nat) (w w':World):Prop where
 os:w'.os=w.os
 tape:w'.tape=w.tape
 output:w'.output=w.output
 size:w.heap.size≤w'.heap.size
 block:∀ k,k < B→k≠b→w'.heap[k]? = w.heap[k]?
namespace Keep
variable {B b:Nat}{w w' w'':World}
theorem refl (B b:Nat) (w:World):Keep B b w w:=⟨rfl,rfl,rfl,Nat.le_refl _,fun _ _ _=>rfl⟩
theorem trans (h:Keep B b w w') (k:Keep B b w' w''):Keep B b w w'' :=
 ⟨k.os.trans h.os,k.tape.trans h.tape,k.output.trans h.output,Nat.le_trans h.size k.size,fun i hi hn=>(k.block i hi hn).trans (h.block i hi hn)⟩
theorem mono {B':Nat}(h:Keep B b w w') (hB:B'≤B):Keep B' b w w':=⟨h.os,h.tape,h.output,h.size,fun k hk hn=>h.block k (Nat.lt_of_lt_of_le hk hB) hn⟩
theorem of_below (h:Below B w w'):Keep B b w w':=⟨h.os,h.tape,h.output,h.size,fun k hk _=>h.block k hk⟩
theorem below (h:Keep B b w w'){B':Nat}(h1:B'≤B) (h2:B'≤b):Below B' w w':=⟨h.os,h.tape,h.output,h.size,fun k hk=>h.block k (by omega) (by omega)⟩
theorem alloc (h:Keep B b w w') (hB:B≤w'.heap.size) (o:Obj):Keep B b w (w'.alloc o):=h.trans (of_below ((Below.refl _ _).alloc hB o))
theorem drew (h:Keep B b w w'):Keep B b w w'.drew:=⟨h.os,h.tape,h.output,h.size,h.block⟩
theorem drewN (h:Keep B b w w') (n:Nat):Keep B b w (w'.drewN n):=⟨h.os,h.tape,h.output,h.size,h.block⟩
theorem setCell (h:Keep B b w w'){p:Addr}(hp:p.block=b∨B≤p.block) (u:Value):Keep B b w (w'.setCell p u) :=
 h.trans ⟨rfl,rfl,rfl,by simp [World.setCell],fun k hk hn=>Below.heap_setCell _ _ _ _ (by rcases hp with hp | hp <;> omega)⟩
theorem cell (h:Keep B b w w'){c o:Nat}{v:Value}(h1:c < B) (h2:c≠b) (hc:w.cell? ⟨c,o,none⟩=some v):w'.cell? ⟨c,o,none⟩=some v :=
 (World.cell?_of_block (a:=⟨c,o,none⟩) (h.block c h1 h2)).trans hc
end Keep
namespace Look
open Num Rd D HierW FormW
def Lk (w:World) (b:Nat) (vc vm vp vcd vh:Value) (m:Me) (ok:Bool):Prop :=
 (w.cell? ⟨b,0,none⟩=some vc∧w.cell? ⟨b,1,none⟩=some vm) ∧
 (w.cell? ⟨b,2,none⟩=some vp∧w.cell? ⟨b,3,none⟩=some (.int .i64 m.ret.kind)∧w.cell? ⟨b,4,none⟩=some (.int .i64 m.ret.cls)∧w.cell? ⟨b,5,none⟩=some (.int .i64 m.stack) ∧
  w.cell? ⟨b,6,none⟩=some (.int .i64 m.locals)∧w.cell? ⟨b,7,none⟩=some (.int .i64 m.regs)∧w.cell? ⟨b,8,none⟩=some vcd∧w.cell? ⟨b,9,none⟩=some vh) ∧
 w.cell? ⟨b,10,none⟩=some (.bool ok)∧w.frozen? ⟨b,10,none⟩=false
theorem Lk.lt {w:World}{b:Nat}{vc vm vp vcd vh:Value}{m:Me}{ok:Bool}(h:Lk w b vc vm vp vcd vh m ok):b < w.heap.size:=lt_cell h.1.1
theorem Lk.next {w w':World}{b:Nat}{vc vm vp vcd vh:Value}{m:Me}{ok:Bool}(h:Lk w b vc vm vp vcd vh m ok){B:Nat}(hb:Below B w w') (hlt:b < B):Lk w' b vc vm vp vcd vh m ok:=by
 obtain ⟨⟨h0,h1⟩,⟨h2,h3,h4,h5,h6,h7,h8,h9⟩,h10,hf⟩:=h;exact ⟨⟨kept hb hlt h0,kept hb hlt h1⟩,⟨kept hb hlt h2,kept hb hlt h3,kept hb hlt h4,kept hb hlt h5,kept hb hlt h6,kept hb hlt h7,kept hb hlt h8,kept hb hlt h9⟩,kept hb hlt h10,(hb.frozen (p:=⟨b,10,none⟩) hlt).trans hf⟩
theorem Lk.set {w:World}{b:Nat}{vc vm vp vcd vh:Value}{m:Me}{ok:Bool}(p:Bool) (h:Lk w b vc vm vp vcd vh m ok):Lk (w.setCell ⟨b,10,none⟩ (.bool p)) b vc vm vp vcd vh m p:=by
 obtain ⟨⟨h0,h1⟩,⟨h2,h3,h4,h5,h6,h7,h8,h9⟩,h10,hf⟩:=h;refine ⟨⟨?_,?_⟩,⟨?_,?_,?_,?_,?_,?_,?_,?_⟩,?_,?_⟩
 all_goals go_simp
theorem lin (n lo hi:Int) (w:World):Calls Try.prog 110 #[.int .i64 n,.int .i64 lo,.int .i64 hi] w fun e w'=>e=.returned (.bool (Form.rng n lo hi))∧w=w':=by
 go_enter Try.func110,Try.ntmps110
 go_wp2
 all_goals go_ret
 all_goals go_tidy
 all_goals refine ⟨ret_bool ?_,rfl⟩
 all_goals simp_all [Form.rng]
 all_goals (intros;omega)
theorem linV (n lo hi:Int) (p:Bool) (w:World) (hp:Form.rng n lo hi=p):Calls Try.prog 110 #[.int .i64 n,.int .i64 lo,.int .i64 hi] w fun e w'=>e=.returned (.bool p)∧w=w':=by
 subst hp;exact lin n lo hi w
def After (w:World) (b:Nat) (vc vm vp vcd vh:Value) (m:Me) (ok:Bool) (w':World):Prop:=Lk w' b vc vm vp vcd vh m ok∧Keep w.heap.size b w w'
theorem must (b n:Nat) (p ok:Bool) (vc vm vp vcd vh:Value) (m:Me) (w:World) (h:Lk w b vc vm vp vcd vh m ok) (hp:w.cell? ⟨n,0,none⟩=some (.bool p)) :
  Calls Try.prog 161 #[.pointer (some ⟨b,0,none⟩),.slice (some ⟨n,0,none⟩) 1 1] w fun e w'=>e=.returned (.tuple #[])∧After w b vc vm vp vcd vh m (ok && p) w':=by
 have hlt:=h.lt;have H:=Lib.hid h;obtain ⟨_,_,h10,hf⟩:=h
 go_enter Try.func161,Try.ntmps161
 go_wp2
 go_loopw [8] (fun i wr=>(i=.int .i64 0∧wr=w)∨(i=.int .i64 1∧wr=w.setCell ⟨b,10,none⟩ (.bool (ok && p)))) (fun i _=>1 - (intOf i).toNat)
 case atStart=>exact .inl ⟨rfl,rfl⟩
 case round =>
  rcases hrel with ⟨rfl,rfl⟩ | ⟨rfl,rfl⟩
  ·cases ok
   ·go_wp2
    go_roundw
    case rel=>exact .inr ⟨rfl,by simp⟩
    case measure=>simp [intOf]
   ·go_wp2
    go_roundw
    case rel=>exact .inr ⟨rfl,by simp⟩
    case measure=>simp [intOf]
  ·go_wp2
   go_end0
   exact ⟨rfl,H.out.set _,(Keep.refl w.heap.size b w).setCell (p:=⟨b,10,none⟩) (.inl rfl) _⟩
theorem nought (b:Nat) (v:Value) (l:List Int) (ok:Bool) (vc vm vp vcd vh:Value) (m:Me) (w:World) (h:Lk w b vc vm vp vcd vh m ok)
  (hl:l.length≤8) (hv:∃ n cap,v=.slice (some ⟨n,0,none⟩) l.length cap∧n≠b∧l.length≤cap∧cap≤8∧∀ i (h:i < l.length),w.cell? ⟨n,i,none⟩=some (.int .i64 l[i])) :
  Calls Try.prog 163 #[.pointer (some ⟨b,0,none⟩),v] w fun e w'=>e=.returned (.tuple #[])∧After w b vc vm vp vcd vh m (ok && l.all fun n=>decide (n=0)) w':=by
 obtain ⟨n,cap,rfl,hne,hlc,hc8,hel⟩:=hv;have hlt:=h.lt;have H:=Lib.hid h;clear h
 go_enter Try.func163,Try.ntmps163
 go_wp2
 go_loopw [8] (fun i wr=>∃ k:Nat,k≤l.length∧i=.int .i64 k∧Hid (Lk wr b vc vm vp vcd vh m (ok && (l.take k).all fun n=>decide (n=0)))∧Keep w.heap.size b w wr) (fun i _=>l.length - (intOf i).toNat)
 case atStart=>exact ⟨0,by omega,rfl,by show Lk _ _ _ _ _ _ _ _ _;simpa using H.out,Keep.refl _ _ _⟩
 case round =>
  obtain ⟨k,hk,rfl,hlk,hkp⟩:=hrel;have hks:=hkp.size
  by_cases hlk2:k < l.length
  ·have g:=hel k hlk2;have hnlt:=lt_cell g;have g1:=hkp.cell hnlt hne g;obtain ⟨x,hx⟩:=at_of hlk2;rw [hx.out] at g1
   have hst:Hid ((l.take (k+1)).all (fun n=>decide (n=0))=((l.take k).all (fun n=>decide (n=0)) && decide (x=0))):=by
    show _=_
    rw [List.take_succ_eq_append_getElem hlk2,List.all_append,hx.out];simp
   obtain ⟨q,hq⟩:∃ q,Hid ((ok && (l.take k).all fun n=>decide (n=0))=q):=⟨_,rfl⟩;rw [hq.out] at hlk;clear g hel;have hI:(k:Int) < l.length:=by omega
   go_wp2_with fail
   refine (must b _ (x==0) q vc vm vp vcd vh m _ (hlk.out.next (Below.alloc (Below.refl _ _) (Nat.le_refl _) _) hlk.out.lt) (by go_simp)).mono ?_
   rintro e w1 ⟨rfl,hA,hK⟩;have hA2:=Lib.hid hA;clear hA
   go_wp2_with fail
   go_roundw
   case rel =>
    refine ⟨k+1,by omega,by go_num,?_,hkp.trans ((Keep.alloc (Keep.refl _ _ _) (Nat.le_refl _) _).trans (hK.mono (by simp)) |>.mono hks)⟩
    rw [hst.out,← Bool.and_assoc,hq.out,show decide (x=0)=(x==0) by rfl]
    exact hA2.out
   case measure=>simp [intOf];omega
  ·have hge:¬ (k:Int) < l.length:=by omega
   have hst:=Lib.hid (List.take_of_length_le (l:=l) (i:=k) (by omega))
   clear hel
   go_wp2_with fail
   go_end0
   rw [hst.out] at hlk;exact ⟨rfl,hlk.out,hkp⟩
theorem reg_wide (regs n kd:Int) (S:Nat) (h:Form.slots [⟨kd,0⟩]=S):Form.rng n 0 (regs+1 - S)=Rform.reg regs n kd:=by
 unfold Rform.reg;rw [← h,slots_one]
set_option maxRecDepth 100000 in
theorem reg (b:Nat) (kd:Int) (v:Value) (l:List Int) (ok:Bool) (vc vm vp vcd vh:Value) (m:Me) (w:World) (h:Lk w b vc vm vp vcd vh m ok) (hkd:Ok kd) (hr:0≤m.regs∧m.regs≤90)
  (hl:l.length≤8) (hv:∃ n cap,v=.slice (some ⟨n,0,none⟩) l.length cap∧n≠b∧l.length≤cap∧cap≤8∧∀ i (h:i < l.length),w.cell? ⟨n,i,none⟩=some (.int .i64 l[i])) :
  Calls Try.prog 162 #[.pointer (some ⟨b,0,none⟩),.int .i64 kd,v] w fun e w'=>e=.returned (.tuple #[])∧After w b vc vm vp vcd vh m (ok && l.all fun n=>Rform.reg m.regs n kd) w':=by
 obtain ⟨n,cap,rfl,hne,hlc,hc8,hel⟩:=hv;obtain ⟨hr1,hr2⟩:=hr;have hlt:=h.lt;have H:=Lib.hid h;clear h;obtain ⟨S,hS⟩:∃ S,Hid (Form.slots [⟨kd,0⟩]=S):=⟨_,rfl⟩;have hS2:(S:Int)≤2:=by have:=hS.out;have h:=slots_one kd 0;rw [← this,h];unfold Form.wide;split <;> omega
 go_enter Try.func162,Try.ntmps162
 go_wp2
 go_loopw [10] (fun i wr=>∃ k:Nat,k≤l.length∧i=.int .i64 k∧Hid (Lk wr b vc vm vp vcd vh m (ok && (l.take k).all fun n=>Rform.reg m.regs n kd))∧Keep w.heap.size b w wr) (fun i _=>l.length - (intOf i).toNat)
 case atStart=>exact ⟨0,by omega,rfl,by show Lk _ _ _ _ _ _ _ _ _;simpa using H.out,Keep.refl _ _ _⟩
 case round =>
  obtain ⟨k,hk,rfl,hlk,hkp⟩:=hrel;have hks:=hkp.size
  by_cases hlk2:k < l.length
  ·have g:=hel k hlk2;have hnlt:=lt_cell g;have g1:=hkp.cell hnlt hne g;obtain ⟨x,hx⟩:=at_of hlk2;rw [hx.out] at g1
   have hst:Hid ((l.take (k+1)).all (fun n=>Rform.reg m.regs n kd)=((l.take k).all (fun n=>Rform.reg m.regs n kd) && Rform.reg m.regs x kd)):=by
    show _=_
    rw [List.take_succ_eq_append_getElem hlk2,List.all_append,hx.out];simp
   obtain ⟨q,hq⟩:∃ q,Hid ((ok && (l.take k).all fun n=>Rform.reg m.regs n kd)=q):=⟨_,rfl⟩;rw [hq.out] at hlk;clear g hel;have hI:(k:Int) < l.length:=by omega
   have z7:=hlk.out.2.1.2.2.2.2.2.1;have hblt:=hlk.out.lt;have e1:IntKind.i64.wrap (m.regs+1)=m.regs+1:=by rw [Num.wrap_i64,wrap64_id ⟨by omega,by omega⟩]
   have e2:IntKind.i64.wrap (m.regs+1 - (S:Int))=m.regs+1 - (S:Int):=by rw [Num.wrap_i64,wrap64_id ⟨by omega,by omega⟩]
   have E1:=Lib.hid e1;have E2:=Lib.hid e2;clear e1 e2
   go_wp2_with fail
   have e1:=E1.out;have e2:=E2.out;clear E1 E2;refine Drawn.hd (fun w'=>w'.cell? ⟨b,7,none⟩=some (.int .i64 m.regs)) (hS:=by (try dsimp only);first | exact z7 | go_keep) (h:=fun hHeld=>?_)
   refine dT 0 14 ?_;refine dT 1 15 ?_;refine dT 2 16 ?_;refine dT 3 17 ?_;refine dT 4 18 ?_;refine dT 5 19 ?_;refine dT 6 20 ?_;refine dT 7 21 ?_;refine dT 8 22 ?_;refine dT 9 23 ?_;refine Drawn.cl 10 (fun K hK=>?_);go_simp;refine Drawn.bk hK (h:=fun hHeld=>?_);clear hK K;refine Drawn.cl 11 (fun K hK=>?_);go_simp
   go_at_call 92
   refine (slotsV _ [⟨kd,0⟩] S _ (Ts.one (by go_simp) (by go_simp) hkd (by unfold Ok;omega)) (by simp) hS.out).mono ?_
   rintro e w2 ⟨rfl,hb2⟩;have hb3:Below wr.heap.size wr w2:=Below.trans Rd.byB (hb2.mono (by simp))
   have hlk3:=Lib.hid (hlk.out.next hb3 hlk.out.lt);have hblt2:=hlk3.out.lt
   go_wp2_with fail
   refine Drawn.bk hK (hS:=by (try dsimp only);exact hlk3.out.2.1.2.2.2.2.2.1) (h:=fun hHeld=>?_)
   clear hK K;refine dT 12 26 ?_;refine Drawn.cl 13 (fun K hK=>?_);go_simp
   go_at_call 110
   refine (lin _ _ _ _).mono ?_;rintro e w4 ⟨rfl,rfl⟩
   go_wp2_with fail
   refine Drawn.bk hK (hS:=by (try dsimp only);exact hlk3.out.2.1.2.2.2.2.2.1) (h:=fun hHeld=>?_)
   clear hK K;refine Drawn.cl 14 (fun K hK=>?_);go_simp;refine Drawn.bk hK (h:=fun hHeld=>?_);clear hK K;refine Drawn.cl 15 (fun K hK=>?_);go_simp;refine (must b _ (Form.rng x 0 (m.regs+1 - S)) q vc vm vp vcd vh m _ (hlk3.out.next (Below.alloc (Below.refl _ _) (Nat.le_refl _) _) hlk3.out.lt) (by go_simp)).mono ?_
   rintro e w5 ⟨rfl,hA,hK5⟩;have hA2:=Lib.hid hA;clear hA
   go_wp2_with fail
   refine Drawn.bk hK (hS:=by (try dsimp only);exact hA2.out.2.1.2.2.2.2.2.1) (h:=fun hHeld=>?_)
   clear hK K;refine dN ?_;clear e1 e2
   go_wp2_with fail
   go_roundw
   case rel =>
    refine ⟨k+1,by omega,by go_num,?_,hkp.trans ((Keep.of_below hb3).trans ((Keep.alloc (Keep.refl _ _ _) (Nat.le_refl _) _).trans (hK5.mono (by simp)) |>.mono hb3.size) |>.mono hks)⟩
    rw [hst.out,← Bool.and_assoc,hq.out,← reg_wide m.regs x kd S hS.out];exact hA2.out
   case measure=>simp [intOf];omega
  ·have hge:¬ (k:Int) < l.length:=by omega
   have hst:=Lib.hid (List.take_of_length_le (l:=l) (i:=k) (by omega))
   clear hel
   go_wp2_with fail
   go_end0
   rw [hst.out] at hlk;exact ⟨rfl,hlk.out,hkp⟩
theorem code_of {w:World}{b:Nat}{vc vm vp vcd vh:Value}{m:Me}{ok:Bool}(h:Lk w b vc vm vp vcd vh m ok):w.cell? ⟨b,8,none⟩=some vcd:=h.2.1.2.2.2.2.2.2.1
theorem at' (b:Nat) (n:Int) (ok:Bool) (vc vm vp vh:Value) (da:Option Addr) (dn dcap:Nat) (m:Me) (w:World) (h:Lk w b vc vm vp (.slice da dn dcap) vh m ok) (hd:dn≤dcap) (hd2:dcap≤9223372036854775807) :
  Calls Try.prog 164 #[.pointer (some ⟨b,0,none⟩),.int .i64 n] w fun e w'=>e=.returned (.tuple #[])∧After w b vc vm vp (.slice da dn dcap) vh m (ok && Form.rng n 0 dn) w':=by
 have hlt:=h.lt;have H:=Lib.hid h;have z8:=code_of h;clear h
 go_enter Try.func164,Try.ntmps164
 go_wp2_with (go_at_call 110;refine (lin _ _ _ _).mono ?_;rintro e w1 ⟨rfl,rfl⟩)
 refine (must b _ (Form.rng n 0 dn) ok vc vm vp (.slice da dn dcap) vh m _ (H.out.next (Below.alloc (Below.refl _ _) (Nat.le_refl _) _) H.out.lt) (by go_simp)).mono ?_
 rintro e w5 ⟨rfl,hA,hK5⟩;have hA2:=Lib.hid hA;clear hA
 go_wp2_with fail
 go_end0
 exact ⟨rfl,hA2.out,(Keep.alloc (Keep.refl _ _ _) (Nat.le_refl _) _).trans (hK5.mono (by simp))⟩
theorem cls (b:Nat) (n:Int) (ok:Bool) (vm vp vcd vh:Value) (ca:Option Addr) (cn ccap:Nat) (m:Me) (w:World) (h:Lk w b (.slice ca cn ccap) vm vp vcd vh m ok) (hd:cn≤ccap) (hd2:ccap≤9223372036854775807) :
  Calls Try.prog 206 #[.pointer (some ⟨b,0,none⟩),.int .i64 n] w fun e w'=>e=.returned (.tuple #[])∧After w b (.slice ca cn ccap) vm vp vcd vh m (ok && Form.rng n 0 cn) w':=by
 have hlt:=h.lt;have H:=Lib.hid h;have z8:=h.1.1;clear h
 go_enter Try.func206,Try.ntmps206
 go_wp2_with (go_at_call 110;refine (lin _ _ _ _).mono ?_;rintro e w1 ⟨rfl,rfl⟩)
 refine (must b _ (Form.rng n 0 cn) ok (.slice ca cn ccap) vm vp vcd vh m _ (H.out.next (Below.alloc (Below.refl _ _) (Nat.le_refl _) _) H.out.lt) (by go_simp)).mono ?_
 rintro e w5 ⟨rfl,hA,hK5⟩;have hA2:=Lib.hid hA;clear hA
 go_wp2_with fail
 go_end0
 exact ⟨rfl,hA2.out,(Keep.alloc (Keep.refl _ _ _) (Nat.le_refl _) _).trans (hK5.mono (by simp))⟩
end Look
namespace Look
open Num Rd D HierW FormW
variable {w:World}{lb:Nat}{vc vm vp vcd vh:Value}{m:Me}{ok:Bool}
theorem After.before {o:Obj}{q:Bool}{w':World}(h:After (w.alloc o) lb vc vm vp vcd vh m q w'):After w lb vc vm vp vcd vh m q w' :=
 ⟨h.1,(Keep.alloc (Keep.refl _ _ _) (Nat.le_refl _) _).trans (h.2.mono (by simp))⟩
theorem mustA {p:Bool}{T:TypeId}{nb:Nat}(hn:nb=w.heap.size) (h:Lk w lb vc vm vp vcd vh m ok):Calls Try.prog 161 #[.pointer (some ⟨lb,0,none⟩),.slice (some ⟨nb,0,none⟩) 1 1] (w.alloc (.cells #[.bool p] T))
  fun e w'=>e=.returned (.tuple #[])∧After w lb vc vm vp vcd vh m (ok && p) w':=by
 subst hn;exact (must lb w.heap.size p ok vc vm vp vcd vh m _ (h.next (Below.alloc (Below.refl _ _) (Nat.le_refl _) _) h.lt) (by go_simp)).mono fun e w' ⟨h1,h2⟩=>⟨h1,h2.before⟩
theorem box1 {x:Int}{T:TypeId}{L:List Int}(hL:L=[x]) (hlt:lb < w.heap.size):∃ n cap,Value.slice (some ⟨w.heap.size,0,none⟩) 1 1=.slice (some ⟨n,0,none⟩) L.length cap∧n≠lb∧L.length≤cap∧cap≤8∧∀ i (h:i < L.length),(w.alloc (.cells #[.int .i64 x] T)).cell? ⟨n,i,none⟩=some (.int .i64 L[i]):=by
 subst hL;refine ⟨w.heap.size,1,rfl,by omega,by simp,by omega,fun i h=>?_⟩
 obtain rfl:i=0:=by simpa using h
 go_simp
theorem box2 {x y:Int}{T:TypeId}{L:List Int}(hL:L=[x,y]) (hlt:lb < w.heap.size):∃ n cap,Value.slice (some ⟨w.heap.size,0,none⟩) 2 2=.slice (some ⟨n,0,none⟩) L.length cap∧n≠lb∧L.length≤cap∧cap≤8∧∀ i (h:i < L.length),(w.alloc (.cells #[.int .i64 x,.int .i64 y] T)).cell? ⟨n,i,none⟩=some (.int .i64 L[i]):=by
 subst hL;refine ⟨w.heap.size,2,rfl,by omega,by simp,by omega,fun i h=>?_⟩
 have h2:i=0∨i=1:=by simp at h;omega
 rcases h2 with rfl | rfl <;> go_simp
theorem box3 {x y z:Int}{T:TypeId}{L:List Int}(hL:L=[x,y,z]) (hlt:lb < w.heap.size):∃ n cap,Value.slice (some ⟨w.heap.size,0,none⟩) 3 3=.slice (some ⟨n,0,none⟩) L.length cap∧n≠lb∧L.length≤cap∧cap≤8∧∀ i (h:i < L.length),(w.alloc (.cells #[.int .i64 x,.int .i64 y,.int .i64 z] T)).cell? ⟨n,i,none⟩=some (.int .i64 L[i]):=by
 subst hL;refine ⟨w.heap.size,3,rfl,by omega,by simp,by omega,fun i h=>?_⟩
 have h2:i=0∨i=1∨i=2:=by simp at h;omega
 rcases h2 with rfl | rfl | rfl <;> go_simp
theorem nought1A {x:Int}{T:TypeId}{nb:Nat}(hn:nb=w.heap.size) (h:Lk w lb vc vm vp vcd vh m ok):Calls Try.prog 163 #[.pointer (some ⟨lb,0,none⟩),.slice (some ⟨nb,0,none⟩) 1 1] (w.alloc (.cells #[.int .i64 x] T))
  fun e w'=>e=.returned (.tuple #[])∧After w lb vc vm vp vcd vh m (ok && decide (x=0)) w':=by
 subst hn;exact (nought lb _ [x] ok vc vm vp vcd vh m _ (h.next (Below.alloc (Below.refl _ _) (Nat.le_refl _) _) h.lt) (by simp) (box1 rfl h.lt)).mono fun e w' ⟨h1,h2⟩=>⟨h1,by simpa using h2.before⟩
theorem nought2A {x y:Int}{T:TypeId}{nb:Nat}(hn:nb=w.heap.size) (h:Lk w lb vc vm vp vcd vh m ok):Calls Try.prog 163 #[.pointer (some ⟨lb,0,none⟩),.slice (some ⟨nb,0,none⟩) 2 2] (w.alloc (.cells #[.int .i64 x,.int .i64 y] T))
  fun e w'=>e=.returned (.tuple #[])∧After w lb vc vm vp vcd vh m (ok && (decide (x=0) && decide (y=0))) w':=by
 subst hn;exact (nought lb _ [x,y] ok vc vm vp vcd vh m _ (h.next (Below.alloc (Below.refl _ _) (Nat.le_refl _) _) h.lt) (by simp) (box2 rfl h.lt)).mono fun e w' ⟨h1,h2⟩=>⟨h1,by simpa using h2.before⟩
theorem reg1A {kd x:Int}{T:TypeId}{nb:Nat}(hn:nb=w.heap.size) (h:Lk w lb vc vm vp vcd vh m ok) (hkd:Ok kd) (hr:0≤m.regs∧m.regs≤90):Calls Try.prog 162 #[.pointer (some ⟨lb,0,none⟩),.int .i64 kd,.slice (some ⟨nb,0,none⟩) 1 1] (w.alloc (.cells #[.int .i64 x] T))
  fun e w'=>e=.returned (.tuple #[])∧After w lb vc vm vp vcd vh m (ok && Rform.reg m.regs x kd) w':=by
 subst hn;exact (reg lb kd _ [x] ok vc vm vp vcd vh m _ (h.next (Below.alloc (Below.refl _ _) (Nat.le_refl _) _) h.lt) hkd hr (by simp) (box1 rfl h.lt)).mono fun e w' ⟨h1,h2⟩=>⟨h1,by simpa using h2.before⟩
theorem reg2A {kd x y:Int}{T:TypeId}{nb:Nat}(hn:nb=w.heap.size) (h:Lk w lb vc vm vp vcd vh m ok) (hkd:Ok kd) (hr:0≤m.regs∧m.regs≤90):Calls Try.prog 162 #[.pointer (some ⟨lb,0,none⟩),.int .i64 kd,.slice (some ⟨nb,0,none⟩) 2 2] (w.alloc (.cells #[.int .i64 x,.int .i64 y] T))
  fun e w'=>e=.returned (.tuple #[])∧After w lb vc vm vp vcd vh m (ok && (Rform.reg m.regs x kd && Rform.reg m.regs y kd)) w':=by
 subst hn;exact (reg lb kd _ [x,y] ok vc vm vp vcd vh m _ (h.next (Below.alloc (Below.refl _ _) (Nat.le_refl _) _) h.lt) hkd hr (by simp) (box2 rfl h.lt)).mono fun e w' ⟨h1,h2⟩=>⟨h1,by simpa using h2.before⟩
theorem reg3A {kd x y z:Int}{T:TypeId}{nb:Nat}(hn:nb=w.heap.size) (h:Lk w lb vc vm vp vcd vh m ok) (hkd:Ok kd) (hr:0≤m.regs∧m.regs≤90):Calls Try.prog 162 #[.pointer (some ⟨lb,0,none⟩),.int .i64 kd,.slice (some ⟨nb,0,none⟩) 3 3] (w.alloc (.cells #[.int .i64 x,.int .i64 y,.int .i64 z] T))
  fun e w'=>e=.returned (.tuple #[])∧After w lb vc vm vp vcd vh m (ok && (Rform.reg m.regs x kd && (Rform.reg m.regs y kd && Rform.reg m.regs z kd))) w':=by
 subst hn;exact (reg lb kd _ [x,y,z] ok vc vm vp vcd vh m _ (h.next (Below.alloc (Below.refl _ _) (Nat.le_refl _) _) h.lt) hkd hr (by simp) (box3 rfl h.lt)).mono fun e w' ⟨h1,h2⟩=>⟨h1,by simpa using h2.before⟩
theorem atA {n:Int}{da:Option Addr}{dn dcap:Nat}(h:Lk w lb vc vm vp (.slice da dn dcap) vh m ok) (hd:dn≤dcap) (hd2:dcap≤9223372036854775807):Calls Try.prog 164 #[.pointer (some ⟨lb,0,none⟩),.int .i64 n] w
  fun e w'=>e=.returned (.tuple #[])∧After w lb vc vm vp (.slice da dn dcap) vh m (ok && Form.rng n 0 dn) w':=at' lb n ok vc vm vp vh da dn dcap m w h hd hd2
theorem clsA {n:Int}{ca:Option Addr}{cn ccap:Nat}(h:Lk w lb (.slice ca cn ccap) vm vp vcd vh m ok) (hd:cn≤ccap) (hd2:ccap≤9223372036854775807):Calls Try.prog 206 #[.pointer (some ⟨lb,0,none⟩),.int .i64 n] w
  fun e w'=>e=.returned (.tuple #[])∧After w lb (.slice ca cn ccap) vm vp vcd vh m (ok && Form.rng n 0 cn) w':=cls lb n ok vm vp vcd vh ca cn ccap m w h hd hd2
theorem After.behind {q:Bool}{w':World}(h:After w.drew lb vc vm vp vcd vh m q w'):After w lb vc vm vp vcd vh m q w':=⟨h.1,(Keep.drew (Keep.refl w.heap.size lb w)).trans h.2⟩
theorem reg1D {kd x:Int}{T:TypeId}{nb:Nat}(hn:nb=w.heap.size) (h:Lk w lb vc vm vp vcd vh m ok) (hkd:Ok kd) (hr:0≤m.regs∧m.regs≤90):Calls Try.prog 162 #[.pointer (some ⟨lb,0,none⟩),.int .i64 kd,.slice (some ⟨nb,0,none⟩) 1 1] (w.alloc (.cells #[.int .i64 x] T)).drew
  fun e w'=>e=.returned (.tuple #[])∧After w lb vc vm vp vcd vh m (ok && Rform.reg m.regs x kd) w':=by
 have h2:=reg1A (w:=w.drew) (x:=x) (T:=T) hn (h.next (Below.drew (Below.refl _ _)) h.lt) hkd hr;exact h2.mono fun e w' ⟨h1,h3⟩=>⟨h1,h3.behind⟩
theorem mustD {p:Bool}{T:TypeId}{nb:Nat}(hn:nb=w.heap.size) (h:Lk w lb vc vm vp vcd vh m ok):Calls Try.prog 161 #[.pointer (some ⟨lb,0,none⟩),.slice (some ⟨nb,0,none⟩) 1 1] (w.alloc (.cells #[.bool p] T)).drew
  fun e w'=>e=.returned (.tuple #[])∧After w lb vc vm vp vcd vh m (ok && p) w':=by
 have h2:=mustA (w:=w.drew) (p:=p) (T:=T) hn (h.next (Below.drew (Below.refl _ _)) h.lt);exact h2.mono fun e w' ⟨h1,h3⟩=>⟨h1,h3.behind⟩
end Look
namespace Look
open Num Rd D HierW FormW
structure Fit (f:Fi) (m:Me) (cn ccap dcap:Nat):Prop where
 hc1:cn≤ccap
 hc2:ccap≤9223372036854775807
 hd1:m.code.length≤dcap
 hd2:dcap≤9223372036854775807
 hr:0≤m.regs∧m.regs≤90
theorem after_eq {w w':World}{lb:Nat}{vc vm vp vcd vh:Value}{m:Me}{p q:Bool}(h:Lk w' lb vc vm vp vcd vh m p) (hT:Keep w.heap.size lb w w') (e:p=q):After w lb vc vm vp vcd vh m q w':=by subst e;exact ⟨h,hT⟩
set_option maxRecDepth 100000 in
theorem insA (op:Int) (hop:op=1∨op=2∨op=3∨op=4∨op=5∨op=6∨op=7∨op=8∨op=9∨op=10∨op=11∨op=12∨op=21∨op=22) (f:Fi) (m:Me) (a b c n:Int) (args:List Int) (lb:Nat) (ca:Option Addr) (ccap:Nat) (vm vp:Value) (da:Option Addr) (dcap:Nat) (vh:Value) (aa:Option Addr) (acap:Nat) (w:World)
  (h:Lk w lb (.slice ca f.classes.length ccap) vm vp (.slice da m.code.length dcap) vh m true) (hF:Fit f m f.classes.length ccap dcap) (oks:Ok a∧Ok b∧Ok c∧Ok n) (ha:args.length≤acap∧acap≤9223372036854775807) :
  Calls Try.prog 112 #[.pointer (some ⟨lb,0,none⟩),.agg #[.int .i64 op,.int .i64 a,.int .i64 b,.int .i64 c,.int .i64 n,.slice aa args.length acap]] w
   fun e w'=>e=.returned (.tuple #[])∧After w lb (.slice ca f.classes.length ccap) vm vp (.slice da m.code.length dcap) vh m (Rform.ins f m ⟨op,a,b,c,n,args⟩) w':=by
 obtain ⟨hc1,hc2,hd1,hd2,hr⟩:=hF;obtain ⟨oa,ob,oc,on⟩:=oks;obtain ⟨ha1,ha2⟩:=ha;obtain ⟨hr1,hr2⟩:=hr;have hr:0≤m.regs∧m.regs≤90:=⟨hr1,hr2⟩;have hlt:=h.lt;have hne:w.heap.size≠lb:=by omega
 have hL:=Lib.hid (h.next (Below.alloc (Below.refl _ _) (Nat.le_refl _) (.cells #[.int .i64 op,.int .i64 a,.int .i64 b,.int .i64 c,.int .i64 n,.slice aa args.length acap] 63)) h.lt);have hT:Keep w.heap.size lb w (w.alloc (.cells #[.int .i64 op,.int .i64 a,.int .i64 b,.int .i64 c,.int .i64 n,.slice aa args.length acap] 63)):=Keep.alloc (Keep.refl _ _ _) (Nat.le_refl _) _;have hTs:=hT.size;have hbl:=hL.out.lt;have x0:(w.alloc (.cells #[.int .i64 op,.int .i64 a,.int .i64 b,.int .i64 c,.int .i64 n,.slice aa args.length acap] 63)).cell? ⟨w.heap.size,0,none⟩=some (.int .i64 op):=by go_simp
 have x1:(w.alloc (.cells #[.int .i64 op,.int .i64 a,.int .i64 b,.int .i64 c,.int .i64 n,.slice aa args.length acap] 63)).cell? ⟨w.heap.size,1,none⟩=some (.int .i64 a):=by go_simp
 have x2:(w.alloc (.cells #[.int .i64 op,.int .i64 a,.int .i64 b,.int .i64 c,.int .i64 n,.slice aa args.length acap] 63)).cell? ⟨w.heap.size,2,none⟩=some (.int .i64 b):=by go_simp
 have x3:(w.alloc (.cells #[.int .i64 op,.int .i64 a,.int .i64 b,.int .i64 c,.int .i64 n,.slice aa args.length acap] 63)).cell? ⟨w.heap.size,3,none⟩=some (.int .i64 c):=by go_simp
 have x4:(w.alloc (.cells #[.int .i64 op,.int .i64 a,.int .i64 b,.int .i64 c,.int .i64 n,.slice aa args.length acap] 63)).cell? ⟨w.heap.size,4,none⟩=some (.int .i64 n):=by go_simp
 have x5:(w.alloc (.cells #[.int .i64 op,.int .i64 a,.int .i64 b,.int .i64 c,.int .i64 n,.slice aa args.length acap] 63)).cell? ⟨w.heap.size,5,none⟩=some (.slice aa args.length acap):=by go_simp
 clear h
 rcases hop with rfl | rfl | rfl | rfl | rfl | rfl | rfl | rfl | rfl | rfl | rfl | rfl | rfl | rfl
 all_goals as_aux_lemma =>
  go_enter Try.func112,Try.ntmps112
  go_wp2_with (first
   | (go_at_call 161;(first | (with_reducible refine (mustA (by first | rfl | simp) hL.out).mono ?_));rintro e w1 ⟨rfl,hA,hK⟩;replace hL:=Lib.hid hA;clear hA;replace hT:=hT.trans (hK.mono hTs);replace hTs:=Nat.le_trans hTs hK.size;replace x0:=hK.cell (lt_cell x0) hne x0;replace x1:=hK.cell (lt_cell x1) hne x1;replace x2:=hK.cell (lt_cell x2) hne x2;replace x3:=hK.cell (lt_cell x3) hne x3;replace x4:=hK.cell (lt_cell x4) hne x4;replace x5:=hK.cell (lt_cell x5) hne x5;replace hbl:=hL.out.lt;clear hK)
   | (go_at_call 162;(first | (with_reducible refine (reg1A (by first | rfl | simp) hL.out (by first | with_reducible assumption | (unfold Ok;omega)) hr).mono ?_) | (with_reducible refine (reg2A (by first | rfl | simp) hL.out (by first | with_reducible assumption | (unfold Ok;omega)) hr).mono ?_) | (with_reducible refine (reg3A (by first | rfl | simp) hL.out (by first | with_reducible assumption | (unfold Ok;omega)) hr).mono ?_));rintro e w1 ⟨rfl,hA,hK⟩;replace hL:=Lib.hid hA;clear hA;replace hT:=hT.trans (hK.mono hTs);replace hTs:=Nat.le_trans hTs hK.size;replace x0:=hK.cell (lt_cell x0) hne x0;replace x1:=hK.cell (lt_cell x1) hne x1;replace x2:=hK.cell (lt_cell x2) hne x2;replace x3:=hK.cell (lt_cell x3) hne x3;replace x4:=hK.cell (lt_cell x4) hne x4;replace x5:=hK.cell (lt_cell x5) hne x5;replace hbl:=hL.out.lt;clear hK)
   | (go_at_call 163;(first | (with_reducible refine (nought1A (by first | rfl | simp) hL.out).mono ?_) | (with_reducible refine (nought2A (by first | rfl | simp) hL.out).mono ?_));rintro e w1 ⟨rfl,hA,hK⟩;replace hL:=Lib.hid hA;clear hA;replace hT:=hT.trans (hK.mono hTs);replace hTs:=Nat.le_trans hTs hK.size;replace x0:=hK.cell (lt_cell x0) hne x0;replace x1:=hK.cell (lt_cell x1) hne x1;replace x2:=hK.cell (lt_cell x2) hne x2;replace x3:=hK.cell (lt_cell x3) hne x3;replace x4:=hK.cell (lt_cell x4) hne x4;replace x5:=hK.cell (lt_cell x5) hne x5;replace hbl:=hL.out.lt;clear hK)
   | (go_at_call 164;(first | (with_reducible refine (atA hL.out hd1 hd2).mono ?_));rintro e w1 ⟨rfl,hA,hK⟩;replace hL:=Lib.hid hA;clear hA;replace hT:=hT.trans (hK.mono hTs);replace hTs:=Nat.le_trans hTs hK.size;replace x0:=hK.cell (lt_cell x0) hne x0;replace x1:=hK.cell (lt_cell x1) hne x1;replace x2:=hK.cell (lt_cell x2) hne x2;replace x3:=hK.cell (lt_cell x3) hne x3;replace x4:=hK.cell (lt_cell x4) hne x4;replace x5:=hK.cell (lt_cell x5) hne x5;replace hbl:=hL.out.lt;clear hK)
   | (go_at_call 206;(first | (with_reducible refine (clsA hL.out hc1 hc2).mono ?_));rintro e w1 ⟨rfl,hA,hK⟩;replace hL:=Lib.hid hA;clear hA;replace hT:=hT.trans (hK.mono hTs);replace hTs:=Nat.le_trans hTs hK.size;replace x0:=hK.cell (lt_cell x0) hne x0;replace x1:=hK.cell (lt_cell x1) hne x1;replace x2:=hK.cell (lt_cell x2) hne x2;replace x3:=hK.cell (lt_cell x3) hne x3;replace x4:=hK.cell (lt_cell x4) hne x4;replace x5:=hK.cell (lt_cell x5) hne x5;replace hbl:=hL.out.lt;clear hK)
   | (go_at_call 110;refine (lin _ _ _ _).mono ?_;rintro e w1 ⟨rfl,rfl⟩))
  all_goals
   go_end0
   refine ⟨rfl,after_eq hL.out hT ?_⟩;go_tidy;have e0:((args.length:Int)==0)=decide (args.length=0):=by rw [Bool.eq_iff_iff];simp
   have e1:(n==wrap64 (wrap32 n))=decide (wrap32 n=n):=by rw [wrap64_id (wrap32_ok n),Bool.eq_iff_iff];simp;exact eq_comm
   have e2:(n==0)=decide (n=0):=rfl;simp only [Rform.ins,Rform.body,Rform.num,Form.rng,e0,e1,e2]
   generalize decide (args.length=0)=A
   simp
   first
    | done
    | ac_rfl
    | (rw [Bool.eq_iff_iff];simp only [Bool.and_eq_true,decide_eq_true_eq];(try simp only [Rform.reg,Form.rng,decide_eq_true_eq]);omega)
    | grind
end Look
namespace Look
open Num Rd D HierW FormW
def Got (w:World) (lb:Nat) (vc vm vp vcd vh:Value) (m:Me) (X:Bool) (e:Ending) (w':World):Prop :=
 ∃ (v:Int) (q:Bool),e=.returned (.int .i64 v)∧After w lb vc vm vp vcd vh m q w'∧(q && decide (v=0))=X
theorem got_eq {w w':World}{lb:Nat}{vc vm vp vcd vh:Value}{m:Me}{q X:Bool}{v:Int}(h:Lk w' lb vc vm vp vcd vh m q) (hT:Keep w.heap.size lb w w') (e:(q && decide (v=0))=X):Got w lb vc vm vp vcd vh m X (.returned (.int .i64 v)) w':=⟨v,q,rfl,⟨h,hT⟩,e⟩
def moreX (f:Fi) (m:Me) (ok:Bool) (i:Ins):Bool:=ok && (Rform.body f.classes f.methods m.code.length m.regs m.ret.kind i && Rform.num i)
set_option maxRecDepth 100000 in
theorem moreA (f:Fi) (m:Me) (op a b c n:Int) (args:List Int) (ok:Bool) (lb:Nat) (ca:Option Addr) (ccap:Nat) (vm vp:Value) (da:Option Addr) (dcap:Nat) (vh:Value) (aa:Option Addr) (acap:Nat) (w:World)
  (h:Lk w lb (.slice ca f.classes.length ccap) vm vp (.slice da m.code.length dcap) vh m ok) (hF:Fit f m f.classes.length ccap dcap) (oks:Ok a∧Ok b∧Ok c∧Ok n) (ha:args.length≤acap∧acap≤9223372036854775807) (hop:op=13∨op=16∨op=17∨op=19∨op=23∨op=24) :
  Calls Try.prog 165 #[.pointer (some ⟨lb,0,none⟩),.agg #[.int .i64 op,.int .i64 a,.int .i64 b,.int .i64 c,.int .i64 n,.slice aa args.length acap]] w
   (Got w lb (.slice ca f.classes.length ccap) vm vp (.slice da m.code.length dcap) vh m (moreX f m ok ⟨op,a,b,c,n,args⟩)):=by
 obtain ⟨hc1,hc2,hd1,hd2,hr⟩:=hF;obtain ⟨oa,ob,oc,on⟩:=oks;obtain ⟨ha1,ha2⟩:=ha;obtain ⟨hr1,hr2⟩:=hr;have hr:0≤m.regs∧m.regs≤90:=⟨hr1,hr2⟩;have hlt:=h.lt;have hne:w.heap.size≠lb:=by omega
 have hL:=Lib.hid (h.next (Below.alloc (Below.refl _ _) (Nat.le_refl _) (.cells #[.int .i64 op,.int .i64 a,.int .i64 b,.int .i64 c,.int .i64 n,.slice aa args.length acap] 63)) h.lt);have hT:Keep w.heap.size lb w (w.alloc (.cells #[.int .i64 op,.int .i64 a,.int .i64 b,.int .i64 c,.int .i64 n,.slice aa args.length acap] 63)):=Keep.alloc (Keep.refl _ _ _) (Nat.le_refl _) _;have hTs:=hT.size;have hbl:=hL.out.lt;have x0:(w.alloc (.cells #[.int .i64 op,.int .i64 a,.int .i64 b,.int .i64 c,.int .i64 n,.slice aa args.length acap] 63)).cell? ⟨w.heap.size,0,none⟩=some (.int .i64 op):=by go_simp
 have x1:(w.alloc (.cells #[.int .i64 op,.int .i64 a,.int .i64 b,.int .i64 c,.int .i64 n,.slice aa args.length acap] 63)).cell? ⟨w.heap.size,1,none⟩=some (.int .i64 a):=by go_simp
 have x2:(w.alloc (.cells #[.int .i64 op,.int .i64 a,.int .i64 b,.int .i64 c,.int .i64 n,.slice aa args.length acap] 63)).cell? ⟨w.heap.size,2,none⟩=some (.int .i64 b):=by go_simp
 have x3:(w.alloc (.cells #[.int .i64 op,.int .i64 a,.int .i64 b,.int .i64 c,.int .i64 n,.slice aa args.length acap] 63)).cell? ⟨w.heap.size,3,none⟩=some (.int .i64 c):=by go_simp
 have x4:(w.alloc (.cells #[.int .i64 op,.int .i64 a,.int .i64 b,.int .i64 c,.int .i64 n,.slice aa args.length acap] 63)).cell? ⟨w.heap.size,4,none⟩=some (.int .i64 n):=by go_simp
 have x5:(w.alloc (.cells #[.int .i64 op,.int .i64 a,.int .i64 b,.int .i64 c,.int .i64 n,.slice aa args.length acap] 63)).cell? ⟨w.heap.size,5,none⟩=some (.slice aa args.length acap):=by go_simp
 clear h
 rcases hop with rfl | rfl | rfl | rfl | rfl | rfl
 all_goals as_aux_lemma =>
  go_enter Try.func165,Try.ntmps165
  go_wp2_with (first
   | (go_at_call 161;(first | (with_reducible refine (mustA (by first | rfl | simp) hL.out).mono ?_));rintro e w1 ⟨rfl,hA,hK⟩;replace hL:=Lib.hid hA;clear hA;replace hT:=hT.trans (hK.mono hTs);replace hTs:=Nat.le_trans hTs hK.size;replace x0:=hK.cell (lt_cell x0) hne x0;replace x1:=hK.cell (lt_cell x1) hne x1;replace x2:=hK.cell (lt_cell x2) hne x2;replace x3:=hK.cell (lt_cell x3) hne x3;replace x4:=hK.cell (lt_cell x4) hne x4;replace x5:=hK.cell (lt_cell x5) hne x5;replace hbl:=hL.out.lt;clear hK)
   | (go_at_call 162;(first | (with_reducible refine (reg1A (by first | rfl | simp) hL.out (by first | with_reducible assumption | (unfold Ok;omega)) hr).mono ?_) | (with_reducible refine (reg2A (by first | rfl | simp) hL.out (by first | with_reducible assumption | (unfold Ok;omega)) hr).mono ?_) | (with_reducible refine (reg3A (by first | rfl | simp) hL.out (by first | with_reducible assumption | (unfold Ok;omega)) hr).mono ?_));rintro e w1 ⟨rfl,hA,hK⟩;replace hL:=Lib.hid hA;clear hA;replace hT:=hT.trans (hK.mono hTs);replace hTs:=Nat.le_trans hTs hK.size;replace x0:=hK.cell (lt_cell x0) hne x0;replace x1:=hK.cell (lt_cell x1) hne x1;replace x2:=hK.cell (lt_cell x2) hne x2;replace x3:=hK.cell (lt_cell x3) hne x3;replace x4:=hK.cell (lt_cell x4) hne x4;replace x5:=hK.cell (lt_cell x5) hne x5;replace hbl:=hL.out.lt;clear hK)
   | (go_at_call 163;(first | (with_reducible refine (nought1A (by first | rfl | simp) hL.out).mono ?_) | (with_reducible refine (nought2A (by first | rfl | simp) hL.out).mono ?_));rintro e w1 ⟨rfl,hA,hK⟩;replace hL:=Lib.hid hA;clear hA;replace hT:=hT.trans (hK.mono hTs);replace hTs:=Nat.le_trans hTs hK.size;replace x0:=hK.cell (lt_cell x0) hne x0;replace x1:=hK.cell (lt_cell x1) hne x1;replace x2:=hK.cell (lt_cell x2) hne x2;replace x3:=hK.cell (lt_cell x3) hne x3;replace x4:=hK.cell (lt_cell x4) hne x4;replace x5:=hK.cell (lt_cell x5) hne x5;replace hbl:=hL.out.lt;clear hK)
   | (go_at_call 164;(first | (with_reducible refine (atA hL.out hd1 hd2).mono ?_));rintro e w1 ⟨rfl,hA,hK⟩;replace hL:=Lib.hid hA;clear hA;replace hT:=hT.trans (hK.mono hTs);replace hTs:=Nat.le_trans hTs hK.size;replace x0:=hK.cell (lt_cell x0) hne x0;replace x1:=hK.cell (lt_cell x1) hne x1;replace x2:=hK.cell (lt_cell x2) hne x2;replace x3:=hK.cell (lt_cell x3) hne x3;replace x4:=hK.cell (lt_cell x4) hne x4;replace x5:=hK.cell (lt_cell x5) hne x5;replace hbl:=hL.out.lt;clear hK)
   | (go_at_call 206;(first | (with_reducible refine (clsA hL.out hc1 hc2).mono ?_));rintro e w1 ⟨rfl,hA,hK⟩;replace hL:=Lib.hid hA;clear hA;replace hT:=hT.trans (hK.mono hTs);replace hTs:=Nat.le_trans hTs hK.size;replace x0:=hK.cell (lt_cell x0) hne x0;replace x1:=hK.cell (lt_cell x1) hne x1;replace x2:=hK.cell (lt_cell x2) hne x2;replace x3:=hK.cell (lt_cell x3) hne x3;replace x4:=hK.cell (lt_cell x4) hne x4;replace x5:=hK.cell (lt_cell x5) hne x5;replace hbl:=hL.out.lt;clear hK)
   | (go_at_call 110;refine (lin _ _ _ _).mono ?_;rintro e w1 ⟨rfl,rfl⟩))
  all_goals
   go_ret;refine got_eq hL.out hT ?_;go_tidy;simp only [moreX,Rform.body,Rform.num,Form.rng]
   simp
   first
    | done
    | ac_rfl
    | (rw [Bool.eq_iff_iff];simp only [Bool.and_eq_true,decide_eq_true_eq];(try simp only [Rform.reg,Form.rng,decide_eq_true_eq]);omega)
    | grind
set_option maxRecDepth 100000 in
theorem moreNo (f:Fi) (m:Me) (op a b c n:Int) (args:List Int) (ok:Bool) (lb:Nat) (ca:Option Addr) (ccap:Nat) (vm vp:Value) (da:Option Addr) (dcap:Nat) (vh:Value) (aa:Option Addr) (acap:Nat) (w:World)
  (h:Lk w lb (.slice ca f.classes.length ccap) vm vp (.slice da m.code.length dcap) vh m ok) (hF:Fit f m f.classes.length ccap dcap) (oks:Ok a∧Ok b∧Ok c∧Ok n) (ha:args.length≤acap∧acap≤9223372036854775807) (hop:¬ (13≤op∧op≤20)∧op≠23∧op≠24∧¬ (1≤op∧op≤12)∧op≠21∧op≠22) :
  Calls Try.prog 165 #[.pointer (some ⟨lb,0,none⟩),.agg #[.int .i64 op,.int .i64 a,.int .i64 b,.int .i64 c,.int .i64 n,.slice aa args.length acap]] w
   (Got w lb (.slice ca f.classes.length ccap) vm vp (.slice da m.code.length dcap) vh m (moreX f m ok ⟨op,a,b,c,n,args⟩)):=by
 obtain ⟨hc1,hc2,hd1,hd2,hr⟩:=hF;obtain ⟨oa,ob,oc,on⟩:=oks;obtain ⟨ha1,ha2⟩:=ha;obtain ⟨hr1,hr2⟩:=hr;have hr:0≤m.regs∧m.regs≤90:=⟨hr1,hr2⟩;have hlt:=h.lt;have hne:w.heap.size≠lb:=by omega
 have hL:=Lib.hid (h.next (Below.alloc (Below.refl _ _) (Nat.le_refl _) (.cells #[.int .i64 op,.int .i64 a,.int .i64 b,.int .i64 c,.int .i64 n,.slice aa args.length acap] 63)) h.lt);have hT:Keep w.heap.size lb w (w.alloc (.cells #[.int .i64 op,.int .i64 a,.int .i64 b,.int .i64 c,.int .i64 n,.slice aa args.length acap] 63)):=Keep.alloc (Keep.refl _ _ _) (Nat.le_refl _) _;have hTs:=hT.size;have hbl:=hL.out.lt;have x0:(w.alloc (.cells #[.int .i64 op,.int .i64 a,.int .i64 b,.int .i64 c,.int .i64 n,.slice aa args.length acap] 63)).cell? ⟨w.heap.size,0,none⟩=some (.int .i64 op):=by go_simp
 have x1:(w.alloc (.cells #[.int .i64 op,.int .i64 a,.int .i64 b,.int .i64 c,.int .i64 n,.slice aa args.length acap] 63)).cell? ⟨w.heap.size,1,none⟩=some (.int .i64 a):=by go_simp
 have x2:(w.alloc (.cells #[.int .i64 op,.int .i64 a,.int .i64 b,.int .i64 c,.int .i64 n,.slice aa args.length acap] 63)).cell? ⟨w.heap.size,2,none⟩=some (.int .i64 b):=by go_simp
 have x3:(w.alloc (.cells #[.int .i64 op,.int .i64 a,.int .i64 b,.int .i64 c,.int .i64 n,.slice aa args.length acap] 63)).cell? ⟨w.heap.size,3,none⟩=some (.int .i64 c):=by go_simp
 have x4:(w.alloc (.cells #[.int .i64 op,.int .i64 a,.int .i64 b,.int .i64 c,.int .i64 n,.slice aa args.length acap] 63)).cell? ⟨w.heap.size,4,none⟩=some (.int .i64 n):=by go_simp
 have x5:(w.alloc (.cells #[.int .i64 op,.int .i64 a,.int .i64 b,.int .i64 c,.int .i64 n,.slice aa args.length acap] 63)).cell? ⟨w.heap.size,5,none⟩=some (.slice aa args.length acap):=by go_simp
 clear h;have n13:(op==13)=false:=by simp;omega
 have n16:(op==16)=false:=by simp;omega
 have n14:(op==14)=false:=by simp;omega
 have n15:(op==15)=false:=by simp;omega
 have n17:(op==17)=false:=by simp;omega
 have n18:(op==18)=false:=by simp;omega
 have n19:(op==19)=false:=by simp;omega
 have n23:(op==23)=false:=by simp;omega
 have n20:(op==20)=false:=by simp;omega
 have n24:(op==24)=false:=by simp;omega
 have hX:Hid (moreX f m ok ⟨op,a,b,c,n,args⟩=false):=by
  show _=_
  unfold moreX
  have:Rform.body f.classes f.methods m.code.length m.regs m.ret.kind ⟨op,a,b,c,n,args⟩=false:=by
   unfold Rform.body;simp only
   repeat rw [if_neg (by omega)]
  rw [this];simp
 clear hop
 go_enter Try.func165,Try.ntmps165
 go_wp2_with (first
   | (go_at_call 161;(first | (with_reducible refine (mustA (by first | rfl | simp) hL.out).mono ?_));rintro e w1 ⟨rfl,hA,hK⟩;replace hL:=Lib.hid hA;clear hA;replace hT:=hT.trans (hK.mono hTs);replace hTs:=Nat.le_trans hTs hK.size;replace x0:=hK.cell (lt_cell x0) hne x0;replace x1:=hK.cell (lt_cell x1) hne x1;replace x2:=hK.cell (lt_cell x2) hne x2;replace x3:=hK.cell (lt_cell x3) hne x3;replace x4:=hK.cell (lt_cell x4) hne x4;replace x5:=hK.cell (lt_cell x5) hne x5;replace hbl:=hL.out.lt;clear hK)
   | (go_at_call 162;(first | (with_reducible refine (reg1A (by first | rfl | simp) hL.out (by first | with_reducible assumption | (unfold Ok;omega)) hr).mono ?_) | (with_reducible refine (reg2A (by first | rfl | simp) hL.out (by first | with_reducible assumption | (unfold Ok;omega)) hr).mono ?_) | (with_reducible refine (reg3A (by first | rfl | simp) hL.out (by first | with_reducible assumption | (unfold Ok;omega)) hr).mono ?_));rintro e w1 ⟨rfl,hA,hK⟩;replace hL:=Lib.hid hA;clear hA;replace hT:=hT.trans (hK.mono hTs);replace hTs:=Nat.le_trans hTs hK.size;replace x0:=hK.cell (lt_cell x0) hne x0;replace x1:=hK.cell (lt_cell x1) hne x1;replace x2:=hK.cell (lt_cell x2) hne x2;replace x3:=hK.cell (lt_cell x3) hne x3;replace x4:=hK.cell (lt_cell x4) hne x4;replace x5:=hK.cell (lt_cell x5) hne x5;replace hbl:=hL.out.lt;clear hK)
   | (go_at_call 163;(first | (with_reducible refine (nought1A (by first | rfl | simp) hL.out).mono ?_) | (with_reducible refine (nought2A (by first | rfl | simp) hL.out).mono ?_));rintro e w1 ⟨rfl,hA,hK⟩;replace hL:=Lib.hid hA;clear hA;replace hT:=hT.trans (hK.mono hTs);replace hTs:=Nat.le_trans hTs hK.size;replace x0:=hK.cell (lt_cell x0) hne x0;replace x1:=hK.cell (lt_cell x1) hne x1;replace x2:=hK.cell (lt_cell x2) hne x2;replace x3:=hK.cell (lt_cell x3) hne x3;replace x4:=hK.cell (lt_cell x4) hne x4;replace x5:=hK.cell (lt_cell x5) hne x5;replace hbl:=hL.out.lt;clear hK)
   | (go_at_call 164;(first | (with_reducible refine (atA hL.out hd1 hd2).mono ?_));rintro e w1 ⟨rfl,hA,hK⟩;replace hL:=Lib.hid hA;clear hA;replace hT:=hT.trans (hK.mono hTs);replace hTs:=Nat.le_trans hTs hK.size;replace x0:=hK.cell (lt_cell x0) hne x0;replace x1:=hK.cell (lt_cell x1) hne x1;replace x2:=hK.cell (lt_cell x2) hne x2;replace x3:=hK.cell (lt_cell x3) hne x3;replace x4:=hK.cell (lt_cell x4) hne x4;replace x5:=hK.cell (lt_cell x5) hne x5;replace hbl:=hL.out.lt;clear hK)
   | (go_at_call 206;(first | (with_reducible refine (clsA hL.out hc1 hc2).mono ?_));rintro e w1 ⟨rfl,hA,hK⟩;replace hL:=Lib.hid hA;clear hA;replace hT:=hT.trans (hK.mono hTs);replace hTs:=Nat.le_trans hTs hK.size;replace x0:=hK.cell (lt_cell x0) hne x0;replace x1:=hK.cell (lt_cell x1) hne x1;replace x2:=hK.cell (lt_cell x2) hne x2;replace x3:=hK.cell (lt_cell x3) hne x3;replace x4:=hK.cell (lt_cell x4) hne x4;replace x5:=hK.cell (lt_cell x5) hne x5;replace hbl:=hL.out.lt;clear hK)
   | (go_at_call 110;refine (lin _ _ _ _).mono ?_;rintro e w1 ⟨rfl,rfl⟩))
 go_ret;rw [hX.out];refine got_eq hL.out hT ?_
 simp
end Look
namespace Look
open Num Rd D HierW FormW
set_option maxRecDepth 100000 in
theorem moreF (f:Fi) (m:Me) (op a b c n:Int) (args:List Int) (ok:Bool) (lb:Nat) (ca:Option Addr) (ccap:Nat) (vm vp:Value) (da:Option Addr) (dcap:Nat) (vh:Value) (aa:Option Addr) (acap:Nat) (w:World)
  (h:Lk w lb (.slice ca f.classes.length ccap) vm vp (.slice da m.code.length dcap) vh m ok) (hF:Fit f m f.classes.length ccap dcap) (oks:Ok a∧Ok b∧Ok c∧Ok n) (ha:args.length≤acap∧acap≤9223372036854775807) (B0:Nat) (hB:B0≤lb) (hcl:Sl 2 ECls w B0 (.slice ca f.classes.length ccap) f.classes) (hop:op=14∨op=15) :
  Calls Try.prog 165 #[.pointer (some ⟨lb,0,none⟩),.agg #[.int .i64 op,.int .i64 a,.int .i64 b,.int .i64 c,.int .i64 n,.slice aa args.length acap]] w
   (Got w lb (.slice ca f.classes.length ccap) vm vp (.slice da m.code.length dcap) vh m (moreX f m ok ⟨op,a,b,c,n,args⟩)):=by
 obtain ⟨hc1,hc2,hd1,hd2,hr⟩:=hF;obtain ⟨oa,ob,oc,on⟩:=oks;obtain ⟨ha1,ha2⟩:=ha;obtain ⟨hr1,hr2⟩:=hr;have hr:0≤m.regs∧m.regs≤90:=⟨hr1,hr2⟩;have hlt:=h.lt;have hne:w.heap.size≠lb:=by omega
 have hL:=Lib.hid (h.next (Below.alloc (Below.refl _ _) (Nat.le_refl _) (.cells #[.int .i64 op,.int .i64 a,.int .i64 b,.int .i64 c,.int .i64 n,.slice aa args.length acap] 63)) h.lt);have hT:Keep w.heap.size lb w (w.alloc (.cells #[.int .i64 op,.int .i64 a,.int .i64 b,.int .i64 c,.int .i64 n,.slice aa args.length acap] 63)):=Keep.alloc (Keep.refl _ _ _) (Nat.le_refl _) _;have hTs:=hT.size;have hbl:=hL.out.lt;have x0:(w.alloc (.cells #[.int .i64 op,.int .i64 a,.int .i64 b,.int .i64 c,.int .i64 n,.slice aa args.length acap] 63)).cell? ⟨w.heap.size,0,none⟩=some (.int .i64 op):=by go_simp
 have x1:(w.alloc (.cells #[.int .i64 op,.int .i64 a,.int .i64 b,.int .i64 c,.int .i64 n,.slice aa args.length acap] 63)).cell? ⟨w.heap.size,1,none⟩=some (.int .i64 a):=by go_simp
 have x2:(w.alloc (.cells #[.int .i64 op,.int .i64 a,.int .i64 b,.int .i64 c,.int .i64 n,.slice aa args.length acap] 63)).cell? ⟨w.heap.size,2,none⟩=some (.int .i64 b):=by go_simp
 have x3:(w.alloc (.cells #[.int .i64 op,.int .i64 a,.int .i64 b,.int .i64 c,.int .i64 n,.slice aa args.length acap] 63)).cell? ⟨w.heap.size,3,none⟩=some (.int .i64 c):=by go_simp
 have x4:(w.alloc (.cells #[.int .i64 op,.int .i64 a,.int .i64 b,.int .i64 c,.int .i64 n,.slice aa args.length acap] 63)).cell? ⟨w.heap.size,4,none⟩=some (.int .i64 n):=by go_simp
 have x5:(w.alloc (.cells #[.int .i64 op,.int .i64 a,.int .i64 b,.int .i64 c,.int .i64 n,.slice aa args.length acap] 63)).cell? ⟨w.heap.size,5,none⟩=some (.slice aa args.length acap):=by go_simp
 clear h;obtain ⟨XI,hXI⟩:∃ X,Hid (moreX f m ok ⟨op,a,b,c,n,args⟩=X):=⟨_,rfl⟩;rw [hXI.out]
 rcases hop with rfl | rfl
 all_goals as_aux_lemma =>
  go_enter Try.func165,Try.ntmps165
  go_wp2_with fail
  refine (clsA hL.out hc1 hc2).mono ?_;rintro e w1 ⟨rfl,hA,hK⟩;replace hL:=Lib.hid hA;clear hA;replace hT:=hT.trans (hK.mono hTs);replace hTs:=Nat.le_trans hTs hK.size;replace x0:=hK.cell (lt_cell x0) hne x0;replace x1:=hK.cell (lt_cell x1) hne x1;replace x2:=hK.cell (lt_cell x2) hne x2;replace x3:=hK.cell (lt_cell x3) hne x3;replace x4:=hK.cell (lt_cell x4) hne x4;replace x5:=hK.cell (lt_cell x5) hne x5;replace hbl:=hL.out.lt;clear hK;obtain ⟨q,hq⟩:∃ q,Hid ((ok && Form.rng c 0 f.classes.length)=q):=⟨_,rfl⟩;rw [hq.out] at hL;have z10:=hL.out.2.2.1
  cases q
  ·have hX:Hid (XI=false):=by
    show _=_
    have h:=hq.out;rw [Bool.and_eq_false_iff] at h;rw [← hXI.out]
    rcases h with h | h <;> simp [moreX,Rform.body,h]
   go_wp2_with fail
   go_ret;rw [hX.out];exact got_eq hL.out hT (by simp)
  ·have hq2:=hq.out;rw [Bool.and_eq_true] at hq2;obtain ⟨hok,hrc⟩:=hq2;have hr2:0≤c∧c < f.classes.length:=by simpa [Form.rng] using hrc
   obtain ⟨k,rfl⟩:=Int.eq_ofNat_of_zero_le hr2.1;have hk:k < f.classes.length:=by omega
   obtain ⟨ca',ccap',hca,_,_,cel⟩:=hcl;injection hca with hca1 hca2 hca3
   subst hca1;obtain ⟨b0,o0,rfl,hb0,he⟩:=cel k hk
   have hnf:Hid (Form.nf f.classes (k:Int)=(f.classes[k]).fields.length):=by
    show _=_
    rw [Form.nf,Int.toNat_natCast,Hier.at_eq hk]
   have hfk:Hid (∀ j:Nat,Rform.fk f.classes (k:Int) (j:Int)=((f.classes[k]).fields.getD j ⟨0,0⟩).kind):=by
    intro j
    rw [Rform.fk,Int.toNat_natCast,Int.toNat_natCast,Hier.at_eq hk]
   obtain ⟨x,hx⟩:=at_of hk;rw [hx.out] at he hnf hfk;obtain ⟨_,_,fv,g3,fa,fcap,rfl,flc,fcc,fel⟩:=he;have hb0':b0 < w.heap.size:=by omega
   have g4:=hT.cell hb0' (by omega) g3
   have y0:=hL.out.1.1;have hk0:(0:Int)≤(k:Int)∧(k:Int) < f.classes.length:=⟨by omega,by omega⟩
   have hXX:Hid (∀ p:Bool,p=(Form.rng n 0 x.fields.length && Rform.reg m.regs a (Rform.fk f.classes k n) && Rform.reg m.regs b 3)→XI=p):=by
    intro p hp
    subst hp;have h:=hnf.out;rw [← hXI.out];simp [moreX,Rform.body,Rform.num,hok,hrc,h]
   clear cel hrc hr2 g3 hq hca2 hca3
   go_wp2_with fail
   refine Drawn.hd (fun w'=>w'.cell? ⟨lb,0,none⟩=some (.slice (some ⟨b0,o0,none⟩) f.classes.length ccap)∧w'.cell? ⟨w.heap.size,3,none⟩=some (.int .i64 (k:Int))∧w'.cell? ⟨b0,o0+k*2+1,none⟩=some (.slice fa x.fields.length fcap)) (hS:=by (try dsimp only);first | exact ⟨y0,x3,g4⟩ | go_keep) (h:=fun hHeld=>?_)
   refine dT 0 43 ?_;refine dT 1 44 ?_;refine dT 2 45 ?_;refine dT 3 46 ?_;refine dT 4 47 ?_;refine dT 5 48 ?_;refine dT 6 49 ?_;refine dT 7 50 ?_;refine dT 8 51 ?_;refine dT 9 52 ?_;refine dT 10 5 ?_;refine dN ?_;have fcI:(x.fields.length:Int)≤9223372036854775807:=by omega
   replace hL:=Lib.hid (hL.out.next (Below.drew (Below.refl _ _)) hbl);replace hT:=Keep.drew hT;have HX:=hXX
   by_cases hn:0≤n∧n < x.fields.length
   ·obtain ⟨hn0,hn1⟩:=hn;obtain ⟨j,rfl⟩:=Int.eq_ofNat_of_zero_le hn0;have hj:j < x.fields.length:=by omega
    have hrn:Form.rng (j:Int) 0 x.fields.length=true:=by simp [Form.rng];omega
    obtain ⟨fb,fo,rfl,hfb,hfe⟩:=fel j hj
    have hfk2:Hid (Rform.fk f.classes (k:Int) (j:Int)=(x.fields[j]).kind):=by
     show _=_
     rw [hfk.out j];simp [hj]
    obtain ⟨t,ht⟩:=at_of hj;rw [ht.out] at hfe hfk2;obtain ⟨e1,_,okk,_⟩:=hfe;have hXY:=Lib.hid (hXX.out _ rfl);rw [hrn,hfk2.out] at hXY;have HRN:=Lib.hid hrn;have hnI:(0:Int)≤(j:Int)∧(j:Int) < x.fields.length:=⟨by omega,by omega⟩
    have e4:=hT.cell (by omega) (by omega) e1
    clear hrn fel e1
    go_wp2_with fail
    refine (mustA (by first | rfl | simp) hL.out).mono ?_
    rintro e w2 ⟨rfl,hA,hK⟩;replace e4:=hK.cell (lt_cell e4) (by omega) e4
    replace hL:=Lib.hid hA;clear hA;replace hT:=hT.trans (hK.mono hTs);replace hTs:=Nat.le_trans hTs hK.size;replace x0:=hK.cell (lt_cell x0) hne x0;replace x1:=hK.cell (lt_cell x1) hne x1;replace x2:=hK.cell (lt_cell x2) hne x2;replace x3:=hK.cell (lt_cell x3) hne x3;replace x4:=hK.cell (lt_cell x4) hne x4;replace x5:=hK.cell (lt_cell x5) hne x5;replace hbl:=hL.out.lt;clear hK;simp only [Bool.and_true] at hL;have z10:=hL.out.2.2.1
    go_wp2_with fail
    refine Drawn.hd (fun w'=>w'.cell? ⟨w.heap.size,4,none⟩=some (.int .i64 (j:Int))∧w'.cell? ⟨w.heap.size,1,none⟩=some (.int .i64 a)∧w'.cell? ⟨fb,fo+j*2,none⟩=some (.int .i64 t.kind)) (hS:=by (try dsimp only);first | exact ⟨x4,x1,e4⟩ | go_keep) (h:=fun hHeld=>?_)
    refine dT 0 70 ?_;refine dT 1 71 ?_;refine dT 2 72 ?_;refine dT 3 73 ?_;refine dT 4 74 ?_;refine dT 5 75 ?_;refine dT 6 76 ?_;refine dT 7 77 ?_;refine dT 8 78 ?_;have hl4:=lt_cell e4;have hlx:=lt_cell x4;refine Drawn.cl 9 (fun K hK=>?_);go_simp;refine Drawn.bk hK (h:=fun hHeld=>?_);clear hK K;refine Drawn.cl 10 (fun K hK=>?_);go_simp
    with_reducible refine (reg1D (by first | rfl | simp) hL.out okk hr).mono ?_
    rintro e w3 ⟨rfl,hA,hK5⟩;replace e4:=hK5.cell (lt_cell e4) (by omega) e4
    replace hL:=Lib.hid hA;clear hA;replace hT:=hT.trans (hK5.mono hTs);replace hTs:=Nat.le_trans hTs hK5.size;replace x0:=hK5.cell (lt_cell x0) hne x0;replace x1:=hK5.cell (lt_cell x1) hne x1;replace x2:=hK5.cell (lt_cell x2) hne x2;replace x3:=hK5.cell (lt_cell x3) hne x3;replace x4:=hK5.cell (lt_cell x4) hne x4;replace x5:=hK5.cell (lt_cell x5) hne x5;replace hbl:=hL.out.lt;clear hK5
    go_wp2_with fail
    refine Drawn.bk hK (hS:=by (try dsimp only);exact ⟨x4,x1,e4⟩) (h:=fun hHeld=>?_)
    clear hK K;refine dN ?_
    go_wp2_with (first
   | (go_at_call 161;(first | (with_reducible refine (mustA (by first | rfl | simp) hL.out).mono ?_));rintro e w1 ⟨rfl,hA,hK⟩;replace hL:=Lib.hid hA;clear hA;replace hT:=hT.trans (hK.mono hTs);replace hTs:=Nat.le_trans hTs hK.size;replace x0:=hK.cell (lt_cell x0) hne x0;replace x1:=hK.cell (lt_cell x1) hne x1;replace x2:=hK.cell (lt_cell x2) hne x2;replace x3:=hK.cell (lt_cell x3) hne x3;replace x4:=hK.cell (lt_cell x4) hne x4;replace x5:=hK.cell (lt_cell x5) hne x5;replace hbl:=hL.out.lt;clear hK)
   | (go_at_call 162;(first | (with_reducible refine (reg1A (by first | rfl | simp) hL.out (by first | with_reducible assumption | (unfold Ok;omega)) hr).mono ?_) | (with_reducible refine (reg2A (by first | rfl | simp) hL.out (by first | with_reducible assumption | (unfold Ok;omega)) hr).mono ?_) | (with_reducible refine (reg3A (by first | rfl | simp) hL.out (by first | with_reducible assumption | (unfold Ok;omega)) hr).mono ?_));rintro e w1 ⟨rfl,hA,hK⟩;replace hL:=Lib.hid hA;clear hA;replace hT:=hT.trans (hK.mono hTs);replace hTs:=Nat.le_trans hTs hK.size;replace x0:=hK.cell (lt_cell x0) hne x0;replace x1:=hK.cell (lt_cell x1) hne x1;replace x2:=hK.cell (lt_cell x2) hne x2;replace x3:=hK.cell (lt_cell x3) hne x3;replace x4:=hK.cell (lt_cell x4) hne x4;replace x5:=hK.cell (lt_cell x5) hne x5;replace hbl:=hL.out.lt;clear hK)
   | (go_at_call 163;(first | (with_reducible refine (nought1A (by first | rfl | simp) hL.out).mono ?_) | (with_reducible refine (nought2A (by first | rfl | simp) hL.out).mono ?_));rintro e w1 ⟨rfl,hA,hK⟩;replace hL:=Lib.hid hA;clear hA;replace hT:=hT.trans (hK.mono hTs);replace hTs:=Nat.le_trans hTs hK.size;replace x0:=hK.cell (lt_cell x0) hne x0;replace x1:=hK.cell (lt_cell x1) hne x1;replace x2:=hK.cell (lt_cell x2) hne x2;replace x3:=hK.cell (lt_cell x3) hne x3;replace x4:=hK.cell (lt_cell x4) hne x4;replace x5:=hK.cell (lt_cell x5) hne x5;replace hbl:=hL.out.lt;clear hK)
   | (go_at_call 164;(first | (with_reducible refine (atA hL.out hd1 hd2).mono ?_));rintro e w1 ⟨rfl,hA,hK⟩;replace hL:=Lib.hid hA;clear hA;replace hT:=hT.trans (hK.mono hTs);replace hTs:=Nat.le_trans hTs hK.size;replace x0:=hK.cell (lt_cell x0) hne x0;replace x1:=hK.cell (lt_cell x1) hne x1;replace x2:=hK.cell (lt_cell x2) hne x2;replace x3:=hK.cell (lt_cell x3) hne x3;replace x4:=hK.cell (lt_cell x4) hne x4;replace x5:=hK.cell (lt_cell x5) hne x5;replace hbl:=hL.out.lt;clear hK)
   | (go_at_call 206;(first | (with_reducible refine (clsA hL.out hc1 hc2).mono ?_));rintro e w1 ⟨rfl,hA,hK⟩;replace hL:=Lib.hid hA;clear hA;replace hT:=hT.trans (hK.mono hTs);replace hTs:=Nat.le_trans hTs hK.size;replace x0:=hK.cell (lt_cell x0) hne x0;replace x1:=hK.cell (lt_cell x1) hne x1;replace x2:=hK.cell (lt_cell x2) hne x2;replace x3:=hK.cell (lt_cell x3) hne x3;replace x4:=hK.cell (lt_cell x4) hne x4;replace x5:=hK.cell (lt_cell x5) hne x5;replace hbl:=hL.out.lt;clear hK)
   | (go_at_call 110;refine (lin _ _ _ _).mono ?_;rintro e w1 ⟨rfl,rfl⟩))
    go_ret;rw [hXY.out];exact got_eq hL.out hT (by simp)
   ·have hrn:Form.rng n 0 x.fields.length=false:=by simp [Form.rng];omega
    have hXY:=Lib.hid (hXX.out _ rfl);rw [hrn] at hXY
    by_cases hn0:0≤n
    ·have hn1:¬ n < (x.fields.length:Int):=by omega
     clear hn
     go_wp2_with fail
     refine (mustA (by first | rfl | simp) hL.out).mono ?_
     rintro e w2 ⟨rfl,hA,hK⟩;replace hL:=Lib.hid hA;clear hA;replace hT:=hT.trans (hK.mono hTs);replace hTs:=Nat.le_trans hTs hK.size;replace x0:=hK.cell (lt_cell x0) hne x0;replace x1:=hK.cell (lt_cell x1) hne x1;replace x2:=hK.cell (lt_cell x2) hne x2;replace x3:=hK.cell (lt_cell x3) hne x3;replace x4:=hK.cell (lt_cell x4) hne x4;replace x5:=hK.cell (lt_cell x5) hne x5;replace hbl:=hL.out.lt;clear hK;simp only [Bool.and_false] at hL;have z10:=hL.out.2.2.1
     go_wp2_with (first
   | (go_at_call 161;(first | (with_reducible refine (mustA (by first | rfl | simp) hL.out).mono ?_));rintro e w1 ⟨rfl,hA,hK⟩;replace hL:=Lib.hid hA;clear hA;replace hT:=hT.trans (hK.mono hTs);replace hTs:=Nat.le_trans hTs hK.size;replace x0:=hK.cell (lt_cell x0) hne x0;replace x1:=hK.cell (lt_cell x1) hne x1;replace x2:=hK.cell (lt_cell x2) hne x2;replace x3:=hK.cell (lt_cell x3) hne x3;replace x4:=hK.cell (lt_cell x4) hne x4;replace x5:=hK.cell (lt_cell x5) hne x5;replace hbl:=hL.out.lt;clear hK)
   | (go_at_call 162;(first | (with_reducible refine (reg1A (by first | rfl | simp) hL.out (by first | with_reducible assumption | (unfold Ok;omega)) hr).mono ?_) | (with_reducible refine (reg2A (by first | rfl | simp) hL.out (by first | with_reducible assumption | (unfold Ok;omega)) hr).mono ?_) | (with_reducible refine (reg3A (by first | rfl | simp) hL.out (by first | with_reducible assumption | (unfold Ok;omega)) hr).mono ?_));rintro e w1 ⟨rfl,hA,hK⟩;replace hL:=Lib.hid hA;clear hA;replace hT:=hT.trans (hK.mono hTs);replace hTs:=Nat.le_trans hTs hK.size;replace x0:=hK.cell (lt_cell x0) hne x0;replace x1:=hK.cell (lt_cell x1) hne x1;replace x2:=hK.cell (lt_cell x2) hne x2;replace x3:=hK.cell (lt_cell x3) hne x3;replace x4:=hK.cell (lt_cell x4) hne x4;replace x5:=hK.cell (lt_cell x5) hne x5;replace hbl:=hL.out.lt;clear hK)
   | (go_at_call 163;(first | (with_reducible refine (nought1A (by first | rfl | simp) hL.out).mono ?_) | (with_reducible refine (nought2A (by first | rfl | simp) hL.out).mono ?_));rintro e w1 ⟨rfl,hA,hK⟩;replace hL:=Lib.hid hA;clear hA;replace hT:=hT.trans (hK.mono hTs);replace hTs:=Nat.le_trans hTs hK.size;replace x0:=hK.cell (lt_cell x0) hne x0;replace x1:=hK.cell (lt_cell x1) hne x1;replace x2:=hK.cell (lt_cell x2) hne x2;replace x3:=hK.cell (lt_cell x3) hne x3;replace x4:=hK.cell (lt_cell x4) hne x4;replace x5:=hK.cell (lt_cell x5) hne x5;replace hbl:=hL.out.lt;clear hK)
   | (go_at_call 164;(first | (with_reducible refine (atA hL.out hd1 hd2).mono ?_));rintro e w1 ⟨rfl,hA,hK⟩;replace hL:=Lib.hid hA;clear hA;replace hT:=hT.trans (hK.mono hTs);replace hTs:=Nat.le_trans hTs hK.size;replace x0:=hK.cell (lt_cell x0) hne x0;replace x1:=hK.cell (lt_cell x1) hne x1;replace x2:=hK.cell (lt_cell x2) hne x2;replace x3:=hK.cell (lt_cell x3) hne x3;replace x4:=hK.cell (lt_cell x4) hne x4;replace x5:=hK.cell (lt_cell x5) hne x5;replace hbl:=hL.out.lt;clear hK)
   | (go_at_call 206;(first | (with_reducible refine (clsA hL.out hc1 hc2).mono ?_));rintro e w1 ⟨rfl,hA,hK⟩;replace hL:=Lib.hid hA;clear hA;replace hT:=hT.trans (hK.mono hTs);replace hTs:=Nat.le_trans hTs hK.size;replace x0:=hK.cell (lt_cell x0) hne x0;replace x1:=hK.cell (lt_cell x1) hne x1;replace x2:=hK.cell (lt_cell x2) hne x2;replace x3:=hK.cell (lt_cell x3) hne x3;replace x4:=hK.cell (lt_cell x4) hne x4;replace x5:=hK.cell (lt_cell x5) hne x5;replace hbl:=hL.out.lt;clear hK)
   | (go_at_call 110;refine (lin _ _ _ _).mono ?_;rintro e w1 ⟨rfl,rfl⟩))
     go_ret;rw [hXY.out];exact got_eq hL.out hT (by simp)
    ·clear hn
     go_wp2_with fail
     refine (mustA (by first | rfl | simp) hL.out).mono ?_
     rintro e w2 ⟨rfl,hA,hK⟩;replace hL:=Lib.hid hA;clear hA;replace hT:=hT.trans (hK.mono hTs);replace hTs:=Nat.le_trans hTs hK.size;replace x0:=hK.cell (lt_cell x0) hne x0;replace x1:=hK.cell (lt_cell x1) hne x1;replace x2:=hK.cell (lt_cell x2) hne x2;replace x3:=hK.cell (lt_cell x3) hne x3;replace x4:=hK.cell (lt_cell x4) hne x4;replace x5:=hK.cell (lt_cell x5) hne x5;replace hbl:=hL.out.lt;clear hK;simp only [Bool.and_false] at hL;have z10:=hL.out.2.2.1
     go_wp2_with (first
   | (go_at_call 161;(first | (with_reducible refine (mustA (by first | rfl | simp) hL.out).mono ?_));rintro e w1 ⟨rfl,hA,hK⟩;replace hL:=Lib.hid hA;clear hA;replace hT:=hT.trans (hK.mono hTs);replace hTs:=Nat.le_trans hTs hK.size;replace x0:=hK.cell (lt_cell x0) hne x0;replace x1:=hK.cell (lt_cell x1) hne x1;replace x2:=hK.cell (lt_cell x2) hne x2;replace x3:=hK.cell (lt_cell x3) hne x3;replace x4:=hK.cell (lt_cell x4) hne x4;replace x5:=hK.cell (lt_cell x5) hne x5;replace hbl:=hL.out.lt;clear hK)
   | (go_at_call 162;(first | (with_reducible refine (reg1A (by first | rfl | simp) hL.out (by first | with_reducible assumption | (unfold Ok;omega)) hr).mono ?_) | (with_reducible refine (reg2A (by first | rfl | simp) hL.out (by first | with_reducible assumption | (unfold Ok;omega)) hr).mono ?_) | (with_reducible refine (reg3A (by first | rfl | simp) hL.out (by first | with_reducible assumption | (unfold Ok;omega)) hr).mono ?_));rintro e w1 ⟨rfl,hA,hK⟩;replace hL:=Lib.hid hA;clear hA;replace hT:=hT.trans (hK.mono hTs);replace hTs:=Nat.le_trans hTs hK.size;replace x0:=hK.cell (lt_cell x0) hne x0;replace x1:=hK.cell (lt_cell x1) hne x1;replace x2:=hK.cell (lt_cell x2) hne x2;replace x3:=hK.cell (lt_cell x3) hne x3;replace x4:=hK.cell (lt_cell x4) hne x4;replace x5:=hK.cell (lt_cell x5) hne x5;replace hbl:=hL.out.lt;clear hK)
   | (go_at_call 163;(first | (with_reducible refine (nought1A (by first | rfl | simp) hL.out).mono ?_) | (with_reducible refine (nought2A (by first | rfl | simp) hL.out).mono ?_));rintro e w1 ⟨rfl,hA,hK⟩;replace hL:=Lib.hid hA;clear hA;replace hT:=hT.trans (hK.mono hTs);replace hTs:=Nat.le_trans hTs hK.size;replace x0:=hK.cell (lt_cell x0) hne x0;replace x1:=hK.cell (lt_cell x1) hne x1;replace x2:=hK.cell (lt_cell x2) hne x2;replace x3:=hK.cell (lt_cell x3) hne x3;replace x4:=hK.cell (lt_cell x4) hne x4;replace x5:=hK.cell (lt_cell x5) hne x5;replace hbl:=hL.out.lt;clear hK)
   | (go_at_call 164;(first | (with_reducible refine (atA hL.out hd1 hd2).mono ?_));rintro e w1 ⟨rfl,hA,hK⟩;replace hL:=Lib.hid hA;clear hA;replace hT:=hT.trans (hK.mono hTs);replace hTs:=Nat.le_trans hTs hK.size;replace x0:=hK.cell (lt_cell x0) hne x0;replace x1:=hK.cell (lt_cell x1) hne x1;replace x2:=hK.cell (lt_cell x2) hne x2;replace x3:=hK.cell (lt_cell x3) hne x3;replace x4:=hK.cell (lt_cell x4) hne x4;replace x5:=hK.cell (lt_cell x5) hne x5;replace hbl:=hL.out.lt;clear hK)
   | (go_at_call 206;(first | (with_reducible refine (clsA hL.out hc1 hc2).mono ?_));rintro e w1 ⟨rfl,hA,hK⟩;replace hL:=Lib.hid hA;clear hA;replace hT:=hT.trans (hK.mono hTs);replace hTs:=Nat.le_trans hTs hK.size;replace x0:=hK.cell (lt_cell x0) hne x0;replace x1:=hK.cell (lt_cell x1) hne x1;replace x2:=hK.cell (lt_cell x2) hne x2;replace x3:=hK.cell (lt_cell x3) hne x3;replace x4:=hK.cell (lt_cell x4) hne x4;replace x5:=hK.cell (lt_cell x5) hne x5;replace hbl:=hL.out.lt;clear hK)
   | (go_at_call 110;refine (lin _ _ _ _).mono ?_;rintro e w1 ⟨rfl,rfl⟩))
     go_ret;rw [hXY.out];exact got_eq hL.out hT (by simp)
end Look
namespace Look
open Num Rd D HierW FormW
set_option maxRecDepth 100000 in
theorem more20 (f:Fi) (m:Me) (a b c n:Int) (args:List Int) (ok:Bool) (lb:Nat) (ca:Option Addr) (ccap:Nat) (vm vp:Value) (da:Option Addr) (dcap:Nat) (vh:Value) (aa:Option Addr) (acap:Nat) (w:World)
  (h:Lk w lb (.slice ca f.classes.length ccap) vm vp (.slice da m.code.length dcap) vh m ok) (hF:Fit f m f.classes.length ccap dcap) (oks:Ok a∧Ok b∧Ok c∧Ok n) (ha:args.length≤acap∧acap≤9223372036854775807) (okk:Ok m.ret.kind) :
  Calls Try.prog 165 #[.pointer (some ⟨lb,0,none⟩),.agg #[.int .i64 20,.int .i64 a,.int .i64 b,.int .i64 c,.int .i64 n,.slice aa args.length acap]] w
   (Got w lb (.slice ca f.classes.length ccap) vm vp (.slice da m.code.length dcap) vh m (moreX f m ok ⟨20,a,b,c,n,args⟩)):=by
 obtain ⟨hc1,hc2,hd1,hd2,hr⟩:=hF;obtain ⟨oa,ob,oc,on⟩:=oks;obtain ⟨ha1,ha2⟩:=ha;obtain ⟨hr1,hr2⟩:=hr;have hr:0≤m.regs∧m.regs≤90:=⟨hr1,hr2⟩;have hlt:=h.lt;have hne:w.heap.size≠lb:=by omega
 have hL:=Lib.hid (h.next (Below.alloc (Below.refl _ _) (Nat.le_refl _) (.cells #[.int .i64 20,.int .i64 a,.int .i64 b,.int .i64 c,.int .i64 n,.slice aa args.length acap] 63)) h.lt);have hT:Keep w.heap.size lb w (w.alloc (.cells #[.int .i64 20,.int .i64 a,.int .i64 b,.int .i64 c,.int .i64 n,.slice aa args.length acap] 63)):=Keep.alloc (Keep.refl _ _ _) (Nat.le_refl _) _;have hTs:=hT.size;have hbl:=hL.out.lt;have x0:(w.alloc (.cells #[.int .i64 20,.int .i64 a,.int .i64 b,.int .i64 c,.int .i64 n,.slice aa args.length acap] 63)).cell? ⟨w.heap.size,0,none⟩=some (.int .i64 20):=by go_simp
 have x1:(w.alloc (.cells #[.int .i64 20,.int .i64 a,.int .i64 b,.int .i64 c,.int .i64 n,.slice aa args.length acap] 63)).cell? ⟨w.heap.size,1,none⟩=some (.int .i64 a):=by go_simp
 have x2:(w.alloc (.cells #[.int .i64 20,.int .i64 a,.int .i64 b,.int .i64 c,.int .i64 n,.slice aa args.length acap] 63)).cell? ⟨w.heap.size,2,none⟩=some (.int .i64 b):=by go_simp
 have x3:(w.alloc (.cells #[.int .i64 20,.int .i64 a,.int .i64 b,.int .i64 c,.int .i64 n,.slice aa args.length acap] 63)).cell? ⟨w.heap.size,3,none⟩=some (.int .i64 c):=by go_simp
 have x4:(w.alloc (.cells #[.int .i64 20,.int .i64 a,.int .i64 b,.int .i64 c,.int .i64 n,.slice aa args.length acap] 63)).cell? ⟨w.heap.size,4,none⟩=some (.int .i64 n):=by go_simp
 have x5:(w.alloc (.cells #[.int .i64 20,.int .i64 a,.int .i64 b,.int .i64 c,.int .i64 n,.slice aa args.length acap] 63)).cell? ⟨w.heap.size,5,none⟩=some (.slice aa args.length acap):=by go_simp
 clear h;obtain ⟨rk,hrk⟩:∃ rk,Hid (m.ret.kind=rk):=⟨_,rfl⟩;rw [hrk.out] at okk
 have hX:Hid (moreX f m ok ⟨20,a,b,c,n,args⟩=(ok && ((decide (b=0) && decide (c=0) && (if rk=0 then decide (a=0) else Rform.reg m.regs a rk)) && decide (n=0)))):=by
  show _=_
  rw [← hrk.out];simp [moreX,Rform.body,Rform.num]
 go_enter Try.func165,Try.ntmps165
 go_wp2_with fail
 refine (nought2A (by first | rfl | simp) hL.out).mono ?_
 rintro e w1 ⟨rfl,hA,hK⟩;replace hL:=Lib.hid hA;clear hA;replace hT:=hT.trans (hK.mono hTs);replace hTs:=Nat.le_trans hTs hK.size;replace x0:=hK.cell (lt_cell x0) hne x0;replace x1:=hK.cell (lt_cell x1) hne x1;replace x2:=hK.cell (lt_cell x2) hne x2;replace x3:=hK.cell (lt_cell x3) hne x3;replace x4:=hK.cell (lt_cell x4) hne x4;replace x5:=hK.cell (lt_cell x5) hne x5;replace hbl:=hL.out.lt;clear hK;have y3:=hL.out.2.1.2.1;rw [hrk.out] at y3
 by_cases hz:rk=0
 ·subst hz
  go_wp2_with (first
   | (go_at_call 161;(first | (with_reducible refine (mustA (by first | rfl | simp) hL.out).mono ?_));rintro e w1 ⟨rfl,hA,hK⟩;replace hL:=Lib.hid hA;clear hA;replace hT:=hT.trans (hK.mono hTs);replace hTs:=Nat.le_trans hTs hK.size;replace x0:=hK.cell (lt_cell x0) hne x0;replace x1:=hK.cell (lt_cell x1) hne x1;replace x2:=hK.cell (lt_cell x2) hne x2;replace x3:=hK.cell (lt_cell x3) hne x3;replace x4:=hK.cell (lt_cell x4) hne x4;replace x5:=hK.cell (lt_cell x5) hne x5;replace hbl:=hL.out.lt;clear hK)
   | (go_at_call 162;(first | (with_reducible refine (reg1A (by first | rfl | simp) hL.out (by first | with_reducible assumption | (unfold Ok;omega)) hr).mono ?_) | (with_reducible refine (reg2A (by first | rfl | simp) hL.out (by first | with_reducible assumption | (unfold Ok;omega)) hr).mono ?_) | (with_reducible refine (reg3A (by first | rfl | simp) hL.out (by first | with_reducible assumption | (unfold Ok;omega)) hr).mono ?_));rintro e w1 ⟨rfl,hA,hK⟩;replace hL:=Lib.hid hA;clear hA;replace hT:=hT.trans (hK.mono hTs);replace hTs:=Nat.le_trans hTs hK.size;replace x0:=hK.cell (lt_cell x0) hne x0;replace x1:=hK.cell (lt_cell x1) hne x1;replace x2:=hK.cell (lt_cell x2) hne x2;replace x3:=hK.cell (lt_cell x3) hne x3;replace x4:=hK.cell (lt_cell x4) hne x4;replace x5:=hK.cell (lt_cell x5) hne x5;replace hbl:=hL.out.lt;clear hK)
   | (go_at_call 163;(first | (with_reducible refine (nought1A (by first | rfl | simp) hL.out).mono ?_) | (with_reducible refine (nought2A (by first | rfl | simp) hL.out).mono ?_));rintro e w1 ⟨rfl,hA,hK⟩;replace hL:=Lib.hid hA;clear hA;replace hT:=hT.trans (hK.mono hTs);replace hTs:=Nat.le_trans hTs hK.size;replace x0:=hK.cell (lt_cell x0) hne x0;replace x1:=hK.cell (lt_cell x1) hne x1;replace x2:=hK.cell (lt_cell x2) hne x2;replace x3:=hK.cell (lt_cell x3) hne x3;replace x4:=hK.cell (lt_cell x4) hne x4;replace x5:=hK.cell (lt_cell x5) hne x5;replace hbl:=hL.out.lt;clear hK)
   | (go_at_call 164;(first | (with_reducible refine (atA hL.out hd1 hd2).mono ?_));rintro e w1 ⟨rfl,hA,hK⟩;replace hL:=Lib.hid hA;clear hA;replace hT:=hT.trans (hK.mono hTs);replace hTs:=Nat.le_trans hTs hK.size;replace x0:=hK.cell (lt_cell x0) hne x0;replace x1:=hK.cell (lt_cell x1) hne x1;replace x2:=hK.cell (lt_cell x2) hne x2;replace x3:=hK.cell (lt_cell x3) hne x3;replace x4:=hK.cell (lt_cell x4) hne x4;replace x5:=hK.cell (lt_cell x5) hne x5;replace hbl:=hL.out.lt;clear hK)
   | (go_at_call 206;(first | (with_reducible refine (clsA hL.out hc1 hc2).mono ?_));rintro e w1 ⟨rfl,hA,hK⟩;replace hL:=Lib.hid hA;clear hA;replace hT:=hT.trans (hK.mono hTs);replace hTs:=Nat.le_trans hTs hK.size;replace x0:=hK.cell (lt_cell x0) hne x0;replace x1:=hK.cell (lt_cell x1) hne x1;replace x2:=hK.cell (lt_cell x2) hne x2;replace x3:=hK.cell (lt_cell x3) hne x3;replace x4:=hK.cell (lt_cell x4) hne x4;replace x5:=hK.cell (lt_cell x5) hne x5;replace hbl:=hL.out.lt;clear hK)
   | (go_at_call 110;refine (lin _ _ _ _).mono ?_;rintro e w1 ⟨rfl,rfl⟩))
  go_ret;rw [hX.out];refine got_eq hL.out hT ?_
  (try simp)
  first | done | ac_rfl | grind
 ·have hz':(rk==0)=false:=by simpa using hz
  have HX:=Lib.hid (hX.out.trans (by rw [if_neg hz]))
  clear hX hz
  go_wp2_with fail
  refine Drawn.hd (fun w'=>w'.cell? ⟨lb,3,none⟩=some (.int .i64 rk)∧w'.cell? ⟨w.heap.size,1,none⟩=some (.int .i64 a)) (hS:=by (try dsimp only);first | exact ⟨y3,x1⟩ | go_keep) (h:=fun hHeld=>?_)
  refine dT 0 227 ?_;refine dT 1 228 ?_;refine dT 2 229 ?_;refine dT 3 230 ?_;refine dT 4 231 ?_;refine dT 5 232 ?_;refine dT 6 233 ?_;refine dT 7 234 ?_;refine dT 8 235 ?_;have hlx:=lt_cell x1;refine Drawn.cl 9 (fun K hK=>?_);go_simp;refine Drawn.bk hK (h:=fun hHeld=>?_);clear hK K;refine Drawn.cl 10 (fun K hK=>?_);go_simp
  with_reducible refine (reg1D (by first | rfl | simp) hL.out okk hr).mono ?_
  rintro e w3 ⟨rfl,hA,hK5⟩;replace hL:=Lib.hid hA;clear hA;replace hT:=hT.trans (hK5.mono hTs);replace hTs:=Nat.le_trans hTs hK5.size;replace x0:=hK5.cell (lt_cell x0) hne x0;replace x1:=hK5.cell (lt_cell x1) hne x1;replace x2:=hK5.cell (lt_cell x2) hne x2;replace x3:=hK5.cell (lt_cell x3) hne x3;replace x4:=hK5.cell (lt_cell x4) hne x4;replace x5:=hK5.cell (lt_cell x5) hne x5;replace hbl:=hL.out.lt;clear hK5;have y3:=hL.out.2.1.2.1;rw [hrk.out] at y3
  go_wp2_with fail
  refine Drawn.bk hK (hS:=by (try dsimp only);exact ⟨y3,x1⟩) (h:=fun hHeld=>?_)
  clear hK K;refine dN ?_
  go_wp2_with (first
   | (go_at_call 161;(first | (with_reducible refine (mustA (by first | rfl | simp) hL.out).mono ?_));rintro e w1 ⟨rfl,hA,hK⟩;replace hL:=Lib.hid hA;clear hA;replace hT:=hT.trans (hK.mono hTs);replace hTs:=Nat.le_trans hTs hK.size;replace x0:=hK.cell (lt_cell x0) hne x0;replace x1:=hK.cell (lt_cell x1) hne x1;replace x2:=hK.cell (lt_cell x2) hne x2;replace x3:=hK.cell (lt_cell x3) hne x3;replace x4:=hK.cell (lt_cell x4) hne x4;replace x5:=hK.cell (lt_cell x5) hne x5;replace hbl:=hL.out.lt;clear hK)
   | (go_at_call 162;(first | (with_reducible refine (reg1A (by first | rfl | simp) hL.out (by first | with_reducible assumption | (unfold Ok;omega)) hr).mono ?_) | (with_reducible refine (reg2A (by first | rfl | simp) hL.out (by first | with_reducible assumption | (unfold Ok;omega)) hr).mono ?_) | (with_reducible refine (reg3A (by first | rfl | simp) hL.out (by first | with_reducible assumption | (unfold Ok;omega)) hr).mono ?_));rintro e w1 ⟨rfl,hA,hK⟩;replace hL:=Lib.hid hA;clear hA;replace hT:=hT.trans (hK.mono hTs);replace hTs:=Nat.le_trans hTs hK.size;replace x0:=hK.cell (lt_cell x0) hne x0;replace x1:=hK.cell (lt_cell x1) hne x1;replace x2:=hK.cell (lt_cell x2) hne x2;replace x3:=hK.cell (lt_cell x3) hne x3;replace x4:=hK.cell (lt_cell x4) hne x4;replace x5:=hK.cell (lt_cell x5) hne x5;replace hbl:=hL.out.lt;clear hK)
   | (go_at_call 163;(first | (with_reducible refine (nought1A (by first | rfl | simp) hL.out).mono ?_) | (with_reducible refine (nought2A (by first | rfl | simp) hL.out).mono ?_));rintro e w1 ⟨rfl,hA,hK⟩;replace hL:=Lib.hid hA;clear hA;replace hT:=hT.trans (hK.mono hTs);replace hTs:=Nat.le_trans hTs hK.size;replace x0:=hK.cell (lt_cell x0) hne x0;replace x1:=hK.cell (lt_cell x1) hne x1;replace x2:=hK.cell (lt_cell x2) hne x2;replace x3:=hK.cell (lt_cell x3) hne x3;replace x4:=hK.cell (lt_cell x4) hne x4;replace x5:=hK.cell (lt_cell x5) hne x5;replace hbl:=hL.out.lt;clear hK)
   | (go_at_call 164;(first | (with_reducible refine (atA hL.out hd1 hd2).mono ?_));rintro e w1 ⟨rfl,hA,hK⟩;replace hL:=Lib.hid hA;clear hA;replace hT:=hT.trans (hK.mono hTs);replace hTs:=Nat.le_trans hTs hK.size;replace x0:=hK.cell (lt_cell x0) hne x0;replace x1:=hK.cell (lt_cell x1) hne x1;replace x2:=hK.cell (lt_cell x2) hne x2;replace x3:=hK.cell (lt_cell x3) hne x3;replace x4:=hK.cell (lt_cell x4) hne x4;replace x5:=hK.cell (lt_cell x5) hne x5;replace hbl:=hL.out.lt;clear hK)
   | (go_at_call 206;(first | (with_reducible refine (clsA hL.out hc1 hc2).mono ?_));rintro e w1 ⟨rfl,hA,hK⟩;replace hL:=Lib.hid hA;clear hA;replace hT:=hT.trans (hK.mono hTs);replace hTs:=Nat.le_trans hTs hK.size;replace x0:=hK.cell (lt_cell x0) hne x0;replace x1:=hK.cell (lt_cell x1) hne x1;replace x2:=hK.cell (lt_cell x2) hne x2;replace x3:=hK.cell (lt_cell x3) hne x3;replace x4:=hK.cell (lt_cell x4) hne x4;replace x5:=hK.cell (lt_cell x5) hne x5;replace hbl:=hL.out.lt;clear hK)
   | (go_at_call 110;refine (lin _ _ _ _).mono ?_;rintro e w1 ⟨rfl,rfl⟩))
  go_ret;rw [HX.out];refine got_eq hL.out hT ?_
  (try simp)
  first | done | ac_rfl | grind
def allTo (regs:Int) (ps:List Ty) (xs:List Int) (k:Nat):Bool:=(List.range k).all fun k=>Rform.reg regs (xs.getD k 0) (ps.getD k ⟨0,0⟩).kind
theorem allTo_succ (regs:Int) (ps:List Ty) (xs:List Int) (k:Nat):allTo regs ps xs (k+1)=(allTo regs ps xs k && Rform.reg regs (xs.getD k 0) (ps.getD k ⟨0,0⟩).kind):=by
 simp [allTo,List.range_succ]
set_option maxRecDepth 100000 in
theorem more18 (f:Fi) (m:Me) (a b c n:Int) (args:List Int) (ok:Bool) (lb:Nat) (ca:Option Addr) (ccap:Nat) (vm vp:Value) (da:Option Addr) (dcap:Nat) (vh:Value) (aa:Option Addr) (acap:Nat) (w:World)
  (h:Lk w lb (.slice ca f.classes.length ccap) vm vp (.slice da m.code.length dcap) vh m ok) (hF:Fit f m f.classes.length ccap dcap) (oks:Ok a∧Ok b∧Ok c∧Ok n) (ha:args.length≤acap∧acap≤9223372036854775807) (B0:Nat) (hB:B0≤lb) (hms:Sl 8 EMe w B0 vm f.methods) (hargs:Sl 1 EInt w B0 (.slice aa args.length acap) args) :
  Calls Try.prog 165 #[.pointer (some ⟨lb,0,none⟩),.agg #[.int .i64 18,.int .i64 a,.int .i64 b,.int .i64 c,.int .i64 n,.slice aa args.length acap]] w
   (Got w lb (.slice ca f.classes.length ccap) vm vp (.slice da m.code.length dcap) vh m (moreX f m ok ⟨18,a,b,c,n,args⟩)):=by
 obtain ⟨hc1,hc2,hd1,hd2,hr⟩:=hF;obtain ⟨oa,ob,oc,on⟩:=oks;obtain ⟨ha1,ha2⟩:=ha;obtain ⟨hr1,hr2⟩:=hr;have hr:0≤m.regs∧m.regs≤90:=⟨hr1,hr2⟩;have hlt:=h.lt;have hne:w.heap.size≠lb:=by omega
 have hL:=Lib.hid (h.next (Below.alloc (Below.refl _ _) (Nat.le_refl _) (.cells #[.int .i64 18,.int .i64 a,.int .i64 b,.int .i64 c,.int .i64 n,.slice aa args.length acap] 63)) h.lt);have hT:Keep w.heap.size lb w (w.alloc (.cells #[.int .i64 18,.int .i64 a,.int .i64 b,.int .i64 c,.int .i64 n,.slice aa args.length acap] 63)):=Keep.alloc (Keep.refl _ _ _) (Nat.le_refl _) _;have hTs:=hT.size;have hbl:=hL.out.lt;have x0:(w.alloc (.cells #[.int .i64 18,.int .i64 a,.int .i64 b,.int .i64 c,.int .i64 n,.slice aa args.length acap] 63)).cell? ⟨w.heap.size,0,none⟩=some (.int .i64 18):=by go_simp
 have x1:(w.alloc (.cells #[.int .i64 18,.int .i64 a,.int .i64 b,.int .i64 c,.int .i64 n,.slice aa args.length acap] 63)).cell? ⟨w.heap.size,1,none⟩=some (.int .i64 a):=by go_simp
 have x2:(w.alloc (.cells #[.int .i64 18,.int .i64 a,.int .i64 b,.int .i64 c,.int .i64 n,.slice aa args.length acap] 63)).cell? ⟨w.heap.size,2,none⟩=some (.int .i64 b):=by go_simp
 have x3:(w.alloc (.cells #[.int .i64 18,.int .i64 a,.int .i64 b,.int .i64 c,.int .i64 n,.slice aa args.length acap] 63)).cell? ⟨w.heap.size,3,none⟩=some (.int .i64 c):=by go_simp
 have x4:(w.alloc (.cells #[.int .i64 18,.int .i64 a,.int .i64 b,.int .i64 c,.int .i64 n,.slice aa args.length acap] 63)).cell? ⟨w.heap.size,4,none⟩=some (.int .i64 n):=by go_simp
 have x5:(w.alloc (.cells #[.int .i64 18,.int .i64 a,.int .i64 b,.int .i64 c,.int .i64 n,.slice aa args.length acap] 63)).cell? ⟨w.heap.size,5,none⟩=some (.slice aa args.length acap):=by go_simp
 clear h;obtain ⟨ma,mcap,rfl,mlc,mcc,mel⟩:=hms
 go_enter Try.func165,Try.ntmps165
 go_wp2_with fail
 have y1:=hL.out.1.2;have hlx:=lt_cell x1;refine Drawn.hd (fun w'=>w'.cell? ⟨lb,1,none⟩=some (.slice ma f.methods.length mcap)∧w'.cell? ⟨w.heap.size,1,none⟩=some (.int .i64 a)) (hS:=by (try dsimp only);first | exact ⟨y1,x1⟩ | go_keep) (h:=fun hHeld=>?_)
 refine dT 0 101 ?_;refine dT 1 102 ?_;refine dT 2 103 ?_;refine dT 3 104 ?_;refine dT 4 105 ?_;refine dT 5 106 ?_;refine dT 6 107 ?_;refine dT 7 108 ?_;refine dT 8 109 ?_;refine Drawn.cl 9 (fun K hK=>?_);go_simp
 go_at_call 110
 refine (lin _ _ _ _).mono ?_;rintro e w2 ⟨rfl,rfl⟩
 go_wp2_with fail
 refine Drawn.bk hK (hS:=by (try dsimp only);exact ⟨y1,x1⟩) (h:=fun hHeld=>?_)
 clear hK K;refine Drawn.cl 10 (fun K hK=>?_);go_simp;refine Drawn.bk hK (h:=fun hHeld=>?_);clear hK K;refine Drawn.cl 11 (fun K hK=>?_);go_simp
 with_reducible refine (mustD (by first | rfl | simp) hL.out).mono ?_
 rintro e w3 ⟨rfl,hA,hK5⟩;replace hL:=Lib.hid hA;clear hA;replace hT:=hT.trans (hK5.mono hTs);replace hTs:=Nat.le_trans hTs hK5.size;replace x0:=hK5.cell (lt_cell x0) hne x0;replace x1:=hK5.cell (lt_cell x1) hne x1;replace x2:=hK5.cell (lt_cell x2) hne x2;replace x3:=hK5.cell (lt_cell x3) hne x3;replace x4:=hK5.cell (lt_cell x4) hne x4;replace x5:=hK5.cell (lt_cell x5) hne x5;replace hbl:=hL.out.lt;clear hK5;replace y1:=hL.out.1.2
 go_wp2_with fail
 refine Drawn.bk hK (hS:=by (try dsimp only);exact ⟨y1,x1⟩) (h:=fun hHeld=>?_)
 clear hK K;refine dN ?_;obtain ⟨q,hq⟩:∃ q,Hid ((ok && Form.rng a 0 f.methods.length)=q):=⟨_,rfl⟩;rw [hq.out] at hL;have z10:=hL.out.2.2.1
 cases q
 ·have hX:Hid (moreX f m ok ⟨18,a,b,c,n,args⟩=false):=by
   show _=_
   have h:=hq.out;rw [Bool.and_eq_false_iff] at h
   rcases h with h | h <;> simp [moreX,Rform.body,h]
  go_wp2_with fail
  go_ret;rw [hX.out];exact got_eq hL.out hT (by simp)
 ·have hq2:=hq.out;rw [Bool.and_eq_true] at hq2;obtain ⟨hok,hrc⟩:=hq2;have hr2:0≤a∧a < f.methods.length:=by simpa [Form.rng] using hrc
  obtain ⟨k,rfl⟩:=Int.eq_ofNat_of_zero_le hr2.1;have hk:k < f.methods.length:=by omega
  obtain ⟨b0,o0,rfl,hb0,he⟩:=mel k hk
  have hmp:Hid (Rform.mAt f.methods (k:Int)=(f.methods[k]).params):=by
   show _=_
   simp [Rform.mAt,hk]
  obtain ⟨x,hx⟩:=at_of hk;rw [hx.out] at he hmp;obtain ⟨vp',_,_,g3,_,_,_,_,_,_,_,_,hps,_,_⟩:=he;obtain ⟨pa,pcap,rfl,plc,pcc,pel⟩:=hps;have g4:=hT.cell (by omega) (by omega) g3
  have hk0:(0:Int)≤(k:Int)∧(k:Int) < f.methods.length:=⟨by omega,by omega⟩
  have hXX:Hid (moreX f m ok ⟨18,(k:Int),b,c,n,args⟩=((decide (args.length=x.params.length) && allTo m.regs x.params args x.params.length && decide (b=0) && decide (c=0)) && decide (n=0))):=by
   show _=_
   have h:=hmp.out;simp [moreX,Rform.body,Rform.num,hok,hrc,h,Rform.regsOk,allTo]
  clear mel hrc hr2 g3 hq
  go_wp2_with fail
  refine Drawn.hd (fun w'=>w'.cell? ⟨lb,1,none⟩=some (.slice (some ⟨b0,o0,none⟩) f.methods.length mcap)∧w'.cell? ⟨w.heap.size,1,none⟩=some (.int .i64 (k:Int))∧w'.cell? ⟨b0,o0+k*8,none⟩=some (.slice pa x.params.length pcap)) (hS:=by (try dsimp only);first | exact ⟨y1,x1,g4⟩ | go_keep) (h:=fun hHeld=>?_)
  refine dT 0 118 ?_;refine dT 1 119 ?_;refine dT 2 120 ?_;refine dT 3 121 ?_;refine dT 4 122 ?_;refine dT 5 123 ?_;refine dT 6 124 ?_;refine dT 7 125 ?_;refine dT 8 126 ?_;refine dT 9 127 ?_;refine dT 10 6 ?_;refine dN ?_;replace hL:=Lib.hid (hL.out.next (Below.drew (Below.refl _ _)) hbl);replace hT:=Keep.drew hT
  go_wp2_with fail
  refine (mustA (by first | rfl | simp) hL.out).mono ?_
  rintro e w4 ⟨rfl,hA,hK⟩;replace hL:=Lib.hid hA;clear hA;replace hT:=hT.trans (hK.mono hTs);replace hTs:=Nat.le_trans hTs hK.size;replace x0:=hK.cell (lt_cell x0) hne x0;replace x1:=hK.cell (lt_cell x1) hne x1;replace x2:=hK.cell (lt_cell x2) hne x2;replace x3:=hK.cell (lt_cell x3) hne x3;replace x4:=hK.cell (lt_cell x4) hne x4;replace x5:=hK.cell (lt_cell x5) hne x5;replace hbl:=hL.out.lt;clear hK
  have eq1:Hid ((true && ((args.length:Int)==(x.params.length:Int)))=decide (args.length=x.params.length)):=by
   show _=_
   rw [Bool.eq_iff_iff];simp;omega
  rw [eq1.out] at hL;obtain ⟨q0,hq0⟩:∃ q0,Hid (decide (args.length=x.params.length)=q0):=⟨_,rfl⟩;rw [hq0.out] at hL hXX;obtain ⟨aa',acap',haa,_,_,ael⟩:=hargs;injection haa with haa1 haa2 haa3
  subst haa1;clear haa2 haa3;have hT1:=Lib.hid hT;have hTs1:=hTs
  go_wp2_with fail
  go_loopw [139] (fun i wr=>∃ j:Nat,j≤x.params.length∧i=.int .i64 j∧Hid (Lk wr lb (.slice ca f.classes.length ccap) (.slice (some ⟨b0,o0,none⟩) f.methods.length mcap) vp (.slice da m.code.length dcap) vh m (q0 && allTo m.regs x.params args j))∧Keep w4.heap.size lb w4 wr) (fun i _=>x.params.length - (intOf i).toNat)
  case atStart=>exact ⟨0,by omega,rfl,by show Lk _ _ _ _ _ _ _ _ _;simpa [allTo] using hL.out,Keep.refl _ _ _⟩
  case round =>
   obtain ⟨j,hj,rfl,hlk,hkp⟩:=hrel;have hks:=hkp.size;have hlx4:=lt_cell x4;have r5:=hkp.cell hlx4 hne x5;have r4:=hkp.cell hlx4 hne x4;have r3:=hkp.cell hlx4 hne x3;have r2:=hkp.cell hlx4 hne x2;have r1:=hkp.cell hlx4 hne x1;have r0:=hkp.cell hlx4 hne x0;have hkw:Keep w.heap.size lb w wr:=hT.trans (hkp.mono hTs);have hbr:=hlk.out.lt
   by_cases hlt2:j < x.params.length
   ·obtain ⟨fb,fo,rfl,hfb,hfe⟩:=pel j hlt2;have hst:=Lib.hid (allTo_succ m.regs x.params args j)
    have hgd:Hid (x.params.getD j ⟨0,0⟩=x.params[j]):=by
     show _=_
     simp [hlt2]
    obtain ⟨t,ht⟩:=at_of hlt2;rw [ht.out] at hfe hgd;rw [hgd.out] at hst;obtain ⟨e1,e2,okk,_⟩:=hfe;have p1:=hkw.cell (by omega) (by omega) e1
    have p2:=hkw.cell (by omega) (by omega) e2
    have hI:(j:Int) < x.params.length:=by omega
    have hI0:(0:Int)≤(j:Int):=by omega
    obtain ⟨qq,hqq⟩:∃ qq,Hid ((q0 && allTo m.regs x.params args j)=qq):=⟨_,rfl⟩;rw [hqq.out] at hlk;have z10:=hlk.out.2.2.1;clear pel e1 e2
    cases qq
    ·go_wp2_with fail
     go_roundw
     case rel =>
      refine ⟨j+1,by omega,by go_num,?_,hkp.trans (Keep.alloc (Keep.refl _ _ _) (by omega) _)⟩
      rw [hst.out,← Bool.and_assoc,hqq.out];exact (hlk.out.next (Below.alloc (Below.refl _ _) (Nat.le_refl _) _) hlk.out.lt)
     case measure=>simp [intOf];omega
    ·have hla:args.length=x.params.length:=by
      have h:=hqq.out;rw [Bool.and_eq_true] at h;have h2:=hq0.out;rw [h.1] at h2
      simpa using h2
     have hjl:j < args.length:=by omega
     clear hla;obtain ⟨ab,ao,rfl,hab,hae⟩:=ael j hjl
     have hga:Hid (args.getD j 0=args[j]):=by
      show _=_
      simp [hjl]
     obtain ⟨y,hy⟩:=at_of hjl;rw [hy.out] at hae hga;rw [hga.out] at hst;have p3:=hkw.cell (by omega) (by omega) hae.1
     rw [Nat.mul_one] at p3;have hI2:(0:Int)≤(j:Int)∧(j:Int) < args.length:=⟨by omega,by omega⟩
     have hl3:=lt_cell p3;have hl5:=lt_cell r5;clear ael hae
     go_wp2_with fail
     refine Drawn.hd (fun w'=>w'.cell? ⟨wr.heap.size,0,none⟩=some (.int .i64 t.kind)∧w'.cell? ⟨w.heap.size,5,none⟩=some (.slice (some ⟨ab,ao,none⟩) args.length acap)∧w'.cell? ⟨ab,ao+j,none⟩=some (.int .i64 y)) (hS:=by (try dsimp only);first | (refine ⟨?_,?_,?_⟩ <;> go_simp) | go_keep) (h:=fun hHeld=>?_)
     refine dT 0 148 ?_;refine dT 1 149 ?_;refine dT 2 150 ?_;refine dT 3 151 ?_;refine dT 4 152 ?_;refine dT 5 153 ?_;refine dT 6 154 ?_;refine dT 7 155 ?_;refine Drawn.cl 8 (fun K hK=>?_);go_simp;refine Drawn.bk hK (h:=fun hHeld=>?_);clear hK K;refine Drawn.cl 9 (fun K hK=>?_);go_simp
     with_reducible refine (reg1D (by first | rfl | simp) (hlk.out.next (Below.alloc (Below.refl _ _) (Nat.le_refl _) (.cells #[.int .i64 t.kind,.int .i64 t.cls] 51)) hlk.out.lt) okk hr).mono ?_
     rintro e w6 ⟨rfl,hA,hK5⟩;have hA2:=Lib.hid hA;clear hA;have s1:w6.cell? ⟨wr.heap.size,0,none⟩=some (.int .i64 t.kind):=hK5.cell (by simp) (by omega) (by go_simp)
     have s2:w6.cell? ⟨w.heap.size,5,none⟩=some (.slice (some ⟨ab,ao,none⟩) args.length acap):=hK5.cell (by simp;omega) (by omega) (by go_simp)
     have s3:w6.cell? ⟨ab,ao+j,none⟩=some (.int .i64 y):=hK5.cell (by simp;omega) (by omega) (by go_simp)
     have hkk:Keep w4.heap.size lb w4 w6:=hkp.trans (Keep.trans (Keep.alloc (Keep.refl _ _ _) hks _) (hK5.mono (by simp;omega)))
     go_wp2_with fail
     refine Drawn.bk hK (hS:=by (try dsimp only);exact ⟨s1,s2,s3⟩) (h:=fun hHeld=>?_)
     clear hK K;refine dN ?_
     go_wp2_with fail
     go_roundw
     case rel =>
      refine ⟨j+1,by omega,by go_num,?_,hkk⟩
      rw [hst.out,← Bool.and_assoc,hqq.out];exact hA2.out
     case measure=>simp [intOf];omega
   ·have hge:¬ (j:Int) < x.params.length:=by omega
    obtain rfl:j=x.params.length:=by omega
    have hL2:=hlk;clear pel ael hlk;replace hL:=hL2;replace hT:=hkw;replace hTs:=hkw.size;replace hbl:=hbr;replace x0:=r0;replace x1:=r1;replace x2:=r2;replace x3:=r3;replace x4:=r4;replace x5:=r5
    go_wp2_with (first
   | (go_at_call 161;(first | (with_reducible refine (mustA (by first | rfl | simp) hL.out).mono ?_));rintro e w1 ⟨rfl,hA,hK⟩;replace hL:=Lib.hid hA;clear hA;replace hT:=hT.trans (hK.mono hTs);replace hTs:=Nat.le_trans hTs hK.size;replace x0:=hK.cell (lt_cell x0) hne x0;replace x1:=hK.cell (lt_cell x1) hne x1;replace x2:=hK.cell (lt_cell x2) hne x2;replace x3:=hK.cell (lt_cell x3) hne x3;replace x4:=hK.cell (lt_cell x4) hne x4;replace x5:=hK.cell (lt_cell x5) hne x5;replace hbl:=hL.out.lt;clear hK)
   | (go_at_call 162;(first | (with_reducible refine (reg1A (by first | rfl | simp) hL.out (by first | with_reducible assumption | (unfold Ok;omega)) hr).mono ?_) | (with_reducible refine (reg2A (by first | rfl | simp) hL.out (by first | with_reducible assumption | (unfold Ok;omega)) hr).mono ?_) | (with_reducible refine (reg3A (by first | rfl | simp) hL.out (by first | with_reducible assumption | (unfold Ok;omega)) hr).mono ?_));rintro e w1 ⟨rfl,hA,hK⟩;replace hL:=Lib.hid hA;clear hA;replace hT:=hT.trans (hK.mono hTs);replace hTs:=Nat.le_trans hTs hK.size;replace x0:=hK.cell (lt_cell x0) hne x0;replace x1:=hK.cell (lt_cell x1) hne x1;replace x2:=hK.cell (lt_cell x2) hne x2;replace x3:=hK.cell (lt_cell x3) hne x3;replace x4:=hK.cell (lt_cell x4) hne x4;replace x5:=hK.cell (lt_cell x5) hne x5;replace hbl:=hL.out.lt;clear hK)
   | (go_at_call 163;(first | (with_reducible refine (nought1A (by first | rfl | simp) hL.out).mono ?_) | (with_reducible refine (nought2A (by first | rfl | simp) hL.out).mono ?_));rintro e w1 ⟨rfl,hA,hK⟩;replace hL:=Lib.hid hA;clear hA;replace hT:=hT.trans (hK.mono hTs);replace hTs:=Nat.le_trans hTs hK.size;replace x0:=hK.cell (lt_cell x0) hne x0;replace x1:=hK.cell (lt_cell x1) hne x1;replace x2:=hK.cell (lt_cell x2) hne x2;replace x3:=hK.cell (lt_cell x3) hne x3;replace x4:=hK.cell (lt_cell x4) hne x4;replace x5:=hK.cell (lt_cell x5) hne x5;replace hbl:=hL.out.lt;clear hK)
   | (go_at_call 164;(first | (with_reducible refine (atA hL.out hd1 hd2).mono ?_));rintro e w1 ⟨rfl,hA,hK⟩;replace hL:=Lib.hid hA;clear hA;replace hT:=hT.trans (hK.mono hTs);replace hTs:=Nat.le_trans hTs hK.size;replace x0:=hK.cell (lt_cell x0) hne x0;replace x1:=hK.cell (lt_cell x1) hne x1;replace x2:=hK.cell (lt_cell x2) hne x2;replace x3:=hK.cell (lt_cell x3) hne x3;replace x4:=hK.cell (lt_cell x4) hne x4;replace x5:=hK.cell (lt_cell x5) hne x5;replace hbl:=hL.out.lt;clear hK)
   | (go_at_call 206;(first | (with_reducible refine (clsA hL.out hc1 hc2).mono ?_));rintro e w1 ⟨rfl,hA,hK⟩;replace hL:=Lib.hid hA;clear hA;replace hT:=hT.trans (hK.mono hTs);replace hTs:=Nat.le_trans hTs hK.size;replace x0:=hK.cell (lt_cell x0) hne x0;replace x1:=hK.cell (lt_cell x1) hne x1;replace x2:=hK.cell (lt_cell x2) hne x2;replace x3:=hK.cell (lt_cell x3) hne x3;replace x4:=hK.cell (lt_cell x4) hne x4;replace x5:=hK.cell (lt_cell x5) hne x5;replace hbl:=hL.out.lt;clear hK)
   | (go_at_call 110;refine (lin _ _ _ _).mono ?_;rintro e w1 ⟨rfl,rfl⟩))
    go_ret;rw [hXX.out];refine got_eq hL.out hT ?_
    (try simp)
    first | done | ac_rfl | grind
end Look
namespace Look
open Num Rd D HierW FormW
theorem more (f:Fi) (m:Me) (op a b c n:Int) (args:List Int) (ok:Bool) (lb:Nat) (ca:Option Addr) (ccap:Nat) (vm vp:Value) (da:Option Addr) (dcap:Nat) (vh:Value) (aa:Option Addr) (acap:Nat) (w:World)
  (h:Lk w lb (.slice ca f.classes.length ccap) vm vp (.slice da m.code.length dcap) vh m ok) (hF:Fit f m f.classes.length ccap dcap) (oks:Ok a∧Ok b∧Ok c∧Ok n) (ha:args.length≤acap∧acap≤9223372036854775807) (okk:Ok m.ret.kind)
  (B0:Nat) (hB:B0≤lb) (hcl:Sl 2 ECls w B0 (.slice ca f.classes.length ccap) f.classes) (hms:Sl 8 EMe w B0 vm f.methods) (hargs:Sl 1 EInt w B0 (.slice aa args.length acap) args)
  (hop:¬ (1≤op∧op≤12)∧op≠21∧op≠22) :
  Calls Try.prog 165 #[.pointer (some ⟨lb,0,none⟩),.agg #[.int .i64 op,.int .i64 a,.int .i64 b,.int .i64 c,.int .i64 n,.slice aa args.length acap]] w
   (Got w lb (.slice ca f.classes.length ccap) vm vp (.slice da m.code.length dcap) vh m (moreX f m ok ⟨op,a,b,c,n,args⟩)):=by
 by_cases hA:op=13∨op=16∨op=17∨op=19∨op=23∨op=24
 ·exact moreA f m op a b c n args ok lb ca ccap vm vp da dcap vh aa acap w h hF oks ha hA
 by_cases hF2:op=14∨op=15
 ·exact moreF f m op a b c n args ok lb ca ccap vm vp da dcap vh aa acap w h hF oks ha B0 hB hcl hF2
 by_cases h18:op=18
 ·subst h18;exact more18 f m a b c n args ok lb ca ccap vm vp da dcap vh aa acap w h hF oks ha B0 hB hms hargs
 by_cases h20:op=20
 ·subst h20;exact more20 f m a b c n args ok lb ca ccap vm vp da dcap vh aa acap w h hF oks ha okk
 exact moreNo f m op a b c n args ok lb ca ccap vm vp da dcap vh aa acap w h hF oks ha (by omega)
set_option maxRecDepth 100000 in
theorem insD (f:Fi) (m:Me) (op a b c n:Int) (args:List Int) (lb:Nat) (ca:Option Addr) (ccap:Nat) (vm vp:Value) (da:Option Addr) (dcap:Nat) (vh:Value) (aa:Option Addr) (acap:Nat) (w:World)
  (h:Lk w lb (.slice ca f.classes.length ccap) vm vp (.slice da m.code.length dcap) vh m true) (hF:Fit f m f.classes.length ccap dcap) (oks:Ok a∧Ok b∧Ok c∧Ok n) (ha:args.length≤acap∧acap≤9223372036854775807) (okk:Ok m.ret.kind)
  (B0:Nat) (hB:B0≤lb) (hcl:Sl 2 ECls w B0 (.slice ca f.classes.length ccap) f.classes) (hms:Sl 8 EMe w B0 vm f.methods) (hargs:Sl 1 EInt w B0 (.slice aa args.length acap) args) (hop:¬ (1≤op∧op≤12)∧op≠21∧op≠22∧op≠18) :
  Calls Try.prog 112 #[.pointer (some ⟨lb,0,none⟩),.agg #[.int .i64 op,.int .i64 a,.int .i64 b,.int .i64 c,.int .i64 n,.slice aa args.length acap]] w
   fun e w'=>e=.returned (.tuple #[])∧After w lb (.slice ca f.classes.length ccap) vm vp (.slice da m.code.length dcap) vh m (Rform.ins f m ⟨op,a,b,c,n,args⟩) w':=by
 have hF2:=Lib.hid hF;have oks2:=Lib.hid oks;have ha2:=Lib.hid ha;have okk2:=Lib.hid okk;obtain ⟨ha3,ha4⟩:=ha;have hlt:=h.lt;have hne:w.heap.size≠lb:=by omega
 have hL:=Lib.hid (h.next (Below.alloc (Below.refl _ _) (Nat.le_refl _) (.cells #[.int .i64 op,.int .i64 a,.int .i64 b,.int .i64 c,.int .i64 n,.slice aa args.length acap] 63)) h.lt);have hT:Keep w.heap.size lb w (w.alloc (.cells #[.int .i64 op,.int .i64 a,.int .i64 b,.int .i64 c,.int .i64 n,.slice aa args.length acap] 63)):=Keep.alloc (Keep.refl _ _ _) (Nat.le_refl _) _;have hTs:=hT.size;have hbl:=hL.out.lt;have x0:(w.alloc (.cells #[.int .i64 op,.int .i64 a,.int .i64 b,.int .i64 c,.int .i64 n,.slice aa args.length acap] 63)).cell? ⟨w.heap.size,0,none⟩=some (.int .i64 op):=by go_simp
 have x1:(w.alloc (.cells #[.int .i64 op,.int .i64 a,.int .i64 b,.int .i64 c,.int .i64 n,.slice aa args.length acap] 63)).cell? ⟨w.heap.size,1,none⟩=some (.int .i64 a):=by go_simp
 have x2:(w.alloc (.cells #[.int .i64 op,.int .i64 a,.int .i64 b,.int .i64 c,.int .i64 n,.slice aa args.length acap] 63)).cell? ⟨w.heap.size,2,none⟩=some (.int .i64 b):=by go_simp
 have x3:(w.alloc (.cells #[.int .i64 op,.int .i64 a,.int .i64 b,.int .i64 c,.int .i64 n,.slice aa args.length acap] 63)).cell? ⟨w.heap.size,3,none⟩=some (.int .i64 c):=by go_simp
 have x4:(w.alloc (.cells #[.int .i64 op,.int .i64 a,.int .i64 b,.int .i64 c,.int .i64 n,.slice aa args.length acap] 63)).cell? ⟨w.heap.size,4,none⟩=some (.int .i64 n):=by go_simp
 have x5:(w.alloc (.cells #[.int .i64 op,.int .i64 a,.int .i64 b,.int .i64 c,.int .i64 n,.slice aa args.length acap] 63)).cell? ⟨w.heap.size,5,none⟩=some (.slice aa args.length acap):=by go_simp
 clear h;have n1:(op==1)=false:=by simp;omega
 have n2:(op==2)=false:=by simp;omega
 have n3:(op==3)=false:=by simp;omega
 have n4:(op==4)=false:=by simp;omega
 have n5:(op==5)=false:=by simp;omega
 have n6:(op==6)=false:=by simp;omega
 have n7:(op==7)=false:=by simp;omega
 have n8:(op==8)=false:=by simp;omega
 have n9:(op==9)=false:=by simp;omega
 have n10:(op==10)=false:=by simp;omega
 have n11:(op==11)=false:=by simp;omega
 have n12:(op==12)=false:=by simp;omega
 have n21:(op==21)=false:=by simp;omega
 have n22:(op==22)=false:=by simp;omega
 have n18:(op==18)=false:=by simp;omega
 have hop2:=Lib.hid (show ¬ (1≤op∧op≤12)∧op≠21∧op≠22 from ⟨hop.1,hop.2.1,hop.2.2.1⟩);have hop18:=Lib.hid hop.2.2.2;clear hop;have hcl2:=Lib.hid hcl;have hms2:=Lib.hid hms;have hargs2:=Lib.hid hargs;clear hcl hms hargs okk oks hF
 go_enter Try.func112,Try.ntmps112
 go_wp2_with fail
 refine (mustA (by first | rfl | simp) hL.out).mono ?_
 rintro e w1 ⟨rfl,hA,hK⟩;replace hL:=Lib.hid hA;clear hA;replace hT:=hT.trans (hK.mono hTs);replace hTs:=Nat.le_trans hTs hK.size;replace x0:=hK.cell (lt_cell x0) hne x0;replace x1:=hK.cell (lt_cell x1) hne x1;replace x2:=hK.cell (lt_cell x2) hne x2;replace x3:=hK.cell (lt_cell x3) hne x3;replace x4:=hK.cell (lt_cell x4) hne x4;replace x5:=hK.cell (lt_cell x5) hne x5;replace hbl:=hL.out.lt;clear hK;obtain ⟨q,hq⟩:∃ q,Hid ((true && ((args.length:Int)==0))=q):=⟨_,rfl⟩;rw [hq.out] at hL
 go_wp2_with fail
 have hTb:Below B0 w w1:=hT.below (by omega) hB
 refine (more f m op a b c n args q lb ca ccap vm vp da dcap vh aa acap w1 hL.out hF2.out oks2.out ha2.out okk2.out B0 hB (Sl.mono mCls hcl2.out hTb (Nat.le_refl _)) (Sl.mono mMe hms2.out hTb (Nat.le_refl _)) (Sl.mono mInt hargs2.out hTb (Nat.le_refl _)) hop2.out).mono ?_;rintro e w2 ⟨v,q2,rfl,⟨hA,hK⟩,heq⟩;have hEq:=Lib.hid heq;clear heq;replace hL:=Lib.hid hA;clear hA;replace hT:=hT.trans (hK.mono hTs);replace hTs:=Nat.le_trans hTs hK.size;replace x0:=hK.cell (lt_cell x0) hne x0;replace x1:=hK.cell (lt_cell x1) hne x1;replace x2:=hK.cell (lt_cell x2) hne x2;replace x3:=hK.cell (lt_cell x3) hne x3;replace x4:=hK.cell (lt_cell x4) hne x4;replace x5:=hK.cell (lt_cell x5) hne x5;replace hbl:=hL.out.lt;clear hK
 go_wp2_with fail
 refine (mustA (by first | rfl | simp) hL.out).mono ?_
 rintro e w3 ⟨rfl,hA,hK⟩;replace hL:=Lib.hid hA;clear hA;replace hT:=hT.trans (hK.mono hTs);replace hTs:=Nat.le_trans hTs hK.size;replace x0:=hK.cell (lt_cell x0) hne x0;replace x1:=hK.cell (lt_cell x1) hne x1;replace x2:=hK.cell (lt_cell x2) hne x2;replace x3:=hK.cell (lt_cell x3) hne x3;replace x4:=hK.cell (lt_cell x4) hne x4;replace x5:=hK.cell (lt_cell x5) hne x5;replace hbl:=hL.out.lt;clear hK
 go_wp2_with fail
 go_end0
 refine ⟨rfl,after_eq hL.out hT ?_⟩;rw [show (v==0)=decide (v=0) from rfl,hEq.out,← hq.out];unfold moreX Rform.ins;have e0:((args.length:Int)==0)=decide (args.length=0):=by rw [Bool.eq_iff_iff];simp
 rw [e0,decide_eq_false hop18.out];simp only [Bool.true_and,Bool.false_or,Bool.and_assoc]
set_option maxRecDepth 100000 in
theorem insC (f:Fi) (m:Me) (a b c n:Int) (args:List Int) (lb:Nat) (ca:Option Addr) (ccap:Nat) (vm vp:Value) (da:Option Addr) (dcap:Nat) (vh:Value) (aa:Option Addr) (acap:Nat) (w:World)
  (h:Lk w lb (.slice ca f.classes.length ccap) vm vp (.slice da m.code.length dcap) vh m true) (hF:Fit f m f.classes.length ccap dcap) (oks:Ok a∧Ok b∧Ok c∧Ok n) (ha:args.length≤acap∧acap≤9223372036854775807) (okk:Ok m.ret.kind)
  (B0:Nat) (hB:B0≤lb) (hcl:Sl 2 ECls w B0 (.slice ca f.classes.length ccap) f.classes) (hms:Sl 8 EMe w B0 vm f.methods) (hargs:Sl 1 EInt w B0 (.slice aa args.length acap) args) :
  Calls Try.prog 112 #[.pointer (some ⟨lb,0,none⟩),.agg #[.int .i64 18,.int .i64 a,.int .i64 b,.int .i64 c,.int .i64 n,.slice aa args.length acap]] w
   fun e w'=>e=.returned (.tuple #[])∧After w lb (.slice ca f.classes.length ccap) vm vp (.slice da m.code.length dcap) vh m (Rform.ins f m ⟨18,a,b,c,n,args⟩) w':=by
 have hF2:=Lib.hid hF;have oks2:=Lib.hid oks;have ha2:=Lib.hid ha;have okk2:=Lib.hid okk;obtain ⟨ha3,ha4⟩:=ha;have hlt:=h.lt;have hne:w.heap.size≠lb:=by omega
 have hL:=Lib.hid (h.next (Below.alloc (Below.refl _ _) (Nat.le_refl _) (.cells #[.int .i64 18,.int .i64 a,.int .i64 b,.int .i64 c,.int .i64 n,.slice aa args.length acap] 63)) h.lt);have hT:Keep w.heap.size lb w (w.alloc (.cells #[.int .i64 18,.int .i64 a,.int .i64 b,.int .i64 c,.int .i64 n,.slice aa args.length acap] 63)):=Keep.alloc (Keep.refl _ _ _) (Nat.le_refl _) _;have hTs:=hT.size;have hbl:=hL.out.lt;have x0:(w.alloc (.cells #[.int .i64 18,.int .i64 a,.int .i64 b,.int .i64 c,.int .i64 n,.slice aa args.length acap] 63)).cell? ⟨w.heap.size,0,none⟩=some (.int .i64 18):=by go_simp
 have x1:(w.alloc (.cells #[.int .i64 18,.int .i64 a,.int .i64 b,.int .i64 c,.int .i64 n,.slice aa args.length acap] 63)).cell? ⟨w.heap.size,1,none⟩=some (.int .i64 a):=by go_simp
 have x2:(w.alloc (.cells #[.int .i64 18,.int .i64 a,.int .i64 b,.int .i64 c,.int .i64 n,.slice aa args.length acap] 63)).cell? ⟨w.heap.size,2,none⟩=some (.int .i64 b):=by go_simp
 have x3:(w.alloc (.cells #[.int .i64 18,.int .i64 a,.int .i64 b,.int .i64 c,.int .i64 n,.slice aa args.length acap] 63)).cell? ⟨w.heap.size,3,none⟩=some (.int .i64 c):=by go_simp
 have x4:(w.alloc (.cells #[.int .i64 18,.int .i64 a,.int .i64 b,.int .i64 c,.int .i64 n,.slice aa args.length acap] 63)).cell? ⟨w.heap.size,4,none⟩=some (.int .i64 n):=by go_simp
 have x5:(w.alloc (.cells #[.int .i64 18,.int .i64 a,.int .i64 b,.int .i64 c,.int .i64 n,.slice aa args.length acap] 63)).cell? ⟨w.heap.size,5,none⟩=some (.slice aa args.length acap):=by go_simp
 clear h;have hop2:=Lib.hid (show ¬ (1≤(18:Int)∧(18:Int)≤12)∧(18:Int)≠21∧(18:Int)≠22 from by omega)
 have hcl2:=Lib.hid hcl;have hms2:=Lib.hid hms;have hargs2:=Lib.hid hargs;clear hcl hms hargs okk oks hF
 go_enter Try.func112,Try.ntmps112
 go_wp2_with fail
 refine (mustA (by first | rfl | simp) hL.out).mono ?_
 rintro e w1 ⟨rfl,hA,hK⟩;replace hL:=Lib.hid hA;clear hA;replace hT:=hT.trans (hK.mono hTs);replace hTs:=Nat.le_trans hTs hK.size;replace x0:=hK.cell (lt_cell x0) hne x0;replace x1:=hK.cell (lt_cell x1) hne x1;replace x2:=hK.cell (lt_cell x2) hne x2;replace x3:=hK.cell (lt_cell x3) hne x3;replace x4:=hK.cell (lt_cell x4) hne x4;replace x5:=hK.cell (lt_cell x5) hne x5;replace hbl:=hL.out.lt;clear hK;obtain ⟨q,hq⟩:∃ q,Hid ((true && true)=q):=⟨_,rfl⟩;rw [hq.out] at hL
 go_wp2_with fail
 have hTb:Below B0 w w1:=hT.below (by omega) hB
 refine (more f m 18 a b c n args q lb ca ccap vm vp da dcap vh aa acap w1 hL.out hF2.out oks2.out ha2.out okk2.out B0 hB (Sl.mono mCls hcl2.out hTb (Nat.le_refl _)) (Sl.mono mMe hms2.out hTb (Nat.le_refl _)) (Sl.mono mInt hargs2.out hTb (Nat.le_refl _)) hop2.out).mono ?_;rintro e w2 ⟨v,q2,rfl,⟨hA,hK⟩,heq⟩;have hEq:=Lib.hid heq;clear heq;replace hL:=Lib.hid hA;clear hA;replace hT:=hT.trans (hK.mono hTs);replace hTs:=Nat.le_trans hTs hK.size;replace x0:=hK.cell (lt_cell x0) hne x0;replace x1:=hK.cell (lt_cell x1) hne x1;replace x2:=hK.cell (lt_cell x2) hne x2;replace x3:=hK.cell (lt_cell x3) hne x3;replace x4:=hK.cell (lt_cell x4) hne x4;replace x5:=hK.cell (lt_cell x5) hne x5;replace hbl:=hL.out.lt;clear hK
 go_wp2_with fail
 refine (mustA (by first | rfl | simp) hL.out).mono ?_
 rintro e w3 ⟨rfl,hA,hK⟩;replace hL:=Lib.hid hA;clear hA;replace hT:=hT.trans (hK.mono hTs);replace hTs:=Nat.le_trans hTs hK.size;replace x0:=hK.cell (lt_cell x0) hne x0;replace x1:=hK.cell (lt_cell x1) hne x1;replace x2:=hK.cell (lt_cell x2) hne x2;replace x3:=hK.cell (lt_cell x3) hne x3;replace x4:=hK.cell (lt_cell x4) hne x4;replace x5:=hK.cell (lt_cell x5) hne x5;replace hbl:=hL.out.lt;clear hK
 go_wp2_with fail
 go_end0
 refine ⟨rfl,after_eq hL.out hT ?_⟩;rw [show (v==0)=decide (v=0) from rfl,hEq.out,← hq.out];unfold moreX Rform.ins;simp only [Bool.true_and,decide_true,Bool.true_or]
theorem ins (f:Fi) (m:Me) (i:Ins) (vi:Value) (lb:Nat) (ca:Option Addr) (ccap:Nat) (vm vp:Value) (da:Option Addr) (dcap:Nat) (vh:Value) (w:World)
  (h:Lk w lb (.slice ca f.classes.length ccap) vm vp (.slice da m.code.length dcap) vh m true) (hF:Fit f m f.classes.length ccap dcap) (okk:Ok m.ret.kind)
  (B0:Nat) (hB:B0≤lb) (hcl:Sl 2 ECls w B0 (.slice ca f.classes.length ccap) f.classes) (hms:Sl 8 EMe w B0 vm f.methods) (hi:VIns w B0 vi i) :
  Calls Try.prog 112 #[.pointer (some ⟨lb,0,none⟩),vi] w
   fun e w'=>e=.returned (.tuple #[])∧After w lb (.slice ca f.classes.length ccap) vm vp (.slice da m.code.length dcap) vh m (Rform.ins f m i) w':=by
 obtain ⟨op,a,b,c,n,args⟩:=i;obtain ⟨va,rfl,⟨oop,oa,ob,oc,on⟩,hargs⟩:=hi;have hargs2:=hargs;obtain ⟨aa,acap,rfl,alc,acc,_⟩:=hargs2;simp only at *
 by_cases hA:op=1∨op=2∨op=3∨op=4∨op=5∨op=6∨op=7∨op=8∨op=9∨op=10∨op=11∨op=12∨op=21∨op=22
 ·exact insA op hA f m a b c n args lb ca ccap vm vp da dcap vh aa acap w h hF ⟨oa,ob,oc,on⟩ ⟨alc,acc⟩
 by_cases h18:op=18
 ·subst h18;exact insC f m a b c n args lb ca ccap vm vp da dcap vh aa acap w h hF ⟨oa,ob,oc,on⟩ ⟨alc,acc⟩ okk B0 hB hcl hms hargs
 exact insD f m op a b c n args lb ca ccap vm vp da dcap vh aa acap w h hF ⟨oa,ob,oc,on⟩ ⟨alc,acc⟩ okk B0 hB hcl hms hargs (by omega)
end Look
end Go.Proofs.Ytncmhenfgbcihab
