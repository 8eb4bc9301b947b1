/- Parts of the proof: Rv2, Rv3, FormW, FormR, Rw1, Rw2, Rw3, FormH, FormRH, FormRI, FormF, FormG, FormM. -/
import Derived.Test.YtncmhenfgbcihabGreatG07
import Derived.Test.YtncmhenfgbcihabGreatG03
import Derived.RegionTactic
import Derived.ChangeAlike
import Derived.Test.YtncmhenfgbcihabGreatG01
import Derived.Deep.RegionHeld3
import Derived.Deep.QuietTactic
import Derived.BigQuiet
import Derived.Deep.RegionWith
import Derived.Test.YtncmhenfgbcihabGreatG02
import Derived.Test.YtncmhenfgbcihabGreatG04
set_option linter.unusedSimpArgs false
set_option linter.unusedVariables false
set_option maxHeartbeats 8000000
namespace Go.Proofs.YtncmhenfgbcihabGreat
open Go.RowKit
namespace Rhw
open Num Rd D Run Mem HierW Hpw
section
variable {E:Ev}
theorem runOk (S:FiS E.f) (MO:MachOk SM SfOk E.f E.input E.fuel) (hfu:E.fuel≤60000) (hin:E.input.length≤1000):∀ (n d:Nat),d+n=20→∀ (g:Nat) (h:Hp),E.fuel < g+h.steps→RunOk E d g h:=by
 intro n
 induction n with
 | zero =>
  intro d hd g h hg k args h1 hk HO hs hv hl L W mv va X H hmv hva hX
  have hv3:∀ v∈args,v.kind=3→v.n < h1.objs.length:=fun v hv' e=>((hv v hv').1.2.2.2 e).2
  cases hall:allOf E.f.classes h1 args (meAt E.f k).params with
  | false =>
   have e:call SM E.f E.input E.fuel g d (meAt E.f k) args h1=.stop 6 h1:=by unfold call;rw [if_pos hall]
   rw [e]
   exact runF S H _ hmv args X hva hX hl hv3 (by omega) 6 (.inl ⟨hall,rfl⟩)
  | true =>
   have e:call SM E.f E.input E.fuel g d (meAt E.f k) args h1=.stop 5 h1:=by unfold call;rw [if_neg (by rw [hall];simp),if_pos (by omega)]
   rw [e]
   exact runF S H _ hmv args X hva hX hl hv3 (by omega) 5 (.inr ⟨hall,by omega,rfl⟩)
 | succ n ih =>
  intro d hd g h hg k args h1 hk HO hs hv hl L W mv va X H hmv hva hX
  have hv3:∀ v∈args,v.kind=3→v.n < h1.objs.length:=fun v hv' e=>((hv v hv').1.2.2.2 e).2
  cases hall:allOf E.f.classes h1 args (meAt E.f k).params with
  | false =>
   have e:call SM E.f E.input E.fuel g d (meAt E.f k) args h1=.stop 6 h1:=by unfold call;rw [if_pos hall]
   rw [e]
   exact runF S H _ hmv args X hva hX hl hv3 (by omega) 6 (.inl ⟨hall,rfl⟩)
  | true =>
   have e:call SM E.f E.input E.fuel g d (meAt E.f k) args h1=loop SM E.f E.input E.fuel g (d+1) (meAt E.f k) (SM.enter (meAt E.f k) args) h1:=by unfold call;rw [if_neg (by rw [hall];simp),if_neg (by omega)]
   have hmem:=meAt_mem hk
   have M:=S.mes _ hmem
   have hsz:size args≤(meAt E.f k).locals.toNat:=by
    have:=size_slots args _ hl (fun i hi=>allOf_kind args _ hall i hi (by omega))
    have:=M.locals.1
    omega
   exact runT S M H hmv args X hva hX hl hv (by omega) hall hsz _ HO hmem MO hfu hin g (by omega) e.symm (fun h2 g2 hg2 _=>ih (d+1) (by omega) g2 h2 hg2)
end
end Rhw
namespace Rhw
open Num Rd D Run Mem HierW Hpw
section
variable {E:Ev}{w w':World}{L L':RL}{h h':Hp}{d:Nat}{s:Sv}
def DoneR (E:Ev) (L:RL) (w:World) (h:Hp) (x y z:Int) (e:Ending) (w':World):Prop :=
 e=.returned (.agg #[.int .i64 x,.int .i64 y,.int .i64 z,L.vo,.int .i64 h.used,.int .i64 h.steps])∧RB E w' L h∧Kp (own E L) w w'
theorem own_sl {w:World}{B:Nat}{T:TypeId}{sz n:Nat}{v:Value}{xs:List Value}(h:w.ownsRow B T sz v n xs):∃ a m cap,v=.slice a m cap:=by
 rcases h.2 with ⟨h0,_⟩ | ⟨g,cap,cur,h0,_⟩
 ·exact ⟨_,_,_,h0⟩
 ·exact ⟨_,_,_,h0⟩
theorem RH.out_form (H:RH E w L h d s):∃ a n cap,L.vo=.slice a n cap:=own_sl H.rows.out
theorem done_of {w2 w3:World}{x y z:Int}(H:RH E w L h d s) (vo:Value) (hvo:L.vo=vo) (K:Kp (fun k=>k=E.hb) w w2) (hb:Below w2.heap.size w2 w3):DoneR E L w h x y z (.returned (.agg #[.int .i64 x,.int .i64 y,.int .i64 z,vo,.int .i64 h.used,.int .i64 h.steps])) w3:=by
 subst hvo
 have K3:=kb K hb
 exact ⟨rfl,H.rows.keep K3 (fun k hk=>by subst hk;exact ⟨H.rows.base.1,H.rows.hb⟩),K3.mono (fun k hk=>.inl hk)⟩
theorem doneE {c:Int}(H:RH E w L h d (Sv.ends c)) (x y:Int):Calls Tryz.prog 33 #[.pointer (some ⟨E.hb,0,none⟩),.agg #[.int .i64 x,.int .i64 y]] w (DoneR E L w h c 0 0):=by
 have HH:=Lib.hid H
 obtain ⟨oa,on,ocap,hvo⟩:=H.out_form
 have c6:w.cell? ⟨E.hb,6,none⟩=some (.int .i64 c):=H.c6
 have c7:w.cell? ⟨E.hb,7,none⟩=some (.int .i64 0):=(H.cells 7 (by simp [cellsR])).1
 have c8:w.cell? ⟨E.hb,8,none⟩=some (.int .i64 0):=(H.cells 8 (by simp [cellsR])).1
 have c9:=H.c9
 have c10:=H.c10
 have c11:=H.c11
 have c12:w.cell? ⟨E.hb,12,none⟩=some (.bool true):=H.c12
 have hhb:=H.rows.base.2
 have hhb1:E.hb < w.heap.size+1:=by omega
 rw [hvo] at c9
 have hvo':=Lib.hid hvo
 clear H hvo
 go_enter Tryz.func33,Tryz.ntmps33
 go_wp2
 refine bodyPost_ret (v:=.agg #[.int .i64 c,.int .i64 0,.int .i64 0,.slice oa on ocap,.int .i64 h.used,.int .i64 h.steps]) (by simp [results,Tryz.results33,go_sem] <;> go_simp) rfl ?_
 exact done_of HH.out _ hvo'.out (Kp.refl _ w) (by exact Rd.byB)
theorem doneT {o:Nat}(H:RH E w L h d (Sv.thr o)) (ho:o < h.objs.length) (x y:Int):Calls Tryz.prog 33 #[.pointer (some ⟨E.hb,0,none⟩),.agg #[.int .i64 x,.int .i64 y]] w (DoneR E L w h 2 0 (obj h o).cls):=by
 have HH:=Lib.hid H
 obtain ⟨oa,on,ocap,hvo⟩:=H.out_form
 have c7:w.cell? ⟨E.hb,7,none⟩=some (.int .i64 0):=(H.cells 7 (by simp [cellsR])).1
 have c8:w.cell? ⟨E.hb,8,none⟩=some (.int .i64 0):=(H.cells 8 (by simp [cellsR])).1
 have c6:w.cell? ⟨E.hb,6,none⟩=some (.int .i64 0):=H.c6
 have f6:=H.fz 6 (by decide)
 have f7:=H.fz 7 (by decide)
 have f8:=H.fz 8 (by decide)
 have c9:=H.c9
 have c10:=H.c10
 have c11:=H.c11
 have c12:w.cell? ⟨E.hb,12,none⟩=some (.bool false):=H.c12
 have hhb:=H.rows.base.2
 have hhb1:E.hb < w.heap.size+1:=by omega
 rw [hvo] at c9
 have hvo':=Lib.hid hvo
 have c13:w.cell? ⟨E.hb,13,none⟩=some (.int .i64 (o:Int)):=H.c13
 obtain ⟨g,cap,hvb,k1,k2,k3,k4,k5,_⟩:=H.ob (n:=(o:Int)) (by omega) (by omega)
 have c2:=H.c2
 rw [hvb] at c2
 have k6:=k4.symm
 have k7:g < w.heap.size+1:=by omega
 have ho1:(o:Int) < h.objs.length:=by omega
 have ho0:(0:Int)≤(o:Int):=by omega
 simp only [Int.toNat_natCast] at k5
 clear H hvo hvb
 go_enter Tryz.func33,Tryz.ntmps33
 go_wp2
 go_region
 go_wp2
 refine bodyPost_ret (v:=.agg #[.int .i64 2,.int .i64 0,.int .i64 (obj h o).cls,.slice oa on ocap,.int .i64 h.used,.int .i64 h.steps]) (by simp [results,Tryz.results33,go_sem] <;> go_simp) rfl ?_
 exact done_of HH.out _ hvo'.out (((Kp.refl (fun k=>k=E.hb) w).setCell (p:=⟨E.hb,6,none⟩) (.inl rfl) (.int .i64 2)).setCell (p:=⟨E.hb,8,none⟩) (.inl rfl) (.int .i64 (obj h o).cls)) (by exact Rd.byB)
theorem doneO (H:RH E w L h d Sv.run) (x y z:Int) (hz:z=if x=1∨x=2 then y else 0):Calls Tryz.prog 33 #[.pointer (some ⟨E.hb,0,none⟩),.agg #[.int .i64 x,.int .i64 y]] w (DoneR E L w h 1 z 0):=by
 have HH:=Lib.hid H
 obtain ⟨oa,on,ocap,hvo⟩:=H.out_form
 have c7:w.cell? ⟨E.hb,7,none⟩=some (.int .i64 0):=(H.cells 7 (by simp [cellsR])).1
 have c8:w.cell? ⟨E.hb,8,none⟩=some (.int .i64 0):=(H.cells 8 (by simp [cellsR])).1
 have c6:w.cell? ⟨E.hb,6,none⟩=some (.int .i64 0):=H.c6
 have f6:=H.fz 6 (by decide)
 have f7:=H.fz 7 (by decide)
 have f8:=H.fz 8 (by decide)
 have c9:=H.c9
 have c10:=H.c10
 have c11:=H.c11
 have c12:w.cell? ⟨E.hb,12,none⟩=some (.bool false):=H.c12
 have hhb:=H.rows.base.2
 have hhb1:E.hb < w.heap.size+1:=by omega
 rw [hvo] at c9
 have hvo':=Lib.hid hvo
 have c13:w.cell? ⟨E.hb,13,none⟩=some (.int .i64 (-1)):=H.c13
 clear H hvo
 by_cases q:x=1∨x=2
 ·rw [if_pos q] at hz
  subst hz
  by_cases q1:x=1
  ·subst q1
   clear q
   go_enter Tryz.func33,Tryz.ntmps33
   go_wp2
   refine bodyPost_ret (v:=.agg #[.int .i64 1,.int .i64 z,.int .i64 0,.slice oa on ocap,.int .i64 h.used,.int .i64 h.steps]) (by simp [results,Tryz.results33,go_sem] <;> go_simp) rfl ?_
   exact done_of HH.out _ hvo'.out (((Kp.refl (fun k=>k=E.hb) w).setCell (p:=⟨E.hb,6,none⟩) (.inl rfl) (.int .i64 1)).setCell (p:=⟨E.hb,7,none⟩) (.inl rfl) (.int .i64 z)) (by exact Rd.byB)
  ·obtain rfl:x=2:=by rcases q with q | q <;> omega
   clear q q1
   go_enter Tryz.func33,Tryz.ntmps33
   go_wp2
   refine bodyPost_ret (v:=.agg #[.int .i64 1,.int .i64 z,.int .i64 0,.slice oa on ocap,.int .i64 h.used,.int .i64 h.steps]) (by simp [results,Tryz.results33,go_sem] <;> go_simp) rfl ?_
   exact done_of HH.out _ hvo'.out (((Kp.refl (fun k=>k=E.hb) w).setCell (p:=⟨E.hb,6,none⟩) (.inl rfl) (.int .i64 1)).setCell (p:=⟨E.hb,7,none⟩) (.inl rfl) (.int .i64 z)) (by exact Rd.byB)
 ·rw [if_neg q] at hz
  subst hz
  have q1:(x==1)=false:=by simp;omega
  have q2:(x==2)=false:=by simp;omega
  clear q
  go_enter Tryz.func33,Tryz.ntmps33
  go_wp2
  refine bodyPost_ret (v:=.agg #[.int .i64 1,.int .i64 0,.int .i64 0,.slice oa on ocap,.int .i64 h.used,.int .i64 h.steps]) (by simp [results,Tryz.results33,go_sem] <;> go_simp) rfl ?_
  exact done_of HH.out _ hvo'.out ((Kp.refl (fun k=>k=E.hb) w).setCell (p:=⟨E.hb,6,none⟩) (.inl rfl) (.int .i64 1)) (by exact Rd.byB)
end
end Rhw
namespace FormW
open Num Rd D HierW
theorem sin (n lo hi:Int) (w:World):Calls Tryz.prog 47 #[.int .i64 n,.int .i64 lo,.int .i64 hi] w fun e w'=>e=.returned (.bool (Form.rng n lo hi))∧w=w':=by
 go_enter Tryz.func47,Tryz.ntmps47
 go_wp2
 all_goals go_ret
 all_goals go_tidy
 all_goals refine ⟨ret_bool ?_,rfl⟩
 all_goals simp_all [Form.rng]
 all_goals (intros;omega)
theorem name_world {G:World→Prop}{w:World}(R:World→Prop) (hR:R w) (h:∀ W,R W→G W):G w:=h w hR
def Ts (w:World) (v:Value) (l:List Ty):Prop:=Sl 2 ETy w w.heap.size v l
theorem Ts.next {w w':World}{v:Value}{l:List Ty}(h:Ts w v l) (hb:Below w.heap.size w w'):Ts w' v l:=Sl.mono mTy h hb hb.size
theorem lt_cell {W:World}{b o:Nat}{v:Value}(h:W.cell? ⟨b,o,none⟩=some v):b < W.heap.size:=by
 unfold World.cell? at h
 split at h
 ·rename_i hx
  exact (Array.getElem?_eq_some_iff.1 hx).1
 ·cases h
theorem Ts.one {w:World}{b:Nat}{k c:Int}(h1:w.cell? ⟨b,0,none⟩=some (.int .i64 k)) (h2:w.cell? ⟨b,1,none⟩=some (.int .i64 c)) (o1:Ok k) (o2:Ok c):Ts w (.slice (some ⟨b,0,none⟩) 1 1) [⟨k,c⟩]:=by
 refine ⟨some ⟨b,0,none⟩,1,rfl,by simp,by omega,fun i hi=>?_⟩
 obtain rfl:i=0:=by simpa using hi
 exact ⟨b,0,rfl,lt_cell h1,h1,h2,o1,o2⟩
theorem slots_end {l:List Ty}{k:Nat}(h:¬ k < l.length) (hk:k≤l.length):Form.slots (l.take k)=Form.slots l:=by
 rw [List.take_of_length_le (by omega)]
theorem slots (v:Value) (l:List Ty) (w:World) (h:Ts w v l) (hs:l.length≤1000000000):Calls Tryz.prog 89 #[v] w fun e w'=>e=.returned (.int .i64 (Form.slots l:Nat))∧Below w.heap.size w w':=by
 obtain ⟨a,cap,rfl,hlc,hcc,hel⟩:=h
 go_enter Tryz.func89,Tryz.ntmps89
 go_wp2
 go_loopw [3,8] (fun n i wr=>∃ k:Nat,k≤l.length∧i=.int .i64 k∧n=.int .i64 (Form.slots (l.take k):Nat)∧Below w.heap.size w wr) (fun _ i _=>l.length - (intOf i).toNat)
 case atStart=>exact ⟨0,by omega,rfl,rfl,Below.refl _ _⟩
 case round =>
  obtain ⟨k,hk,rfl,rfl,hbw⟩:=hrel
  have hbs:=hbw.size
  have hle:=Form.slots_le (l.take k)
  have hlt':(l.take k).length≤k:=List.length_take_le _ _
  by_cases hlt:k < l.length
  ·obtain ⟨b,o,rfl,hb,he⟩:=hel k hlt
   have hst:=Lib.hid (Form.slots_take hlt)
   obtain ⟨t,ht⟩:=at_of hlt
   rw [ht.out] at he hst
   obtain ⟨g1,g2,_,_⟩:=he
   have k1:=kept hbw hb g1
   have k2:=kept hbw hb g2
   obtain ⟨kd,c⟩:=t
   simp only at k1 k2
   obtain ⟨S,hS⟩:∃ S,Hid (Form.slots (l.take k)=S):=⟨_,rfl⟩
   rw [hS.out] at hst hle ⊢
   have hS2:(S:Int)≤2000000000:=by omega
   clear hel g1 g2 hlt'
   by_cases q:kd=2
   ·subst q
    go_wp2
    go_roundw
    case rel=>exact ⟨k+1,by omega,by go_num,by rw [hst.out];simp;omega,Rd.byB⟩
    case measure=>simp [intOf];omega
   ·have q':(kd==2)=false:=by simpa using q
    go_wp2
    go_roundw
    case rel=>exact ⟨k+1,by omega,by go_num,by rw [hst.out,if_neg q];simp,Rd.byB⟩
    case measure=>simp [intOf];omega
  ·have hst:=Lib.hid (slots_end hlt hk)
   clear hel
   go_wp2
   go_ret
   exact ⟨ret_int (by rw [hst.out]),hbw⟩
theorem slotsV (v:Value) (l:List Ty) (S:Nat) (w:World) (h:Ts w v l) (hs:l.length≤1000000000) (hS:Form.slots l=S):Calls Tryz.prog 89 #[v] w fun e w'=>e=.returned (.int .i64 S)∧Below w.heap.size w w':=by
 subst hS;exact slots v l w h hs
theorem slots_one (k c:Int):(Form.slots [⟨k,c⟩]:Int)=Form.wide k:=by
 simp only [Form.slots,Form.wide];split <;> rfl
theorem sinV (n lo hi:Int) (p:Bool) (w:World) (hp:Form.rng n lo hi=p):Calls Tryz.prog 47 #[.int .i64 n,.int .i64 lo,.int .i64 hi] w fun e w'=>e=.returned (.bool p)∧w=w':=by
 subst hp;exact sin n lo hi w
theorem sin' (n lo hi:Int) (w:World):Calls Tryz.prog 47 #[.int .i64 n,.int .i64 lo,.int .i64 hi] w fun e w'=>e=.returned (.bool (Form.rng n lo hi))∧w'=w:=(sin n lo hi w).mono fun e w' ⟨h1,h2⟩=>⟨h1,h2.symm⟩
theorem ty_s1:Tryz.prog.underlying 50=some (.struct (Tryz.prog.fieldsOf 50)):=by kernel_rfl
theorem ty_s2:Tryz.prog.stoodInHeld 50=false:=by kernel_rfl
theorem ty_s3:Tryz.prog.eqGuardType Tryz.prog.depth 50=false:=by kernel_rfl
theorem ty_s4 : (Tryz.prog.fieldsOf 50).toList = [⟨"Kind", 3, 0, false, "", "", 0⟩, ⟨"Class", 3, 1, false, "", "", 8⟩] := by kernel_rfl
theorem run_eql_ty (k c k' c':Int) (w:World):(binOp .eql 50 (.agg #[.int .i64 k,.int .i64 c]) (.agg #[.int .i64 k',.int .i64 c'])).run Tryz.prog w=.ok (.bool (k==k' && c==c')) w:=by
 rw [run_eql_struct,run_equalIn_agg _ 9999 50 _ _ ty_s1 ty_s2,ty_s4]
 simp [Op.eqFields,Sem.run_bind,go_sem]
 by_cases h1:k=k' <;> by_cases h2:c=c' <;> simp [h1,h2]
theorem run_guard_ty (op:BinOp) (x y:Operand) (xs ys:Array Value) (w:World):(eqGuard op 50 x y (.agg xs) (.agg ys)).run Tryz.prog w=.ok () w:=run_eqGuard_agg w op 50 x y xs ys ty_s3
end FormW
namespace FormR
open Num Rd D HierW FormW
def within (n lo hi:Int):Bool:=decide (lo≤n∧n≤hi)
theorem within_rng (n lo hi:Int):within n lo hi=Form.rng n lo (hi+1):=by
 unfold within Form.rng
 apply decide_eq_decide.2
 omega
theorem wi (n lo hi:Int) (w:World):Calls Tryz.prog 26 #[.int .i64 n,.int .i64 lo,.int .i64 hi] w fun e w'=>e=.returned (.bool (within n lo hi))∧w=w':=by
 go_enter Tryz.func26,Tryz.ntmps26
 go_wp2
 all_goals go_ret
 all_goals go_tidy
 all_goals refine ⟨ret_bool ?_,rfl⟩
 all_goals simp_all [within]
 all_goals (intros;omega)
theorem wiV (n lo hi:Int) (p:Bool) (w:World) (hp:within n lo hi=p):Calls Tryz.prog 26 #[.int .i64 n,.int .i64 lo,.int .i64 hi] w fun e w'=>e=.returned (.bool p)∧w=w':=by
 subst hp;exact wi n lo hi w
theorem slots (v:Value) (l:List Ty) (w:World) (h:Ts w v l) (hs:l.length≤1000000000):Calls Tryz.prog 28 #[v] w fun e w'=>e=.returned (.int .i64 (Form.slots l:Nat))∧w=w':=by
 obtain ⟨a,cap,rfl,hlc,hcc,hel⟩:=h
 go_enter Tryz.func28,Tryz.ntmps28
 go_wp2
 go_loopw [3,4] (fun n i wr=>∃ k:Nat,k≤l.length∧i=.int .i64 k∧n=.int .i64 ((Form.slots (l.take k)+(l.length - k):Nat):Int)∧w=wr) (fun _ i _=>l.length - (intOf i).toNat)
 case atStart=>exact ⟨0,by omega,rfl,by simp [Form.slots],rfl⟩
 case round =>
  obtain ⟨k,hk,rfl,rfl,rfl⟩:=hrel
  have hle:=Form.slots_le (l.take k)
  have hlt':(l.take k).length≤k:=List.length_take_le _ _
  by_cases hlt:k < l.length
  ·obtain ⟨b,o,rfl,hb,he⟩:=hel k hlt
   have hst:=Lib.hid (Form.slots_take hlt)
   obtain ⟨t,ht⟩:=at_of hlt
   rw [ht.out] at he hst
   obtain ⟨g1,g2,_,_⟩:=he
   obtain ⟨kd,c⟩:=t
   simp only at g1 g2
   obtain ⟨S,hS⟩:∃ S,Hid (Form.slots (l.take k)=S):=⟨_,rfl⟩
   rw [hS.out] at hst hle ⊢
   obtain ⟨R,hR⟩:∃ R,Hid (S+(l.length - k)=R):=⟨_,rfl⟩
   rw [hR.out]
   have hR2:(R:Int)≤3000000000:=by have:=hR.out;omega
   clear hel hlt'
   by_cases q:kd=2
   ·subst q
    go_wp2
    go_roundw
    case rel=>exact ⟨k+1,by omega,by go_num,by rw [hst.out];have:=hR.out;simp;omega,trivial⟩
    case measure=>simp [intOf];omega
   ·have q':(kd==2)=false:=by simpa using q
    go_wp2
    go_roundw
    case rel=>exact ⟨k+1,by omega,by go_num,by rw [hst.out,if_neg q];have:=hR.out;simp;omega,trivial⟩
    case measure=>simp [intOf];omega
  ·have hst:=Lib.hid (slots_end hlt hk)
   clear hel
   go_wp2
   go_ret
   exact ⟨ret_int (by rw [hst.out];simp;omega),rfl⟩
theorem slotsV (v:Value) (l:List Ty) (S:Nat) (w:World) (h:Ts w v l) (hs:l.length≤1000000000) (hS:Form.slots l=S):Calls Tryz.prog 28 #[v] w fun e w'=>e=.returned (.int .i64 S)∧w=w':=by
 subst hS;exact slots v l w h hs
end FormR
namespace Rhw
open Num Rd D Run Mem HierW Hpw
section
variable {w:World}{B:Nat}{f:Fi}
def BeginE (w:World) (c:Int) (e:Ending) (w':World):Prop:=e=.returned (.tuple #[.pointer none,.slice none 0 0,.int .i64 c])∧Below w.heap.size w w'
set_option maxRecDepth 100000 in
theorem begin1 {vf va vi:Value}(Hf:VFi w B vf f) (entry fuel:Int) (hq:FormR.within entry 0 (f.methods.length - 1)=false):Calls Tryz.prog 31 #[vf,.int .i64 entry,va,vi,.int .i64 fuel] w (BeginE w 4):=by
 obtain ⟨vc,vm,rfl,hc,hm⟩:=Hf
 obtain ⟨a,cap,rfl,k1,k2,_⟩:=hc
 obtain ⟨ma,mcap,rfl,k3,k4,_⟩:=hm
 have HQ:=Lib.hid hq
 clear hq
 go_enter Tryz.func31,Tryz.ntmps31
 go_wp2_with (go_at_call 26;with_reducible refine (FormR.wiV entry _ _ _ _ HQ.out).mono ?_;rintro e w2 ⟨rfl,rfl⟩)
 go_ret3
 exact ⟨rfl,by exact Rd.byB⟩
set_option maxRecDepth 100000 in
theorem begin2 {vf va vi:Value}(Hf:VFi w B vf f) (entry fuel:Int) (hq:FormR.within entry 0 (f.methods.length - 1)=true) (hq2:FormR.within fuel 0 60000=false):Calls Tryz.prog 31 #[vf,.int .i64 entry,va,vi,.int .i64 fuel] w (BeginE w 4):=by
 obtain ⟨vc,vm,rfl,hc,hm⟩:=Hf
 obtain ⟨a,cap,rfl,k1,k2,_⟩:=hc
 obtain ⟨ma,mcap,rfl,k3,k4,_⟩:=hm
 have HQ:=Lib.hid hq
 have HQ2:=Lib.hid hq2
 clear hq hq2
 go_enter Tryz.func31,Tryz.ntmps31
 go_wp2_with (first | (go_at_call 26;with_reducible refine (FormR.wiV entry _ _ _ _ HQ.out).mono ?_;rintro e w2 ⟨rfl,rfl⟩) | (go_at_call 26;with_reducible refine (FormR.wiV fuel _ _ _ _ HQ2.out).mono ?_;rintro e w2 ⟨rfl,rfl⟩))
 go_ret3
 exact ⟨rfl,by exact Rd.byB⟩
set_option maxRecDepth 100000 in
theorem begin3 {vf va vi:Value}(Hf:VFi w B vf f) (entry fuel:Int) (hq:FormR.within entry 0 (f.methods.length - 1)=true) (hq2:FormR.within fuel 0 60000=true){input:List Int}(hi:Sl 1 EInt w B vi input) (h3:1000 < input.length):Calls Tryz.prog 31 #[vf,.int .i64 entry,va,vi,.int .i64 fuel] w (BeginE w 1):=by
 obtain ⟨vc,vm,rfl,hc,hm⟩:=Hf
 obtain ⟨a,cap,rfl,k1,k2,_⟩:=hc
 obtain ⟨ma,mcap,rfl,k3,k4,_⟩:=hm
 obtain ⟨ia,icap,rfl,k5,k6,_⟩:=hi
 have HQ:=Lib.hid hq
 have HQ2:=Lib.hid hq2
 have h3':(1000:Int) < input.length:=by omega
 clear hq hq2
 go_enter Tryz.func31,Tryz.ntmps31
 go_wp2_with (first | (go_at_call 26;with_reducible refine (FormR.wiV entry _ _ _ _ HQ.out).mono ?_;rintro e w2 ⟨rfl,rfl⟩) | (go_at_call 26;with_reducible refine (FormR.wiV fuel _ _ _ _ HQ2.out).mono ?_;rintro e w2 ⟨rfl,rfl⟩))
 go_ret3
 exact ⟨rfl,by exact Rd.byB⟩
set_option maxRecDepth 100000 in
theorem begin4 {vf va vi:Value}(Hf:VFi w B vf f) (hB:B≤w.heap.size) (k:Nat) (hk:k < f.methods.length) (fuel:Int) (hq:FormR.within k 0 (f.methods.length - 1)=true) (hq2:FormR.within fuel 0 60000=true){input args:List Int}(hi:Sl 1 EInt w B vi input) (h3:input.length≤1000) (ha:Sl 1 EInt w B va args) (h4:args.length≠(f.methods[k]).params.length):Calls Tryz.prog 31 #[vf,.int .i64 k,va,vi,.int .i64 fuel] w (BeginE w 3):=by
 obtain ⟨vc,vm,rfl,hc,hm⟩:=Hf
 obtain ⟨a,cap,rfl,k1,k2,_⟩:=hc
 obtain ⟨ma,mcap,rfl,k3,k4,hel⟩:=hm
 obtain ⟨ia,icap,rfl,k5,k6,_⟩:=hi
 obtain ⟨aa,acap,rfl,k7,k8,_⟩:=ha
 obtain ⟨mb,mo,rfl,hmb,vp,vco,vh,m0,m1,m2,m3,m4,m5,m6,m7,mok,hp,hco,hh⟩:=hel k hk
 obtain ⟨pa,pcap,rfl,k9,k10,_⟩:=hp
 obtain ⟨ca,ccap,rfl,k11,k12,_⟩:=hco
 obtain ⟨xa,xcap,rfl,k13,k14,_⟩:=hh
 have HQ:=Lib.hid hq
 have HQ2:=Lib.hid hq2
 have h3':¬ (1000:Int) < input.length:=by omega
 have hk':(k:Int) < f.methods.length:=by omega
 have l1:mb < w.heap.size:=by omega
 have l2:mb < w.heap.size+1:=by omega
 have h4':((args.length:Int) != (f.methods[k].params.length:Int))=true:=by simp;omega
 have h4'':¬ (args.length:Int)=(f.methods[k].params.length:Int):=by omega
 clear hq hq2 hel
 go_enter Tryz.func31,Tryz.ntmps31
 go_wp2_with (first | (go_at_call 26;with_reducible refine (FormR.wiV k _ _ _ _ HQ.out).mono ?_;rintro e w2 ⟨rfl,rfl⟩) | (go_at_call 26;with_reducible refine (FormR.wiV fuel _ _ _ _ HQ2.out).mono ?_;rintro e w2 ⟨rfl,rfl⟩))
 go_ret3
 exact ⟨rfl,by exact Rd.byB⟩
end
end Rhw
namespace Rhw
open Num Rd D Run Mem HierW Hpw
section
variable {w:World}{B:Nat}{f:Fi}
def argsTo (m:Me) (args:List Int) (n:Nat):List Vl:=(List.zipWith argOf m.params args).take n
def BegR (w:World) (f:Fi) (m:Me) (args input:List Int) (fuel:Int) (vc vm vi:Value) (e:Ending) (w':World):Prop :=
 if m.params.any (fun t=>decide (t.kind=3))=true then BeginE w 3 e w'
 else ∃ (hb:Nat) (vl:Value),e=.returned (.tuple #[.pointer (some ⟨hb,0,none⟩),vl,.int .i64 0])∧RH ⟨f,input,fuel.toNat,hb,w.heap.size,vc,vm,vi⟩ w' L0 h0 0 Sv.run∧VS w' (fun k=>k=hb) vl (List.zipWith argOf m.params args)∧Below w.heap.size w w'
theorem grow_kp {B n size:Nat}{T:TypeId}{v:Value}{xs:List Value}{wr W w2:World}(hW:Below wr.heap.size wr W) (hown:wr.ownsRow B T size v n xs) (hg:W.grownBy w2 v.ownBlock):Kp (fun k=>B≤k) wr w2 :=
 (kpB hW).trans (Kp.of_grown (X:=fun k=>B≤k) hg (fun k e=>(World.ownsRow.lt hown k e).1)) (fun _ h=>.inl h)
theorem argsTo_succ {m:Me}{args:List Int}{n:Nat}(h1:n < m.params.length) (h2:n < args.length):argsTo m args (n+1)=argsTo m args n++[argOf m.params[n] args[n]]:=by
 unfold argsTo
 rw [List.take_succ_eq_append_getElem (by simp;omega)]
 simp
set_option maxRecDepth 100000 in
theorem begin5 {vc vm va vi:Value}(hc:Sl 2 ECls w B vc f.classes) (hm:Sl 8 EMe w B vm f.methods) (hB:B≤w.heap.size) (k:Nat) (hk:k < f.methods.length) (fuel:Int) (hq:FormR.within k 0 (f.methods.length - 1)=true) (hq2:FormR.within fuel 0 60000=true){input args:List Int}(hi:Sl 1 EInt w B vi input) (h3:input.length≤1000) (ha:Sl 1 EInt w B va args) (h4:args.length=(f.methods[k]).params.length) (h5:(f.methods[k]).params.length≤4):Calls Tryz.prog 31 #[.agg #[vc,vm],.int .i64 k,va,vi,.int .i64 fuel] w (BegR w f f.methods[k] args input fuel vc vm vi):=by
 obtain ⟨io,hi',hy0,hy1,hy2⟩:=info_parts info_val
 obtain ⟨fu,rfl⟩:∃ n:Nat,fuel=(n:Int):=⟨fuel.toNat,by have:=of_decide_eq_true hq2;omega⟩
 have HCL:=Lib.hid hc
 have HME:=Lib.hid hm
 have HIN:=Lib.hid hi
 obtain ⟨a,cap,rfl,k1,k2,_⟩:=hc
 obtain ⟨ma,mcap,rfl,k3,k4,hel⟩:=hm
 obtain ⟨ia,icap,rfl,k5,k6,_⟩:=hi
 obtain ⟨aa,acap,rfl,k7,k8,hea⟩:=ha
 obtain ⟨mb,mo,rfl,hmb,vp,vco,vh,m0,m1,m2,m3,m4,m5,m6,m7,mok,hp,hco,hh⟩:=hel k hk
 obtain ⟨pa,pcap,rfl,k9,k10,hep⟩:=hp
 obtain ⟨ca,ccap,rfl,k11,k12,_⟩:=hco
 obtain ⟨xa,xcap,rfl,k13,k14,_⟩:=hh
 have HQ:=Lib.hid hq
 have HQ2:=Lib.hid hq2
 have h3':¬ (1000:Int) < input.length:=by omega
 have hk':(k:Int) < f.methods.length:=by omega
 have l1:mb < w.heap.size:=by omega
 have l2:mb < w.heap.size+1:=by omega
 have hea':=Lib.hid hea
 have hep':=Lib.hid hep
 obtain ⟨np,hnp⟩:∃ np,np=f.methods[k].params.length:=⟨_,rfl⟩
 have h4':args.length=np:=by omega
 clear hq hq2 hel hea hep
 go_enter Tryz.func31,Tryz.ntmps31
 go_wp2_with (first | (go_at_call 26;with_reducible refine (FormR.wiV k _ _ _ _ HQ.out).mono ?_;rintro e w2 ⟨rfl,rfl⟩) | (go_at_call 26;with_reducible refine (FormR.wiV (fu:Int) _ _ _ _ HQ2.out).mono ?_;rintro e w2 ⟨rfl,rfl⟩))
 go_loopw [14,15] (fun v i wr=>∃ n:Nat,i=.int .i64 n∧n≤np∧Below w.heap.size w wr∧w.heap.size+2≤wr.heap.size∧Hid (wr.ownsRow (w.heap.size+2) 72 2 v n (vcells (argsTo f.methods[k] args n)))∧wr.cell? ⟨w.heap.size+1,0,none⟩=some (.slice pa f.methods[k].params.length pcap)∧wr.cell? ⟨w.heap.size,0,none⟩=some (.slice a f.classes.length cap)∧wr.cell? ⟨w.heap.size,1,none⟩=some (.slice (some ⟨mb,mo,none⟩) f.methods.length mcap)∧Hid (∀ j (hj:j < f.methods[k].params.length),j < n→(f.methods[k].params[j]).kind≠3)) (fun _ i _=>np - (intOf i).toNat)
 case atStart=>exact ⟨0,rfl,Nat.zero_le _,by exact Rd.byB,by simp,World.ownsRow_nil _ _ _ _,by go_simp,by go_simp,by go_simp,fun j _ h=>absurd h (by omega)⟩
 case round =>
  obtain ⟨n,rfl,hn,hb,hsz,HR,b0,x0,x1,hall⟩:=hrel
  by_cases hlt:n < np
  ·have hl1:n < f.methods[k].params.length:=by omega
   have hl2:n < args.length:=by omega
   obtain ⟨pb,po,rfl,hpb,p0,p1,_⟩:=hep'.out n hl1
   obtain ⟨ab,ao,rfl,hab,z0,_⟩:=hea'.out n hl2
   have l3:pb < w.heap.size:=by omega
   have l4:ab < w.heap.size:=by omega
   have p0':=kept hb l3 p0
   rw [Nat.mul_one] at z0
   have z0':=kept hb l4 z0
   obtain ⟨t,ht⟩:=at_of hl1
   obtain ⟨x,hx⟩:=at_of hl2
   rw [ht.out] at p0'
   rw [hx.out] at z0'
   have hn1:(n:Int) < args.length:=by omega
   have hn2:(n:Int) < f.methods[k].params.length:=by omega
   have l5:pb < wr.heap.size:=Nat.lt_of_lt_of_le l3 hb.size
   have l6:ab < wr.heap.size:=Nat.lt_of_lt_of_le l4 hb.size
   have l7:w.heap.size+1 < wr.heap.size:=by omega
   clear p0 p1 z0 m0 m1 m2 m3 m4 m5 m6 m7
   by_cases q3:t.kind=3
   ·have q3b:(t.kind==3)=true:=by simpa using q3
    go_wp2
    go_ret3
    unfold BegR
    rw [if_pos (List.any_eq_true.2 ⟨_,List.getElem_mem hl1,by rw [ht.out];simpa using q3⟩)]
    exact ⟨rfl,hb⟩
   ·have q3b:(t.kind==3)=false:=by simpa using q3
    go_wp2
    go_region
    by_cases q1:t.kind=1
    ·have q1b:(t.kind==1)=true:=by simpa using q1
     go_wp2_with (first | (go_at_call 58;refine (NumW.rnarrow x _).mono ?_;rintro e w4 ⟨rfl,rfl⟩) | (at_builtin;refine wpList_append_lies _ rfl (.tmp 76) (.tmp 78) 69 rfl (w.heap.size+2) 72 io (.agg #[.int .i64 0,.int .i64 0]) 2 16 Tryz.underlying69 hi' hy0 hy1 hy2 rfl (by decide) u14 n (vcells (argsTo f.methods[k] args n)) (by simp [Act.eval,Act.put]) (row_keep HR.out (kpB (X:=fun _=>False) (w0:=wr) (by exact Rd.byB)) (fun g _ e=>e)) ⟨wr.heap.size+1,0,none⟩ 1 1 [.int .i64 1,.int .i64 (wrap32 x)] (by simp [Act.eval,Act.put]) rfl (by exact news_of (by simp)) (by simp [Value.oneCell']) (by decide) (by unfold maxLen;omega) (by omega) (by simp;omega) _ rfl ?_;intro g2 cap2 w3 hown3 hgrow3 hat3 hlt3;have KG:=grow_kp (by exact Rd.byB) HR.out hgrow3;have e0:=KG.cell b0 (by omega);have e1:=KG.cell x0 (by omega);have e2:=KG.cell x1 (by omega);have hsz3:=KG.size;replace KG:=Lib.hid KG;replace hown3:=Lib.hid hown3;clear hgrow3 hat3))
     refine ⟨⟨n+1,by simp,hlt,hb.trans (KG.out.below (by omega) (fun k hk=>by omega)),by omega,?_,e0,e1,e2,fun j hj hjn=>?_⟩,by simp only [intOf];omega⟩
     ·have ea:=argsTo_succ (m:=f.methods[k]) (args:=args) hl1 hl2
      rw [ht.out,hx.out] at ea
      have eb:argOf t x=⟨1,wrap32 x⟩:=by unfold argOf;rw [if_pos q1]
      rw [eb] at ea
      rw [ea,vcells_append]
      exact hown3
     ·by_cases hjn2:j < n
      ·exact hall.out j hj hjn2
      ·obtain rfl:j=n:=by omega
       rw [ht.out];exact q3
    ·have q1b:(t.kind==1)=false:=by simpa using q1
     go_wp2_with ((at_builtin;refine wpList_append_lies _ rfl (.tmp 76) (.tmp 78) 69 rfl (w.heap.size+2) 72 io (.agg #[.int .i64 0,.int .i64 0]) 2 16 Tryz.underlying69 hi' hy0 hy1 hy2 rfl (by decide) u14 n (vcells (argsTo f.methods[k] args n)) (by simp [Act.eval,Act.put]) (row_keep HR.out (kpB (X:=fun _=>False) (w0:=wr) (by exact Rd.byB)) (fun g _ e=>e)) ⟨wr.heap.size+1,0,none⟩ 1 1 [.int .i64 t.kind,.int .i64 x] (by simp [Act.eval,Act.put]) rfl (by exact news_of (by simp)) (by simp [Value.oneCell']) (by decide) (by unfold maxLen;omega) (by omega) (by simp;omega) _ rfl ?_;intro g2 cap2 w3 hown3 hgrow3 hat3 hlt3;have KG:=grow_kp (by exact Rd.byB) HR.out hgrow3;have e0:=KG.cell b0 (by omega);have e1:=KG.cell x0 (by omega);have e2:=KG.cell x1 (by omega);have hsz3:=KG.size;replace KG:=Lib.hid KG;replace hown3:=Lib.hid hown3;clear hgrow3 hat3))
     refine ⟨⟨n+1,by simp,hlt,hb.trans (KG.out.below (by omega) (fun k hk=>by omega)),by omega,?_,e0,e1,e2,fun j hj hjn=>?_⟩,by simp only [intOf];omega⟩
     ·have ea:=argsTo_succ (m:=f.methods[k]) (args:=args) hl1 hl2
      rw [ht.out,hx.out] at ea
      have eb:argOf t x=⟨t.kind,x⟩:=by unfold argOf;rw [if_neg q1]
      rw [eb] at ea
      rw [ea,vcells_append]
      exact hown3
     ·by_cases hjn2:j < n
      ·exact hall.out j hj hjn2
      ·obtain rfl:j=n:=by omega
       rw [ht.out];exact q3
  ·have hn1:¬ (n:Int) < args.length:=by omega
   obtain rfl:n=np:=by omega
   go_wp2
   go_ret3
   have hb0:Below B w wr:=(kpB (X:=fun _=>False) hb).below hB (fun _ e=>e.elim)
   have hnone:¬ (f.methods[k].params.any (fun t=>decide (t.kind=3))=true):=fun he=>by
    obtain ⟨t,ht,h3⟩:=List.any_eq_true.1 he
    obtain ⟨j,hj,rfl⟩:=List.getElem_of_mem ht
    exact hall.out j hj (by omega) (by simpa using h3)
   unfold BegR
   rw [if_neg hnone]
   have hlen:(List.zipWith argOf f.methods[k].params args).length=n:=by rw [List.length_zipWith];omega
   have ea:argsTo f.methods[k] args n=List.zipWith argOf f.methods[k].params args:=by unfold argsTo;rw [← hlen,List.take_length]
   have HR':=HR.out
   rw [ea] at HR'
   have HR2:wr.ownsRow (w.heap.size+2) 72 2 u14 (List.zipWith argOf f.methods[k].params args).length (vcells (List.zipWith argOf f.methods[k].params args)):=by rw [hlen];exact HR'
   have V:=VS.of_row (X:=fun _=>False) HR2 (fun _ e=>e.elim)
   refine ⟨wr.heap.size,u14,rfl,rhNew (HCL.out.mono mCls hb0 hB) (HME.out.mono mMe hb0 hB) (HIN.out.mono mInt hb0 hB) hb.size fu _,V.next (kpB (X:=fun _=>False) (by exact Rd.byB)) (fun _ _ e=>e) (fun b hlt e=>by omega),hb.trans ((kpB (X:=fun _=>False) (w0:=wr) (by exact Rd.byB)).below hb.size (fun _ e=>e.elim))⟩
end
end Rhw
namespace Rhw
open Num Rd D Run Mem HierW Hpw
section
variable {w:World}{B:Nat}{f:Fi}{E:Ev}{L:RL}{d:Nat}
def ShV (w:World) (B:Nat) (s:Sh) (v:Value):Prop:=∃ vo,v=.agg #[.int .i64 s.fin,.int .i64 s.value,.int .i64 s.cls,vo,.int .i64 s.used,.int .i64 s.steps]∧w.ownsRow B 2 1 vo s.out.length (s.out.map (.int .i64 ·))
def PlayR (w:World) (s:Sh) (c:Int) (e:Ending) (w':World):Prop:=∃ v,e=.returned (.tuple #[v,.int .i64 c])∧ShV w' w.heap.size s v∧Below w.heap.size w w'
def DoneA (E:Ev) (s:Sh) (w:World) (e:Ending) (w':World):Prop:=∃ v,e=.returned v∧ShV w' E.B s v∧Below E.B w w'
theorem done_sh {w w2:World}{h:Hp}{x y z:Int}{e:Ending}(hb:RB E w L h) (D:DoneR E L w h x y z e w2):DoneA E ⟨x,y,z,h.out,h.used,h.steps⟩ w e w2:=by
 obtain ⟨rfl,R,K⟩:=D
 exact ⟨_,rfl,⟨_,rfl,R.out⟩,K.below (Nat.le_of_lt (Nat.lt_of_le_of_lt hb.base.1 hb.base.2)) (fun k hk=>(own_lo hb hk).1)⟩
theorem doneA {w1 w:World}{r:Res Vl}{m:Me}{h1:Hp}{e:Ending}(hr:RRv E L d w1 r e w) (ho:CallOk E.f E.input E.fuel m h1 r){k n:Int}(he:e=.returned (.agg #[.int .i64 k,.int .i64 n])) :
  Calls Tryz.prog 33 #[.pointer (some ⟨E.hb,0,none⟩),.agg #[.int .i64 k,.int .i64 n]] w (DoneA E (shown r) w):=by
 obtain ⟨k',n',he',hr⟩:=hr
 subst he
 injection he' with he'
 injection he' with he'
 simp at he'
 obtain ⟨rfl,rfl⟩:=he'
 cases r with
 | ok v h =>
  obtain ⟨⟨rfl,rfl⟩,L',K,_,H⟩:=hr
  exact (doneO H _ _ _ rfl).mono fun e w2 D=>done_sh H.rows D
 | thrown o h =>
  obtain ⟨L',K,_,H⟩:=hr
  exact (doneT H ho.2 _ _).mono fun e w2 D=>done_sh H.rows D
 | stop c h =>
  obtain ⟨L',K,_,H⟩:=hr
  exact (doneE H _ _).mono fun e w2 D=>done_sh H.rows D
theorem res6 {w w2:World}{x y:Value}(hb:Below (w.heap.size+2) ((w.alloc (.cells #[x,y] 25)).alloc (.cells #[.int .i64 0,.int .i64 0,.int .i64 0,.slice none 0 0,.int .i64 0,.int .i64 0] 28)) w2):Blk w2 (w.heap.size+1) [.int .i64 0,.int .i64 0,.int .i64 0,.slice none 0 0,.int .i64 0,.int .i64 0]:=by
 have h:=Blk.made (w.alloc (.cells #[x,y] 25)) [.int .i64 0,.int .i64 0,.int .i64 0,.slice none 0 0,.int .i64 0,.int .i64 0] 28
 have e:(w.alloc (.cells #[x,y] 25)).heap.size=w.heap.size+1:=by simp
 rw [e] at h
 exact h.next (X:=fun _=>False) (Kp.of_below hb (by simp)) (fun e=>e)
set_option maxRecDepth 100000 in
theorem playE {vc vm va vi:Value}(entry fuel c:Int) (hc:c≠0) (hb:∀ W,Below w.heap.size w W→Calls Tryz.prog 31 #[.agg #[vc,vm],.int .i64 entry,va,vi,.int .i64 fuel] W (BeginE W c)) (hl1:∃ a n cap,vc=.slice a n cap) (hl2:∃ a n cap,vm=.slice a n cap):Calls Tryz.prog 10 #[.agg #[vc,vm],.int .i64 entry,va,vi,.int .i64 fuel] w (PlayR w Sh.nil c):=by
 obtain ⟨a1,n1,c1,rfl⟩:=hl1
 obtain ⟨a2,n2,c2,rfl⟩:=hl2
 have hcb:(c != 0)=true:=by simpa using hc
 go_enter Tryz.func10,Tryz.ntmps10
 go_wp2_with (go_at_call 31;refine (hb _ (by exact Rd.byB)).mono ?_;rintro e w2 ⟨rfl,hb2⟩;have hB:=res6 (w:=w) (hb2.mono Rd.byL);have c0:=(hB 0 (by simp)).1;have c1:=(hB 1 (by simp)).1;have c2:=(hB 2 (by simp)).1;have c3:=(hB 3 (by simp)).1;have c4:=(hB 4 (by simp)).1;have c5:=(hB 5 (by simp)).1;have f0:=(hB 0 (by simp)).2;have f1:=(hB 1 (by simp)).2;have f2:=(hB 2 (by simp)).2;have f3:=(hB 3 (by simp)).2;have f4:=(hB 4 (by simp)).2;have f5:=(hB 5 (by simp)).2;simp only [List.getElem_cons_zero,List.getElem_cons_succ] at c0 c1 c2 c3 c4 c5;clear hB;have hbw:Below w.heap.size w w2:=Below.trans (by exact Rd.byB) (hb2.mono Rd.byL);have hsz:=hb2.size)
 refine bodyPost_ret (v:=.tuple #[.agg #[.int .i64 0,.int .i64 0,.int .i64 0,.slice none 0 0,.int .i64 0,.int .i64 0],.int .i64 c]) (by simp [results,Tryz.results10,go_sem] <;> go_simp) rfl ?_
 simp at hsz
 exact ⟨_,rfl,⟨_,rfl,World.ownsRow_nil _ _ _ _⟩,by exact Rd.byB⟩
theorem begR {W w2:World}{m:Me}{args input:List Int}{fuel:Int}{vc vm vi:Value}{e:Ending}(hno:m.params.any (fun t=>decide (t.kind=3))=false) (h:BegR W f m args input fuel vc vm vi e w2) :
  ∃ (E:Ev) (vl:Value),e=.returned (.tuple #[.pointer (some ⟨E.hb,0,none⟩),vl,.int .i64 0])∧(E.f=f∧E.input=input∧E.fuel=fuel.toNat∧E.B=W.heap.size)∧RH E w2 L0 h0 0 Sv.run∧VS w2 (own E L0) vl (List.zipWith argOf m.params args)∧Below W.heap.size W w2:=by
 unfold BegR at h
 rw [if_neg (by rw [hno];simp)] at h
 obtain ⟨hb,vl,rfl,H,V,hbl⟩:=h
 refine ⟨_,vl,rfl,⟨rfl,rfl,rfl,rfl⟩,H,V.mono (fun b _ hx=>?_),hbl⟩
 rcases hx with e | e
 ·exact e
 ·exact absurd e (by simp [L0,rows,Value.ownBlock])
theorem runP {w2:World}{input:List Int}{fuel k:Nat}{args:List Vl}{mv vl:Value}(S:FiS f) (MO:MachOk SM SfOk f input fuel) (hfu:fuel≤60000) (hin:input.length≤1000) (hE:E.f=f∧E.input=input∧E.fuel=fuel) (H:RH E w2 L0 h0 0 Sv.run) (hk:k < f.methods.length) (hv:∀ v∈args,VtOk 0 v) (hl:args.length=(meAt f k).params.length) (hm:VMe w2 E.B mv (meAt f k)) (V:VS w2 (own E L0) vl args) :
  Calls Tryz.prog 32 #[.pointer (some ⟨E.hb,0,none⟩),mv,vl] w2 (RRv E L0 0 w2 (call SM f input fuel (fuel+1) 0 (meAt f k) args h0)):=by
 obtain ⟨rfl,rfl,rfl⟩:=hE
 exact runOk S MO hfu hin 20 0 rfl (E.fuel+1) h0 (by unfold h0;simp only;omega) k args h0 hk ⟨Nat.zero_le _,(fun o ho=>by cases ho),(fun x hx=>by cases hx),Nat.le_refl _,Nat.zero_le _,Nat.zero_le _⟩ rfl hv hl L0 w2 mv vl (own E L0) H hm V (fun _ e=>e)
theorem row_low {w:World}{base b2 n size:Nat}{T:TypeId}{v:Value}{xs:List Value}(h:w.ownsRow base T size v n xs) (hb:b2≤base):w.ownsRow b2 T size v n xs:=by
 refine ⟨h.1,?_⟩
 rcases h.2 with e | ⟨g,cap,cur,e,hg,rest⟩
 ·exact .inl e
 ·exact .inr ⟨g,cap,cur,e,Nat.le_trans hb hg,rest⟩
theorem rrv_low {w1 w:World}{r:Res Vl}{e:Ending}{h1:Hp}{s:Sv}(H:RH E w1 L h1 d s) (hr:RRv E L d w1 r e w):Below E.B w1 w:=by
 obtain ⟨k',n',he',hr⟩:=hr
 have hb:=H.rows
 have key:∀ {h2:Hp}{s:Sv},RL2 E L d w1 w h2 s→Below E.B w1 w:=fun ⟨L',K,_⟩=>K.below (Nat.le_of_lt (Nat.lt_of_le_of_lt hb.base.1 hb.base.2)) (fun k hk=>(own_lo hb hk).1)
 cases r with
 | ok v h=>exact key hr.2
 | thrown o h=>exact key hr
 | stop c h=>exact key hr
set_option maxRecDepth 100000 in
theorem playO {vc vm va vi:Value}{input args:List Int}{fuel:Int}(S:FiS f) (MO:MachOk SM SfOk f input fuel.toNat) (hc:Sl 2 ECls w B vc f.classes) (hm:Sl 8 EMe w B vm f.methods) (hB:B≤w.heap.size) (k:Nat) (hk:k < f.methods.length) (hq:FormR.within k 0 (f.methods.length - 1)=true) (hq2:FormR.within fuel 0 60000=true) (hi:Sl 1 EInt w B vi input) (h3:input.length≤1000) (ha:Sl 1 EInt w B va args) (h4:args.length=(f.methods[k]).params.length) (h5:(f.methods[k]).params.length≤4) (hno:(f.methods[k]).params.any (fun t=>decide (t.kind=3))=false) (hv:∀ v∈List.zipWith argOf (f.methods[k]).params args,VtOk 0 v) :
  Calls Tryz.prog 10 #[.agg #[vc,vm],.int .i64 k,va,vi,.int .i64 fuel] w (PlayR w (shown (call SM f input fuel.toNat (fuel.toNat+1) 0 (meAt f k) (List.zipWith argOf (f.methods[k]).params args) h0)) 0):=by
 have em:f.methods[k]=meAt f k:=by unfold meAt;rw [List.getD_eq_getElem?_getD,List.getElem?_eq_getElem hk];rfl
 have hf2:0≤fuel∧fuel≤60000:=by simpa only [FormR.within,decide_eq_true_eq] using hq2
 have HCL:=Lib.hid hc
 have HME:=Lib.hid hm
 have HIN:=Lib.hid hi
 have HAR:=Lib.hid ha
 obtain ⟨a,cap,rfl,k1,k2,_⟩:=hc
 obtain ⟨ma,mcap,rfl,k3,k4,hel⟩:=hm
 obtain ⟨ia,icap,rfl,k5,k6,_⟩:=hi
 obtain ⟨aa,acap,rfl,k7,k8,hea⟩:=ha
 obtain ⟨mb,mo,rfl,hmb,vp,vco,vh,m0,m1,m2,m3,m4,m5,m6,m7,mok,hp,hco,hh⟩:=hel k hk
 have HP:=Lib.hid hp
 have HCO:=Lib.hid hco
 have HH:=Lib.hid hh
 obtain ⟨pa,pcap,rfl,k9,k10,hep⟩:=hp
 obtain ⟨ca,ccap,rfl,k11,k12,_⟩:=hco
 obtain ⟨xa,xcap,rfl,k13,k14,_⟩:=hh
 clear hel hea hep
 have hk':(k:Int) < f.methods.length:=by omega
 have hmb2:mb < w.heap.size:=by omega
 have HQ:=Lib.hid hq
 have HQ2:=Lib.hid hq2
 have HNO:=Lib.hid hno
 have HV:=Lib.hid hv
 have H4:=Lib.hid h4
 clear hq hq2 hno hv
 replace hf2:=Lib.hid hf2
 have H3:=Lib.hid h3
 have H5:=Lib.hid h5
 clear h3 h4 h5
 have HBC:∀ W:World,Below w.heap.size w W→Calls Tryz.prog 31 #[.agg #[.slice a f.classes.length cap,.slice (some ⟨mb,mo,none⟩) f.methods.length mcap],.int .i64 k,.slice aa args.length acap,.slice ia input.length icap,.int .i64 fuel] W (BegR W f f.methods[k] args input fuel (.slice a f.classes.length cap) (.slice (some ⟨mb,mo,none⟩) f.methods.length mcap) (.slice ia input.length icap)):=fun W hW=>begin5 (HCL.out.mono mCls (hW.mono hB) (Nat.le_refl _)) (HME.out.mono mMe (hW.mono hB) (Nat.le_refl _)) (Nat.le_trans hB hW.size) k hk fuel HQ.out HQ2.out (HIN.out.mono mInt (hW.mono hB) (Nat.le_refl _)) H3.out (HAR.out.mono mInt (hW.mono hB) (Nat.le_refl _)) H4.out H5.out
 have HRU:∀ (W1 w2:World) (E:Ev) (vl:Value),(E.f=f∧E.input=input∧E.fuel=fuel.toNat∧E.B=W1.heap.size)→Below w.heap.size w W1→Below W1.heap.size W1 w2→RH E w2 L0 h0 0 Sv.run→VS w2 (own E L0) vl (List.zipWith argOf (f.methods[k]).params args)→Calls Tryz.prog 32 #[.pointer (some ⟨E.hb,0,none⟩),.agg #[.slice pa f.methods[k].params.length pcap,.int .i64 f.methods[k].ret.kind,.int .i64 f.methods[k].ret.cls,.int .i64 f.methods[k].stack,.int .i64 f.methods[k].locals,.int .i64 f.methods[k].regs,.slice ca f.methods[k].code.length ccap,.slice xa f.methods[k].handlers.length xcap],vl] w2 (RRv E L0 0 w2 (call SM f input fuel.toNat (fuel.toNat+1) 0 (meAt f k) (List.zipWith argOf (f.methods[k]).params args) h0)):=fun W1 w2 E vl hE hW h2 H V=>by
  have hbb:Below B w w2:=(hW.mono hB).trans (h2.mono (Nat.le_trans hB hW.size))
  refine runP S MO (by have:=hf2.out;omega) H3.out ⟨hE.1,hE.2.1,hE.2.2.1⟩ H hk HV.out (by rw [List.length_zipWith,H4.out,← em];omega) ?_ V
  rw [← em,hE.2.2.2]
  exact ⟨_,_,_,rfl,mok,HP.out.mono mTy hbb (Nat.le_trans hB hW.size),HCO.out.mono mIns hbb (Nat.le_trans hB hW.size),HH.out.mono mHd hbb (Nat.le_trans hB hW.size)⟩
 have HCO2:Hid (CallOk f input fuel.toNat (meAt f k) h0 (call SM f input fuel.toNat (fuel.toNat+1) 0 (meAt f k) (List.zipWith argOf (f.methods[k]).params args) h0)):=call_ok MO _ _ _ _ _ (meAt_mem hk) ⟨Nat.zero_le _,(fun o ho=>by cases ho),(fun x hx=>by cases hx),Nat.le_refl _,Nat.zero_le _,Nat.zero_le _⟩ HV.out (by rw [List.length_zipWith,H4.out,← em];omega)
 replace em:=Lib.hid em
 obtain ⟨r,hr⟩:∃ r,Hid (call SM f input fuel.toNat (fuel.toNat+1) 0 (meAt f k) (List.zipWith argOf (f.methods[k]).params args) h0=r):=⟨_,Lib.hid rfl⟩
 rw [hr.out] at HRU HCO2 ⊢
 generalize f.methods[k].params.length=np at m0 HRU
 go_enter Tryz.func10,Tryz.ntmps10
 go_wp2_with (first
  | (go_at_call 31;refine (HBC _ (by exact Rd.byB)).mono ?_;rintro e w2 HBG;obtain ⟨E,vl,rfl,hE,H,V,hbl⟩:=begR HNO.out HBG;clear HBG;have b1:w2.cell? ⟨w.heap.size,1,none⟩=some (.slice (some ⟨mb,mo,none⟩) f.methods.length mcap):=kept hbl Rd.byL (by go_simp);have hbw:Below w.heap.size w w2:=Below.trans (by exact Rd.byB) (hbl.mono Rd.byL);have n0:=kept hbw hmb2 m0;have n1:=kept hbw hmb2 m1;have n2:=kept hbw hmb2 m2;have n3:=kept hbw hmb2 m3;have n4:=kept hbw hmb2 m4;have n5:=kept hbw hmb2 m5;have n6:=kept hbw hmb2 m6;have n7:=kept hbw hmb2 m7;replace H:=Lib.hid H;replace V:=Lib.hid V;replace hE:=Lib.hid hE)
  | (go_at_call 32;refine (HRU _ _ _ _ hE.out (by exact Rd.byB) hbl H.out V.out).mono ?_;rintro e w3 hr3;obtain ⟨kv,nv,he3,hm3⟩:=id hr3;subst he3;clear hm3;have hq4:E.B=w.heap.size+2:=(by rw [hE.out.2.2.2];simp);have hb3:=rrv_low H.out hr3;rw [hq4] at hb3;have hs3:w.heap.size+2≤w3.heap.size:=Nat.le_trans (by have:=hbl.size;simp at this;omega) hb3.size;replace hr3:=Lib.hid hr3;have hco:Hid (CallOk E.f E.input E.fuel (meAt f k) h0 r):=(by obtain ⟨q1,q2,q3,_⟩:=hE.out;rw [q1,q2,q3];exact HCO2))
  | (go_at_call 33;refine (doneA (e:=.returned (.agg #[.int .i64 kv,.int .i64 nv])) (rrv_below hr3.out (by exact Rd.byB)) hco.out rfl).mono ?_;rintro e w4 ⟨v4,rfl,⟨vo,rfl,hrow⟩,hb4⟩;obtain ⟨oa,on,oc,rfl⟩:=own_sl hrow;rw [hq4] at hb4 hrow;replace hrow:=Lib.hid hrow;have hT:=(hbl.mono (B':=w.heap.size+2) Rd.byL).trans (hb3.trans (Below.trans (by exact Rd.byB) hb4));have hB6:=res6 (w:=w) hT;have c0:=(hB6 0 (by simp)).1;have c1:=(hB6 1 (by simp)).1;have c2:=(hB6 2 (by simp)).1;have c3:=(hB6 3 (by simp)).1;have c4:=(hB6 4 (by simp)).1;have c5:=(hB6 5 (by simp)).1;have f0:=(hB6 0 (by simp)).2;have f1:=(hB6 1 (by simp)).2;have f2:=(hB6 2 (by simp)).2;have f3:=(hB6 3 (by simp)).2;have f4:=(hB6 4 (by simp)).2;have f5:=(hB6 5 (by simp)).2;simp only [List.getElem_cons_zero,List.getElem_cons_succ] at c0 c1 c2 c3 c4 c5;clear hB6;have hb5:Below w.heap.size w w4:=Below.trans (by exact Rd.byB) (hT.mono Rd.byL)))
 refine bodyPost_ret (v:=.tuple #[.agg #[.int .i64 (shown r).fin,.int .i64 (shown r).value,.int .i64 (shown r).cls,.slice oa on oc,.int .i64 (shown r).used,.int .i64 (shown r).steps],.int .i64 0]) (by simp [results,Tryz.results10,go_sem] <;> go_simp) rfl ?_
 have K:∀ (W:World) (j:Nat) (u:Value),Kp (fun k=>k=w.heap.size+1) w4 W→Kp (fun k=>k=w.heap.size+1) w4 (W.setCell ⟨w.heap.size+1,j,none⟩ u):=fun W j u K=>K.setCell (p:=⟨w.heap.size+1,j,none⟩) (.inl rfl) u
 have KK:=K _ 5 (.int .i64 (shown r).steps) (K _ 4 (.int .i64 (shown r).used) (K _ 3 (.slice oa on oc) (K _ 2 (.int .i64 (shown r).cls) (K _ 1 (.int .i64 (shown r).value) (K _ 0 (.int .i64 (shown r).fin) (Kp.refl _ w4))))))
 refine ⟨_,rfl,⟨_,rfl,row_low (row_keep hrow.out KK (fun g hg e=>?_)) Rd.byL⟩,hb5.trans (KK.below hb5.size (fun k e=>by omega))⟩
 have:=(World.ownsRow.lt hrow.out g hg).1
 omega
theorem argOf_vt {nc:Int}{t:Ty}{n:Int}(ht:Hier.ty nc t=true) (h3:t.kind≠3) (hn:Ok n):VtOk 0 (argOf t n):=by
 unfold Hier.ty at ht
 unfold argOf
 split at ht
 ·rename_i e
  by_cases e1:t.kind=1
  ·rw [if_pos e1]
   exact ⟨⟨wrap32_ok n,by simp,by simp,by simp⟩,by simp,by simp⟩
  ·rw [if_neg e1]
   refine ⟨⟨hn,?_,?_,?_⟩,?_,?_⟩ <;> simp only <;> omega
 ·exact absurd ht (by simp [h3])
theorem play {vf va vi:Value}{input args:List Int}{entry fuel:Int}(hmay:Form.smay f=true) (Hf:VFi w w.heap.size vf f) (hi:Sl 1 EInt w w.heap.size vi input) (ha:Sl 1 EInt w w.heap.size va args) :
  Calls Tryz.prog 10 #[vf,.int .i64 entry,va,vi,.int .i64 fuel] w (PlayR w (Run.play SM f entry args input fuel).1 (Run.play SM f entry args input fuel).2):=by
 have S:=fiS_of hmay
 have hn:∀ m∈f.methods,∀ i∈m.code,Ok i.n:=by
  intro m hm i hi
  obtain ⟨_,_,_,_,hms⟩:=Hf
  obtain ⟨_,_,_,_,_,hel⟩:=hms
  obtain ⟨k,hk,rfl⟩:=List.getElem_of_mem hm
  obtain ⟨_,_,_,_,vp,vco,vh,_,_,_,_,_,_,_,_,_,_,hco,_⟩:=hel k hk
  obtain ⟨_,_,_,_,_,hec⟩:=hco
  obtain ⟨j,hj,rfl⟩:=List.getElem_of_mem hi
  obtain ⟨_,_,_,_,_,_,_,_,_,ho,_⟩:=hec j hj
  exact ho.2.2.2.2
 have hin:∀ x∈input,Ok x:=by
  intro x hx
  obtain ⟨_,_,_,_,_,hel⟩:=hi
  obtain ⟨k,hk,rfl⟩:=List.getElem_of_mem hx
  obtain ⟨_,_,_,_,_,h⟩:=hel k hk
  exact h
 have har:∀ x∈args,Ok x:=by
  intro x hx
  obtain ⟨_,_,_,_,_,hel⟩:=ha
  obtain ⟨k,hk,rfl⟩:=List.getElem_of_mem hx
  obtain ⟨_,_,_,_,_,h⟩:=hel k hk
  exact h
 have Hf2:=Hf
 obtain ⟨vc,vm,rfl,hc,hm⟩:=Hf2
 have s1:∃ a n cap,vc=.slice a n cap:=by obtain ⟨a,cap,e,_⟩:=hc;exact ⟨_,_,_,e⟩
 have s2:∃ a n cap,vm=.slice a n cap:=by obtain ⟨a,cap,e,_⟩:=hm;exact ⟨_,_,_,e⟩
 have out:∀ c:Int,c≠0→begin_ f entry args input fuel=c→(∀ W,Below w.heap.size w W→Calls Tryz.prog 31 #[.agg #[vc,vm],.int .i64 entry,va,vi,.int .i64 fuel] W (BeginE W c))→Calls Tryz.prog 10 #[.agg #[vc,vm],.int .i64 entry,va,vi,.int .i64 fuel] w (PlayR w (Run.play SM f entry args input fuel).1 (Run.play SM f entry args input fuel).2):=fun c h0 he h=>by
  have e:Run.play SM f entry args input fuel=(Sh.nil,c):=by unfold Run.play;rw [he,if_pos h0]
  rw [e]
  exact playE entry fuel c h0 h s1 s2
 have wi:∀ (x lo hi:Int),FormR.within x lo hi=false→x < lo∨hi < x:=fun x lo hi h=>by
  have:=of_decide_eq_false h
  omega
 have wt:∀ (x lo hi:Int),FormR.within x lo hi=true→lo≤x∧x≤hi:=fun x lo hi h=>of_decide_eq_true h
 cases hq:FormR.within entry 0 (f.methods.length - 1)
 ·have:=wi _ _ _ hq
  exact out 4 (by decide) (by unfold begin_;rw [if_pos (by omega)]) (fun W hW=>begin1 (Hf.mono hW hW.size) entry fuel hq)
 have r1:=wt _ _ _ hq
 cases hq2:FormR.within fuel 0 60000
 ·have:=wi _ _ _ hq2
  exact out 4 (by decide) (by unfold begin_;rw [if_pos (by omega)]) (fun W hW=>begin2 (Hf.mono hW hW.size) entry fuel hq hq2)
 have r2:=wt _ _ _ hq2
 have b0:¬ (entry < 0∨(f.methods.length:Int)≤entry∨fuel < 0∨60000 < fuel):=by omega
 by_cases h3:1000 < input.length
 ·exact out 1 (by decide) (by unfold begin_;rw [if_neg b0,if_pos h3]) (fun W hW=>begin3 (Hf.mono hW hW.size) entry fuel hq hq2 (hi.mono mInt hW hW.size) h3)
 obtain ⟨k,rfl⟩:∃ k:Nat,entry=(k:Int):=⟨entry.toNat,by omega⟩
 have hk:k < f.methods.length:=by omega
 have em:f.methods[k]=meAt f k:=by unfold meAt;rw [List.getD_eq_getElem?_getD,List.getElem?_eq_getElem hk];rfl
 have M:=S.mes _ (List.getElem_mem hk)
 have ek:((k:Int)).toNat=k:=by omega
 by_cases h4:args.length=(f.methods[k]).params.length
 ·cases hany:(f.methods[k]).params.any (fun t=>decide (t.kind=3))
  ·have hb0:begin_ f k args input fuel=0:=by unfold begin_;rw [if_neg b0,if_neg h3,ek,← em,if_neg (by rw [hany];simp [h4])]
   have e:Run.play SM f k args input fuel=(shown (call SM f input fuel.toNat (fuel.toNat+1) 0 (meAt f k) (List.zipWith argOf (f.methods[k]).params args) h0),0):=by unfold Run.play;rw [hb0,if_neg (by simp),ek,← em];rfl
   rw [e]
   refine playO S (sm_ok S hn hin) hc hm (Nat.le_refl _) k hk hq hq2 hi (by omega) ha h4 M.params.1 hany (fun v hv=>?_)
   obtain ⟨i,hi2,rfl⟩:=List.getElem_of_mem hv
   rw [List.getElem_zipWith]
   simp only [List.length_zipWith] at hi2
   have ht:=M.params.2 _ (List.getElem_mem (show i < (f.methods[k]).params.length by omega))
   refine argOf_vt ht (fun e3=>?_) (har _ (List.getElem_mem _))
   have:=List.any_eq_false.1 hany _ (List.getElem_mem (show i < (f.methods[k]).params.length by omega))
   simp [e3] at this
  ·refine out 3 (by decide) (by unfold begin_;rw [if_neg b0,if_neg h3,ek,← em,if_pos (.inr hany)]) (fun W hW=>(begin5 (hc.mono mCls hW hW.size) (hm.mono mMe hW hW.size) (Nat.le_refl _) k hk fuel hq hq2 (hi.mono mInt hW hW.size) (by omega) (ha.mono mInt hW hW.size) h4 M.params.1).mono fun e w' h=>?_)
   unfold BegR at h
   rw [if_pos hany] at h
   exact h
 ·exact out 3 (by decide) (by unfold begin_;rw [if_neg b0,if_neg h3,ek,← em,if_pos (.inl h4)]) (fun W hW=>begin4 (Hf.mono hW hW.size) (Nat.le_refl _) k hk fuel hq hq2 (hi.mono mInt hW hW.size) (by omega) (ha.mono mInt hW hW.size) h4)
end
end Rhw
namespace FormW
open Num Rd D HierW
set_option maxRecDepth 100000 in
theorem head (f:Fi) (m:Me) (most:Int) (vf vm:Value) (w:World) (hf:VFi w w.heap.size vf f) (hm:VMe w w.heap.size vm m) (hmost:0≤most∧most≤100000) :
  Calls Tryz.prog 88 #[vf,vm,.int .i64 most] w fun e w'=>e=.returned (.bool (Form.head f.classes.length m most))∧Below w.heap.size w w':=by
 obtain ⟨vc,vme,rfl,⟨ca,ccap,rfl,clc,ccc,_⟩,⟨ma,mcap,rfl,mlc,mcc,_⟩⟩:=hf
 obtain ⟨vp,vcd,vh,rfl,⟨ok1,ok2,_,_,_⟩,⟨pa,pcap,rfl,plc,pcc,pel⟩,⟨da,dcap,rfl,dlc,dcc,_⟩,⟨ha,hcap,rfl,hlc,hcc,hel⟩⟩:=hm
 obtain ⟨most1,most2⟩:=hmost
 unfold Ok at ok1 ok2
 obtain ⟨rk,hrk⟩:∃ rk,Hid (m.ret.kind=rk):=⟨_,rfl⟩
 obtain ⟨rc,hrc⟩:∃ rc,Hid (m.ret.cls=rc):=⟨_,rfl⟩
 rw [hrk.out] at ok1
 rw [hrc.out] at ok2
 rw [hrk.out,hrc.out]
 go_enter Tryz.func88,Tryz.ntmps88
 go_wp2_with fail
 refine name_world (fun W=>Below w.heap.size w W∧w.heap.size+2≤W.heap.size ∧
  (W.cell? ⟨w.heap.size,0,none⟩=some (.slice ca f.classes.length ccap)∧W.cell? ⟨w.heap.size,1,none⟩=some (.slice ma f.methods.length mcap)) ∧
  W.cell? ⟨w.heap.size+1,0,none⟩=some (.slice pa m.params.length pcap)∧W.cell? ⟨w.heap.size+1,1,none⟩=some (.int .i64 rk)∧W.cell? ⟨w.heap.size+1,2,none⟩=some (.int .i64 rc)∧W.cell? ⟨w.heap.size+1,6,none⟩=some (.slice da m.code.length dcap)∧W.cell? ⟨w.heap.size+1,7,none⟩=some (.slice ha m.handlers.length hcap))
  ?_ ?_
 ·refine ⟨Rd.byB,?_,⟨?_,?_⟩,?_,?_,?_,?_,?_⟩
  all_goals go_simp
 rintro W ⟨hbw,hsz,⟨f1,f2⟩,m0,m1,m2,m6,m7⟩
 have hbs:=hbw.size
 have hbW:=Lib.hid hbw
 go_loopw [14] (fun i wr=>∃ k:Nat,k≤m.params.length∧i=.int .i64 k∧Below W.heap.size W wr∧Hid (∀ j (h:j < m.params.length),j < k→Hier.ty f.classes.length m.params[j]=true)) (fun i _=>m.params.length - (intOf i).toNat)
 case atStart=>exact ⟨0,by omega,rfl,Below.refl _ _,fun j _ h=>absurd h (by omega)⟩
 case round =>
  obtain ⟨k,hk,rfl,hr,hall⟩:=hrel
  have hrs:=hr.size
  have n1:w.heap.size < wr.heap.size:=by omega
  have n2:w.heap.size+1 < wr.heap.size:=by omega
  have a1:=kept hr (by omega) f1
  have a2:=kept hr (by omega) m0
  have a3:=kept hr (by omega) m1
  have a4:=kept hr (by omega) m2
  have a5:=kept hr (by omega) m6
  have a6:=kept hr (by omega) m7
  by_cases hlt:k < m.params.length
  ·obtain ⟨b,o,rfl,hb,he⟩:=pel k hlt
   have hyes:=Lib.hid (Form.all_step (p:=Hier.ty f.classes.length) hall.out hlt)
   have hno:=Lib.hid (Form.head_param (nc:=f.classes.length) (most:=most) hlt)
   obtain ⟨t,ht⟩:=at_of hlt
   rw [ht.out] at he hyes hno
   obtain ⟨g1,g2,_,_⟩:=he
   have hwr:Below w.heap.size w wr:=hbw.trans (hr.mono hbs)
   have k1:=kept hwr hb g1
   have k2:=kept hwr hb g2
   clear pel g1 g2 hel f1 f2 m0 m1 m2 m6 m7 a2 a3 a4 a5 a6
   obtain ⟨tb,htb⟩:∃ tb,Hid (Hier.ty f.classes.length t=tb):=⟨_,rfl⟩
   cases tb
   ·go_wp2_with (go_at_call 95;refine (type _ _ _ t _).mono ?_;rw [htb.out];rintro e w1 ⟨rfl,hb1⟩)
    go_ret
    exact ⟨ret_bool (hno.out htb.out).symm,(hwr.alloc (by omega) _).trans (hb1.mono (by simp;omega))⟩
   ·go_wp2_with (go_at_call 95;refine (type _ _ _ t _).mono ?_;rw [htb.out];rintro e w1 ⟨rfl,hb1⟩)
    go_roundw
    case rel=>exact ⟨k+1,by omega,by go_num,(hr.alloc (by omega) _).trans (hb1.mono (by simp;omega)),hyes.out htb.out⟩
    case measure=>simp [intOf];omega
  ·obtain ⟨wo,rfl⟩:∃ wo:World,wo=wr:=⟨_,rfl⟩
   have hpar:=Lib.hid (Form.all_of (fun j hj=>hall.out j hj (by omega)))
   have hwo:Below w.heap.size w wo:=hbw.trans (hr.mono hbs)
   clear pel hall f1 f2 m0 m1 m2 m6 m7
   go_wp2
   go_loopw [27] (fun i wr=>∃ k:Nat,k≤m.handlers.length∧i=.int .i64 k∧Below wo.heap.size wo wr∧Hid (∀ j (h:j < m.handlers.length),j < k→Form.hd f.classes.length m.code.length m.handlers[j]=true)) (fun i _=>m.handlers.length - (intOf i).toNat)
   case atStart=>exact ⟨0,by omega,rfl,Below.refl _ _,fun j _ h=>absurd h (by omega)⟩
   case round =>
    obtain ⟨k,hk,rfl,hq,hall⟩:=hrel
    have hqs:=hq.size
    have n3:w.heap.size < wr.heap.size:=by omega
    have n4:w.heap.size+1 < wr.heap.size:=by omega
    have c1:=kept hq (by omega) a1
    have c2:=kept hq (by omega) a2
    have c3:=kept hq (by omega) a3
    have c4:=kept hq (by omega) a4
    have c5:=kept hq (by omega) a5
    have c6:=kept hq (by omega) a6
    clear a1 a2 a3 a4 a5 a6
    have hwr:Below w.heap.size w wr:=hwo.trans (hq.mono (by omega))
    by_cases hlt:k < m.handlers.length
    ·obtain ⟨b,o,rfl,hb,he⟩:=hel k hlt
     have hyes:=Lib.hid (Form.all_step (p:=Form.hd f.classes.length m.code.length) hall.out hlt)
     have hno:=Lib.hid (Form.head_hd (nc:=f.classes.length) (most:=most) hlt)
     obtain ⟨t,ht⟩:=at_of hlt
     rw [ht.out] at he hyes hno
     obtain ⟨g1,g2,g3,g4,_⟩:=he
     have k1:=kept hwr hb g1
     have k2:=kept hwr hb g2
     have k3:=kept hwr hb g3
     have k4:=kept hwr hb g4
     obtain ⟨lo,hi,go,cl⟩:=t
     simp only at k1 k2 k3 k4
     clear hel g1 g2 g3 g4 c2 c3 c4 c6
     have hq2:=Lib.hid hq
     have hwr2:=Lib.hid hwr
     go_wp2_with (go_at_call 47;refine (sin _ _ _ _).mono ?_;rintro e w1 ⟨rfl,rfl⟩)
     all_goals first
      | (
               go_ret
               refine ⟨ret_bool (hno.out ?_).symm,Rd.byB⟩
               go_tidy
               rw [Bool.eq_false_iff]
               simp only [Form.hd,Bool.and_eq_true,decide_eq_true_eq,ne_eq]
               rintro ⟨⟨z1,z2⟩,z3⟩
               first | omega | (simp_all;done) | (simp only [z2,z3,Bool.not_true,Bool.false_eq_true,or_false] at *;omega))
      | skip
     go_roundw
     case rel =>
      refine ⟨k+1,by omega,by go_num,hq2.out.alloc (by omega) _,hyes.out ?_⟩
      go_tidy
      simp only [Form.hd,Bool.and_eq_true,decide_eq_true_eq]
      refine ⟨⟨⟨by omega,by omega,by omega⟩,?_⟩,?_⟩
      ·assumption
      ·simp_all
     case measure=>simp [intOf];omega
    ·have hge:m.handlers.length≤k:=by omega
     have hh:m.handlers.all (Form.hd f.classes.length m.code.length)=true:=Form.all_of (fun j hj=>hall.out j hj (by omega))
     have hhd:=Lib.hid (Form.head_rest (nc:=f.classes.length) (most:=most) hpar.out hh)
     clear hh
     clear hel hall
     obtain ⟨tr,htr⟩:∃ tr,Hid (Hier.ty f.classes.length ⟨rk,rc⟩=tr):=⟨_,rfl⟩
     obtain ⟨rr,hrr⟩:∃ rr,Hid (Form.rng m.code.length 1 (most+1)=rr):=⟨_,rfl⟩
     by_cases d1:m.params.length≤4
     ·have d1':(m.params.length:Int)≤4:=by omega
      have hq:=fun w=>run_eql_ty rk rc 0 0 w
      have hg:=fun op x y xs ys w=>run_guard_ty op x y xs ys w
      have hnr:Hid (Form.ret f.classes.length m.ret=(decide (rk=0∧rc=0) || tr)):=by
       show _=_
       rw [← htr.out,← hrk.out,← hrc.out];rfl
      have hrr':Hid (Form.head f.classes.length m most=(true && (decide (rk=0∧rc=0) || tr) && rr && decide (m.handlers.length≤8))):=by
       show _=_
       rw [hhd.out,decide_eq_true d1,hnr.out,hrr.out]
      clear hhd hnr
      cases tr <;> cases rr
      all_goals
       go_wp2_with (first
        | (go_at_call 95;refine (type _ _ _ ⟨rk,rc⟩ _).mono ?_;rw [htr.out];rintro e w1 ⟨rfl,hb1⟩;have y5:=kept hb1 (by omega) c5;have y6:=kept hb1 (by omega) c6)
        | (go_at_call 47;refine (sinV _ _ _ _ _ hrr.out).mono ?_;rintro e w2 ⟨rfl,rfl⟩))
       all_goals go_ret
       all_goals refine ⟨ret_bool ?_,?_⟩
       all_goals first
        | exact hwr
        | exact hwr.trans (hb1.mono (by omega))
        | skip
       all_goals go_tidy
       all_goals rw [hrr'.out]
       all_goals simp_all
       all_goals first | rfl | (intros;omega)
     ·have d1':¬ (m.params.length:Int)≤4:=by omega
      have e1:Hid (Form.head f.classes.length m most=false):=by
       show _=_
       rw [hhd.out,decide_eq_false d1];rfl
      go_wp2_with fail
      go_ret
      refine ⟨ret_bool ?_,hwr⟩
      go_tidy
      rw [e1.out]
end FormW
namespace FormR
open Num Rd D HierW FormW
theorem head_len {nc:Int}{m:Me}{most:Int}(h:4 < m.params.length∨8 < m.handlers.length∨within m.code.length 1 most=false):Form.head nc m most=false:=by
 rw [within_rng] at h
 rw [Bool.eq_false_iff]
 intro h'
 simp only [Form.head,Bool.and_eq_true,decide_eq_true_eq] at h'
 obtain ⟨⟨⟨⟨⟨_,_⟩,h1⟩,_⟩,h2⟩,h3⟩:=h'
 rcases h with h | h | h
 ·omega
 ·omega
 ·rw [h] at h2;cases h2
theorem rtypeV (a:Option Addr) (n cap:Nat) (t:Ty) (p:Bool) (w:World) (hp:Hier.ty n t=p):Calls Tryz.prog 57 #[.slice a n cap,.agg #[.int .i64 t.kind,.int .i64 t.cls]] w fun e w'=>e=.returned (.bool p)∧Below w.heap.size w w':=by
 subst hp;exact rtype a n cap t w
set_option maxRecDepth 100000 in
theorem head (f:Fi) (m:Me) (most:Int) (vf vm:Value) (w:World) (hf:VFi w w.heap.size vf f) (hm:VMe w w.heap.size vm m) (hmost:0≤most∧most≤100000) :
  Calls Tryz.prog 27 #[vf,vm,.int .i64 most] w fun e w'=>e=.returned (.bool (Form.head f.classes.length m most))∧Below w.heap.size w w':=by
 obtain ⟨vc,vme,rfl,⟨ca,ccap,rfl,clc,ccc,_⟩,⟨ma,mcap,rfl,mlc,mcc,_⟩⟩:=hf
 obtain ⟨vp,vcd,vh,rfl,⟨ok1,ok2,_,_,_⟩,⟨pa,pcap,rfl,plc,pcc,pel⟩,⟨da,dcap,rfl,dlc,dcc,_⟩,⟨ha,hcap,rfl,hlc,hcc,hel⟩⟩:=hm
 obtain ⟨most1,most2⟩:=hmost
 unfold Ok at ok1 ok2
 obtain ⟨rk,hrk⟩:∃ rk,Hid (m.ret.kind=rk):=⟨_,rfl⟩
 obtain ⟨rc,hrc⟩:∃ rc,Hid (m.ret.cls=rc):=⟨_,rfl⟩
 rw [hrk.out] at ok1
 rw [hrc.out] at ok2
 rw [hrk.out,hrc.out]
 obtain ⟨rr,hrr⟩:∃ rr,Hid (within m.code.length 1 most=rr):=⟨_,rfl⟩
 have hlen:=Lib.hid (head_len (nc:=f.classes.length) (m:=m) (most:=most))
 by_cases d1:4 < m.params.length
 ·have e1:=Lib.hid (hlen.out (.inl d1))
  have d1':(4:Int) < m.params.length:=by omega
  go_enter Tryz.func27,Tryz.ntmps27
  go_wp2_with fail
  go_ret
  exact ⟨ret_bool e1.out.symm,Rd.byB⟩
 by_cases d2:8 < m.handlers.length
 ·have e1:=Lib.hid (hlen.out (.inr (.inl d2)))
  have d2':(8:Int) < m.handlers.length:=by omega
  have d1':¬ (4:Int) < m.params.length:=by omega
  go_enter Tryz.func27,Tryz.ntmps27
  go_wp2_with fail
  go_ret
  exact ⟨ret_bool e1.out.symm,Rd.byB⟩
 have d1':¬ (4:Int) < m.params.length:=by omega
 have d2':¬ (8:Int) < m.handlers.length:=by omega
 have D1:=Lib.hid d1
 have D2:=Lib.hid d2
 clear d1 d2
 cases rr
 ·have e1:=Lib.hid (hlen.out (.inr (.inr hrr.out)))
  go_enter Tryz.func27,Tryz.ntmps27
  go_wp2_with (go_at_call 26;refine (wiV _ _ _ _ _ hrr.out).mono ?_;rintro e w1 ⟨rfl,rfl⟩)
  go_ret
  exact ⟨ret_bool e1.out.symm,Rd.byB⟩
 go_enter Tryz.func27,Tryz.ntmps27
 go_wp2_with (go_at_call 26;refine (wiV _ _ _ _ _ hrr.out).mono ?_;rintro e w1 ⟨rfl,rfl⟩)
 refine name_world (fun W=>Below w.heap.size w W∧w.heap.size+2≤W.heap.size ∧
  (W.cell? ⟨w.heap.size,0,none⟩=some (.slice ca f.classes.length ccap)∧W.cell? ⟨w.heap.size,1,none⟩=some (.slice ma f.methods.length mcap)) ∧
  W.cell? ⟨w.heap.size+1,0,none⟩=some (.slice pa m.params.length pcap)∧W.cell? ⟨w.heap.size+1,1,none⟩=some (.int .i64 rk)∧W.cell? ⟨w.heap.size+1,2,none⟩=some (.int .i64 rc)∧W.cell? ⟨w.heap.size+1,6,none⟩=some (.slice da m.code.length dcap)∧W.cell? ⟨w.heap.size+1,7,none⟩=some (.slice ha m.handlers.length hcap))
  ?_ ?_
 ·refine ⟨Rd.byB,?_,⟨?_,?_⟩,?_,?_,?_,?_,?_⟩
  all_goals go_simp
 rintro W ⟨hbw,hsz,⟨f1,f2⟩,m0,m1,m2,m6,m7⟩
 have hbs:=hbw.size
 have hbW:=Lib.hid hbw
 go_loopw [7] (fun i wr=>∃ k:Nat,k≤m.params.length∧i=.int .i64 k∧Below W.heap.size W wr∧Hid (∀ j (h:j < m.params.length),j < k→Hier.ty f.classes.length m.params[j]=true)) (fun i _=>m.params.length - (intOf i).toNat)
 case atStart=>exact ⟨0,by omega,rfl,Below.refl _ _,fun j _ h=>absurd h (by omega)⟩
 case round =>
  obtain ⟨k,hk,rfl,hr,hall⟩:=hrel
  have hrs:=hr.size
  have n1:w.heap.size < wr.heap.size:=by omega
  have n2:w.heap.size+1 < wr.heap.size:=by omega
  have a1:=kept hr (by omega) f1
  have a2:=kept hr (by omega) m0
  have a3:=kept hr (by omega) m1
  have a4:=kept hr (by omega) m2
  have a5:=kept hr (by omega) m6
  have a6:=kept hr (by omega) m7
  by_cases hlt:k < m.params.length
  ·obtain ⟨b,o,rfl,hb,he⟩:=pel k hlt
   have hyes:=Lib.hid (Form.all_step (p:=Hier.ty f.classes.length) hall.out hlt)
   have hno:=Lib.hid (Form.head_param (nc:=f.classes.length) (most:=most) hlt)
   obtain ⟨t,ht⟩:=at_of hlt
   rw [ht.out] at he hyes hno
   obtain ⟨g1,g2,_,_⟩:=he
   have hwr:Below w.heap.size w wr:=hbw.trans (hr.mono hbs)
   have k1:=kept hwr hb g1
   have k2:=kept hwr hb g2
   have hltI:(k:Int) < m.params.length:=by omega
   clear pel g1 g2 hel f1 f2 m0 m1 m2 m6 m7 a3 a4 a5 a6
   obtain ⟨tb,htb⟩:∃ tb,Hid (Hier.ty f.classes.length t=tb):=⟨_,rfl⟩
   go_wp2_with fail
   refine Drawn.hd (fun w'=>w'.cell? ⟨w.heap.size,0,none⟩=some (.slice ca f.classes.length ccap)∧w'.cell? ⟨w.heap.size+1,0,none⟩=some (.slice (some ⟨b,o,none⟩) m.params.length pcap)∧w'.cell? ⟨b,o+k*2,none⟩=some (.int .i64 t.kind)∧w'.cell? ⟨b,o+k*2+1,none⟩=some (.int .i64 t.cls)) (hS:=by (try dsimp only);first | exact ⟨a1,a2,k1,k2⟩ | go_keep) (h:=fun hHeld=>?_)
   refine Drawn.T 0 (some 35) (h:=?_)
   refine Drawn.T 1 (some 36) (h:=?_)
   refine Drawn.T 2 (some 37) (h:=?_)
   refine Drawn.T 3 (some 38) (h:=?_)
   refine Drawn.T 4 (some 39) (h:=?_)
   refine Drawn.T 5 (some 40) (h:=?_)
   refine Drawn.T 6 (some 41) (h:=?_)
   refine Drawn.cl 7 (fun K hK=>?_)
   go_simp
   go_at_call 57
   refine (rtypeV _ _ _ t tb _ htb.out).mono ?_
   rintro e w2 ⟨rfl,hb2⟩
   have hb3:Below wr.heap.size wr w2:=Below.trans Rd.byB (hb2.mono (by simp))
   have b1:=kept hb3 (by omega) a1
   have b2:=kept hb3 (by omega) a2
   have b3:=kept hb3 (by omega) k1
   have b4:=kept hb3 (by omega) k2
   go_wp2_with fail
   refine Drawn.bk hK (hS:=by (try dsimp only);exact ⟨b1,b2,b3,b4⟩) (h:=fun hHeld=>?_)
   clear hK K
   refine Drawn.T 8 (some 43) (h:=?_)
   refine wpAnyH_done (by kernel_rfl) ?_ _
   cases tb
   ·go_wp2_with fail
    go_ret
    exact ⟨ret_bool (hno.out htb.out).symm,hwr.trans (hb3.mono (by omega))⟩
   ·go_wp2_with fail
    go_roundw
    case rel=>exact ⟨k+1,by omega,by go_num,hr.trans (hb3.mono (by omega)),hyes.out htb.out⟩
    case measure=>simp [intOf];omega
  ·obtain ⟨wo,rfl⟩:∃ wo:World,wo=wr:=⟨_,rfl⟩
   have hpar:=Lib.hid (Form.all_of (fun j hj=>hall.out j hj (by omega)))
   have hwo:Below w.heap.size w wo:=hbw.trans (hr.mono hbs)
   clear pel hall f1 f2 m0 m1 m2 m6 m7
   have hge:¬ (k:Int) < m.params.length:=by omega
   go_wp2_with fail
   have hcode:1≤m.code.length∧(m.code.length:Int)≤100000:=by
    have h:=hrr.out
    simp only [within,decide_eq_true_eq] at h
    omega
   obtain ⟨hc1,hc2⟩:=hcode
   go_loopw [8] (fun i wr=>∃ k:Nat,k≤m.handlers.length∧i=.int .i64 k∧Below wo.heap.size wo wr∧Hid (∀ j (h:j < m.handlers.length),j < k→Form.hd f.classes.length m.code.length m.handlers[j]=true)) (fun i _=>m.handlers.length - (intOf i).toNat)
   case atStart=>exact ⟨0,by omega,rfl,Below.refl _ _,fun j _ h=>absurd h (by omega)⟩
   case round =>
    obtain ⟨k,hk,rfl,hq,hall⟩:=hrel
    have hqs:=hq.size
    have n3:w.heap.size < wr.heap.size:=by omega
    have n4:w.heap.size+1 < wr.heap.size:=by omega
    have c1:=kept hq (by omega) a1
    have c2:=kept hq (by omega) a2
    have c3:=kept hq (by omega) a3
    have c4:=kept hq (by omega) a4
    have c5:=kept hq (by omega) a5
    have c6:=kept hq (by omega) a6
    clear a1 a2 a3 a4 a5 a6
    have hwr:Below w.heap.size w wr:=hwo.trans (hq.mono (by omega))
    by_cases hlt:k < m.handlers.length
    ·obtain ⟨b,o,rfl,hb,he⟩:=hel k hlt
     have hyes:=Lib.hid (Form.all_step (p:=Form.hd f.classes.length m.code.length) hall.out hlt)
     have hno:=Lib.hid (Form.head_hd (nc:=f.classes.length) (most:=most) hlt)
     obtain ⟨t,ht⟩:=at_of hlt
     rw [ht.out] at he hyes hno
     obtain ⟨g1,g2,g3,g4,_⟩:=he
     have k1:=kept hwr hb g1
     have k2:=kept hwr hb g2
     have k3:=kept hwr hb g3
     have k4:=kept hwr hb g4
     obtain ⟨lo,hi,go,cl⟩:=t
     simp only at k1 k2 k3 k4
     clear hel g1 g2 g3 g4 c2 c3 c4
     have hq2:=Lib.hid hq
     have hwr2:=Lib.hid hwr
     go_wp2_with (go_at_call 26;refine (wi _ _ _ _).mono ?_;rintro e w1 ⟨rfl,rfl⟩)
     all_goals first
      | (
               go_ret
               refine ⟨ret_bool (hno.out ?_).symm,Rd.byB⟩
               go_tidy
               rw [Bool.eq_false_iff]
               simp only [Form.hd,Bool.and_eq_true,decide_eq_true_eq,ne_eq]
               rintro ⟨⟨z1,z2⟩,z3⟩
               first | omega | (simp_all [within_rng];done) | (simp only [within_rng,z2,z3,Bool.not_true,Bool.false_eq_true,or_false,Int.sub_add_cancel] at *;omega))
      | skip
     go_roundw
     case rel =>
      refine ⟨k+1,by omega,by go_num,hq2.out.alloc (by omega) _,hyes.out ?_⟩
      go_tidy
      simp only [Form.hd,Bool.and_eq_true,decide_eq_true_eq]
      refine ⟨⟨⟨by omega,by omega,by omega⟩,?_⟩,?_⟩
      ·simp_all [within_rng]
      ·simp_all [within_rng]
     case measure=>simp [intOf];omega
    ·have hge:m.handlers.length≤k:=by omega
     have hh:m.handlers.all (Form.hd f.classes.length m.code.length)=true:=Form.all_of (fun j hj=>hall.out j hj (by omega))
     have hhd:=Lib.hid (Form.head_rest (nc:=f.classes.length) (most:=most) hpar.out hh)
     clear hh
     clear hel hall
     obtain ⟨tr,htr⟩:∃ tr,Hid (Hier.ty f.classes.length ⟨rk,rc⟩=tr):=⟨_,rfl⟩
     have hnr:Hid (Form.head f.classes.length m most=(decide (rk=0∧rc=0) || tr)):=by
      show _=_
      have h1:=hrr.out
      rw [within_rng] at h1
      have h2:=D1.out
      have h3:=D2.out
      rw [hhd.out,decide_eq_true (by omega),decide_eq_true (by omega),h1,← htr.out,← hrk.out,← hrc.out]
      simp [Form.ret]
     by_cases hz:rk=0
     ·subst hz
      by_cases hz2:rc=0
      ·subst hz2
       go_wp2_with fail
       go_ret
       exact ⟨ret_bool (by rw [hnr.out];simp),hwr⟩
      ·go_wp2_with (go_at_call 57;refine (rtypeV _ _ _ ⟨0,rc⟩ tr _ htr.out).mono ?_;rintro e w1 ⟨rfl,hb1⟩)
       go_ret
       exact ⟨ret_bool (by rw [hnr.out];simp [hz2]),hwr.trans (hb1.mono (by omega))⟩
     ·go_wp2_with (go_at_call 57;refine (rtypeV _ _ _ ⟨rk,rc⟩ tr _ htr.out).mono ?_;rintro e w1 ⟨rfl,hb1⟩)
      go_ret
      exact ⟨ret_bool (by rw [hnr.out];simp [hz]),hwr.trans (hb1.mono (by omega))⟩
end FormR
namespace FormR
open Num Rd D HierW FormW
theorem sn1 (n:Int):decide (wrap32 n=n)=(decide (-2147483648≤n) && decide (n≤2147483647)):=by
 rw [Bool.eq_iff_iff];simp only [Bool.and_eq_true,decide_eq_true_eq];unfold wrap32;omega
theorem wide2:Form.wide 2=2:=rfl
theorem wide_not {k:Int}(h:¬ k=2):Form.wide k=1:=by simp [Form.wide,h]
theorem sins_args {cl:List Cls}{nm nc lo:Int}{i:Ins}(h:0 < i.args.length):Form.sins cl nm nc lo i=false:=by
 unfold Form.sins
 rw [show decide (i.args.length=0)=false from decide_eq_false (by omega)];simp
set_option maxRecDepth 100000 in
theorem ins (f:Fi) (m:Me) (i:Ins) (vf vm vi:Value) (w:World) (hf:VFi w w.heap.size vf f) (hm:VMe w w.heap.size vm m) (hi:VIns w w.heap.size vi i) (hloc:0≤m.locals∧m.locals≤60) :
  Calls Tryz.prog 29 #[vf,vm,vi] w fun e w'=>e=.returned (.bool (Form.sins f.classes f.methods.length m.code.length m.locals i))∧Below w.heap.size w w':=by
 obtain ⟨vc,vme,rfl,⟨ca,ccap,rfl,clc,ccc,cel⟩,⟨ma,mcap,rfl,mlc,mcc,_⟩⟩:=hf
 obtain ⟨vp,vcd,vh,rfl,⟨_,_,_,okl,_⟩,_,⟨da,dcap,rfl,dlc,dcc,_⟩,_⟩:=hm
 obtain ⟨va,rfl,⟨oop,oa,ob,oc,on⟩,⟨aa,acap,rfl,alc,acc,_⟩⟩:=hi
 obtain ⟨op,a,b,c,n,args⟩:=i
 simp only at *
 unfold Ok at *
 obtain ⟨hloc1,hloc2⟩:=hloc
 go_enter Tryz.func29,Tryz.ntmps29
 go_wp2_with (go_at_call 26;refine (wi _ _ _ _).mono ?_;rintro e w' ⟨rfl,rfl⟩)
 all_goals first
  | (
       go_ret
       refine ⟨ret_bool ?_,Rd.byB⟩
       go_tidy
       first
       | (exact (sins_args (by show 0 < args.length;assumption)).symm)
       | simp_all [Form.sins,Form.sa,Form.sb,Form.sn,sn1,wide2,wide_not,Form.rng,within]
       first | done | rfl | (intros;omega) | (rw [Bool.eq_iff_iff];simp;omega) | (apply decide_eq_decide.2;omega))
  | skip
 ·refine name_world (fun W=>Below w.heap.size w W∧W.cell? ⟨w.heap.size+1+1,1,none⟩=some (.int .i64 a)∧W.cell? ⟨w.heap.size+1+1,2,none⟩=some (.int .i64 b)∧W.cell? ⟨w.heap.size,0,none⟩=some (.slice ca f.classes.length ccap)) ?_ ?_
  ·refine ⟨Rd.byB,?_,?_,?_⟩
   all_goals go_simp
  rintro W ⟨hbw,z1,z2,z3⟩
  obtain ⟨p,hp⟩:∃ p,Hid (within a 0 ((f.classes.length:Int) - 1)=p):=⟨_,rfl⟩
  cases p
  ·have hr:=hp.out
   have hr1:=hp.out
   rw [within_rng] at hr1
   simp only [Int.sub_add_cancel] at hr1
   have e1:Hid (Form.sins f.classes f.methods.length m.code.length m.locals ⟨op,a,b,c,n,args⟩=false):=by
    show _=_
    simp_all [Form.sins,Form.sa,Form.sb,Form.sn]
   refine Drawn.hd (fun w'=>w'.cell? ⟨w.heap.size+1+1,1,none⟩=some (.int .i64 a)∧w'.cell? ⟨w.heap.size+1+1,2,none⟩=some (.int .i64 b)) (hS:=by (try dsimp only);first | exact ⟨z1,z2⟩ | go_keep) (h:=fun hHeld=>?_)
   refine Drawn.T 0 (some 100) (h:=?_)
   refine Drawn.T 1 (some 101) (h:=?_)
   refine Drawn.T 2 (some 102) (h:=?_)
   refine Drawn.cl 3 (fun K hK=>?_)
   go_simp
   go_at_call 26
   refine (wiV _ _ _ _ _ hp.out).mono ?_
   rintro e w2 ⟨rfl,rfl⟩
   go_wp2_with fail
   refine Drawn.bk hK (hS:=by (try dsimp only);exact ⟨z1,z2⟩) (h:=fun hHeld=>?_)
   clear hK K
   refine Drawn.T 4 (some 104) (h:=?_)
   refine Drawn.ps 5 (some 105) rfl rfl (by assumption) ?_
   try simp only [Act.put,Drawn.La,Drawn.Lb,Drawn.Lc]
   refine Drawn.ps 6 (some 106) rfl rfl (by assumption) ?_
   try simp only [Act.put,Drawn.La,Drawn.Lb,Drawn.Lc]
   refine Drawn.ps 7 (some 107) rfl rfl (by assumption) ?_
   try simp only [Act.put,Drawn.La,Drawn.Lb,Drawn.Lc]
   refine Drawn.ps 8 (some 108) rfl rfl (by assumption) ?_
   try simp only [Act.put,Drawn.La,Drawn.Lb,Drawn.Lc]
   refine Drawn.ps 9 (some 109) rfl rfl (by assumption) ?_
   try simp only [Act.put,Drawn.La,Drawn.Lb,Drawn.Lc]
   refine Drawn.ps 10 (some 110) rfl rfl (by assumption) ?_
   try simp only [Act.put,Drawn.La,Drawn.Lb,Drawn.Lc]
   refine Drawn.ps 11 (some 111) rfl rfl (by assumption) ?_
   try simp only [Act.put,Drawn.La,Drawn.Lb,Drawn.Lc]
   refine Drawn.ps 12 (some 112) rfl rfl (by assumption) ?_
   try simp only [Act.put,Drawn.La,Drawn.Lb,Drawn.Lc]
   refine Drawn.ps 13 (some 113) rfl rfl (by assumption) ?_
   try simp only [Act.put,Drawn.La,Drawn.Lb,Drawn.Lc]
   refine Drawn.ps 14 (some 114) rfl rfl (by assumption) ?_
   try simp only [Act.put,Drawn.La,Drawn.Lb,Drawn.Lc]
   refine Drawn.ps 15 (some 115) rfl rfl (by assumption) ?_
   try simp only [Act.put,Drawn.La,Drawn.Lb,Drawn.Lc]
   refine Drawn.ps 16 (some 116) rfl rfl (by assumption) ?_
   try simp only [Act.put,Drawn.La,Drawn.Lb,Drawn.Lc]
   refine Drawn.T 17 (some 117) (h:=?_)
   refine Drawn.T 18 (some 6) (h:=?_)
   refine wpAnyH_done (by kernel_rfl) ?_ _
   go_wp2_with fail
   go_ret
   refine ⟨ret_bool ?_,hbw.drew⟩
   go_tidy
   rw [e1.out]
  ·have hr:=hp.out
   have hr1:=hp.out
   rw [within_rng] at hr1
   simp only [Int.sub_add_cancel] at hr1
   have hr2:0≤a∧a < f.classes.length:=by simpa [Form.rng] using hr1
   obtain ⟨k,rfl⟩:=Int.eq_ofNat_of_zero_le hr2.1
   have hk:k < f.classes.length:=by omega
   obtain ⟨b0,o0,rfl,hb0,he⟩:=cel k hk
   have hnf:Hid (Form.nf f.classes (k:Int)=(f.classes[k]).fields.length):=by
    show _=_
    rw [Form.nf,Int.toNat_natCast,Hier.at_eq hk]
   obtain ⟨x,hx⟩:=at_of hk
   rw [hx.out] at he hnf
   obtain ⟨_,_,fv,g3,fa,fcap,rfl,flc,fcc,_⟩:=he
   have z4:=kept hbw hb0 g3
   have fcI:(x.fields.length:Int)≤9223372036854775807:=by omega
   have hk0:(0:Int)≤(k:Int)∧(k:Int) < f.classes.length:=⟨by omega,by omega⟩
   have e1:Hid (Form.sins f.classes f.methods.length m.code.length m.locals ⟨op,(k:Int),b,c,n,args⟩=within b 0 ((x.fields.length:Int) - 1)):=by
    show _=_
    rw [within_rng]
    simp only [Int.sub_add_cancel]
    have hnf2:=hnf.out
    simp_all [Form.sins,Form.sa,Form.sb,Form.sn]
    done
   clear cel
   have hr3:=hr2.2
   refine Drawn.hd (fun w'=>w'.cell? ⟨w.heap.size+1+1,1,none⟩=some (.int .i64 (k:Int))∧w'.cell? ⟨w.heap.size+1+1,2,none⟩=some (.int .i64 b)∧w'.cell? ⟨w.heap.size,0,none⟩=some (.slice (some ⟨b0,o0,none⟩) f.classes.length ccap)∧w'.cell? ⟨b0,o0+k*2+1,none⟩=some (.slice fa x.fields.length fcap)) (hS:=by (try dsimp only);first | exact ⟨z1,z2,z3,z4⟩ | go_keep) (h:=fun hHeld=>?_)
   refine Drawn.T 0 (some 100) (h:=?_)
   refine Drawn.T 1 (some 101) (h:=?_)
   refine Drawn.T 2 (some 102) (h:=?_)
   refine Drawn.cl 3 (fun K hK=>?_)
   go_simp
   go_at_call 26
   refine (wiV _ _ _ _ _ hp.out).mono ?_
   rintro e w2 ⟨rfl,rfl⟩
   go_wp2_with fail
   refine Drawn.bk hK (hS:=by (try dsimp only);exact ⟨z1,z2,z3,z4⟩) (h:=fun hHeld=>?_)
   clear hK K
   refine Drawn.T 4 (some 104) (h:=?_)
   refine Drawn.T 5 (some 105) (h:=?_)
   refine Drawn.T 6 (some 106) (h:=?_)
   refine Drawn.T 7 (some 107) (h:=?_)
   refine Drawn.T 8 (some 108) (h:=?_)
   refine Drawn.T 9 (some 109) (h:=?_)
   refine Drawn.T 10 (some 110) (h:=?_)
   refine Drawn.T 11 (some 111) (h:=?_)
   refine Drawn.T 12 (some 112) (h:=?_)
   refine Drawn.T 13 (some 113) (h:=?_)
   refine Drawn.T 14 (some 114) (h:=?_)
   refine Drawn.T 15 (some 115) (h:=?_)
   refine Drawn.cl 16 (fun K hK=>?_)
   go_simp
   go_at_call 26
   refine (wi _ _ _ _).mono ?_
   rintro e w3 ⟨rfl,rfl⟩
   go_wp2_with fail
   refine Drawn.bk hK (hS:=by (try dsimp only);exact ⟨z1,z2,z3,z4⟩) (h:=fun hHeld=>?_)
   clear hK K
   refine Drawn.T 17 (some 117) (h:=?_)
   refine Drawn.T 18 (some 6) (h:=?_)
   refine wpAnyH_done (by kernel_rfl) ?_ _
   go_wp2_with fail
   go_ret
   refine ⟨ret_bool ?_,hbw.drew⟩
   go_tidy
   rw [e1.out,Num.wrap_i64,wrap64_id (show Ok ((x.fields.length:Int) - 1) from ⟨by omega,by omega⟩)]
 ·refine name_world (fun W=>Below w.heap.size w W∧W.cell? ⟨w.heap.size+1+1,1,none⟩=some (.int .i64 a)∧W.cell? ⟨w.heap.size+1+1,2,none⟩=some (.int .i64 b)∧W.cell? ⟨w.heap.size,0,none⟩=some (.slice ca f.classes.length ccap)) ?_ ?_
  ·refine ⟨Rd.byB,?_,?_,?_⟩
   all_goals go_simp
  rintro W ⟨hbw,z1,z2,z3⟩
  obtain ⟨p,hp⟩:∃ p,Hid (within a 0 ((f.classes.length:Int) - 1)=p):=⟨_,rfl⟩
  cases p
  ·have hr:=hp.out
   have hr1:=hp.out
   rw [within_rng] at hr1
   simp only [Int.sub_add_cancel] at hr1
   have e1:Hid (Form.sins f.classes f.methods.length m.code.length m.locals ⟨op,a,b,c,n,args⟩=false):=by
    show _=_
    simp_all [Form.sins,Form.sa,Form.sb,Form.sn]
   refine Drawn.hd (fun w'=>w'.cell? ⟨w.heap.size+1+1,1,none⟩=some (.int .i64 a)∧w'.cell? ⟨w.heap.size+1+1,2,none⟩=some (.int .i64 b)) (hS:=by (try dsimp only);first | exact ⟨z1,z2⟩ | go_keep) (h:=fun hHeld=>?_)
   refine Drawn.T 0 (some 100) (h:=?_)
   refine Drawn.T 1 (some 101) (h:=?_)
   refine Drawn.T 2 (some 102) (h:=?_)
   refine Drawn.cl 3 (fun K hK=>?_)
   go_simp
   go_at_call 26
   refine (wiV _ _ _ _ _ hp.out).mono ?_
   rintro e w2 ⟨rfl,rfl⟩
   go_wp2_with fail
   refine Drawn.bk hK (hS:=by (try dsimp only);exact ⟨z1,z2⟩) (h:=fun hHeld=>?_)
   clear hK K
   refine Drawn.T 4 (some 104) (h:=?_)
   refine Drawn.ps 5 (some 105) rfl rfl (by assumption) ?_
   try simp only [Act.put,Drawn.La,Drawn.Lb,Drawn.Lc]
   refine Drawn.ps 6 (some 106) rfl rfl (by assumption) ?_
   try simp only [Act.put,Drawn.La,Drawn.Lb,Drawn.Lc]
   refine Drawn.ps 7 (some 107) rfl rfl (by assumption) ?_
   try simp only [Act.put,Drawn.La,Drawn.Lb,Drawn.Lc]
   refine Drawn.ps 8 (some 108) rfl rfl (by assumption) ?_
   try simp only [Act.put,Drawn.La,Drawn.Lb,Drawn.Lc]
   refine Drawn.ps 9 (some 109) rfl rfl (by assumption) ?_
   try simp only [Act.put,Drawn.La,Drawn.Lb,Drawn.Lc]
   refine Drawn.ps 10 (some 110) rfl rfl (by assumption) ?_
   try simp only [Act.put,Drawn.La,Drawn.Lb,Drawn.Lc]
   refine Drawn.ps 11 (some 111) rfl rfl (by assumption) ?_
   try simp only [Act.put,Drawn.La,Drawn.Lb,Drawn.Lc]
   refine Drawn.ps 12 (some 112) rfl rfl (by assumption) ?_
   try simp only [Act.put,Drawn.La,Drawn.Lb,Drawn.Lc]
   refine Drawn.ps 13 (some 113) rfl rfl (by assumption) ?_
   try simp only [Act.put,Drawn.La,Drawn.Lb,Drawn.Lc]
   refine Drawn.ps 14 (some 114) rfl rfl (by assumption) ?_
   try simp only [Act.put,Drawn.La,Drawn.Lb,Drawn.Lc]
   refine Drawn.ps 15 (some 115) rfl rfl (by assumption) ?_
   try simp only [Act.put,Drawn.La,Drawn.Lb,Drawn.Lc]
   refine Drawn.ps 16 (some 116) rfl rfl (by assumption) ?_
   try simp only [Act.put,Drawn.La,Drawn.Lb,Drawn.Lc]
   refine Drawn.T 17 (some 117) (h:=?_)
   refine Drawn.T 18 (some 6) (h:=?_)
   refine wpAnyH_done (by kernel_rfl) ?_ _
   go_wp2_with fail
   go_ret
   refine ⟨ret_bool ?_,hbw.drew⟩
   go_tidy
   rw [e1.out]
  ·have hr:=hp.out
   have hr1:=hp.out
   rw [within_rng] at hr1
   simp only [Int.sub_add_cancel] at hr1
   have hr2:0≤a∧a < f.classes.length:=by simpa [Form.rng] using hr1
   obtain ⟨k,rfl⟩:=Int.eq_ofNat_of_zero_le hr2.1
   have hk:k < f.classes.length:=by omega
   obtain ⟨b0,o0,rfl,hb0,he⟩:=cel k hk
   have hnf:Hid (Form.nf f.classes (k:Int)=(f.classes[k]).fields.length):=by
    show _=_
    rw [Form.nf,Int.toNat_natCast,Hier.at_eq hk]
   obtain ⟨x,hx⟩:=at_of hk
   rw [hx.out] at he hnf
   obtain ⟨_,_,fv,g3,fa,fcap,rfl,flc,fcc,_⟩:=he
   have z4:=kept hbw hb0 g3
   have fcI:(x.fields.length:Int)≤9223372036854775807:=by omega
   have hk0:(0:Int)≤(k:Int)∧(k:Int) < f.classes.length:=⟨by omega,by omega⟩
   have e1:Hid (Form.sins f.classes f.methods.length m.code.length m.locals ⟨op,(k:Int),b,c,n,args⟩=within b 0 ((x.fields.length:Int) - 1)):=by
    show _=_
    rw [within_rng]
    simp only [Int.sub_add_cancel]
    have hnf2:=hnf.out
    simp_all [Form.sins,Form.sa,Form.sb,Form.sn]
    done
   clear cel
   have hr3:=hr2.2
   refine Drawn.hd (fun w'=>w'.cell? ⟨w.heap.size+1+1,1,none⟩=some (.int .i64 (k:Int))∧w'.cell? ⟨w.heap.size+1+1,2,none⟩=some (.int .i64 b)∧w'.cell? ⟨w.heap.size,0,none⟩=some (.slice (some ⟨b0,o0,none⟩) f.classes.length ccap)∧w'.cell? ⟨b0,o0+k*2+1,none⟩=some (.slice fa x.fields.length fcap)) (hS:=by (try dsimp only);first | exact ⟨z1,z2,z3,z4⟩ | go_keep) (h:=fun hHeld=>?_)
   refine Drawn.T 0 (some 100) (h:=?_)
   refine Drawn.T 1 (some 101) (h:=?_)
   refine Drawn.T 2 (some 102) (h:=?_)
   refine Drawn.cl 3 (fun K hK=>?_)
   go_simp
   go_at_call 26
   refine (wiV _ _ _ _ _ hp.out).mono ?_
   rintro e w2 ⟨rfl,rfl⟩
   go_wp2_with fail
   refine Drawn.bk hK (hS:=by (try dsimp only);exact ⟨z1,z2,z3,z4⟩) (h:=fun hHeld=>?_)
   clear hK K
   refine Drawn.T 4 (some 104) (h:=?_)
   refine Drawn.T 5 (some 105) (h:=?_)
   refine Drawn.T 6 (some 106) (h:=?_)
   refine Drawn.T 7 (some 107) (h:=?_)
   refine Drawn.T 8 (some 108) (h:=?_)
   refine Drawn.T 9 (some 109) (h:=?_)
   refine Drawn.T 10 (some 110) (h:=?_)
   refine Drawn.T 11 (some 111) (h:=?_)
   refine Drawn.T 12 (some 112) (h:=?_)
   refine Drawn.T 13 (some 113) (h:=?_)
   refine Drawn.T 14 (some 114) (h:=?_)
   refine Drawn.T 15 (some 115) (h:=?_)
   refine Drawn.cl 16 (fun K hK=>?_)
   go_simp
   go_at_call 26
   refine (wi _ _ _ _).mono ?_
   rintro e w3 ⟨rfl,rfl⟩
   go_wp2_with fail
   refine Drawn.bk hK (hS:=by (try dsimp only);exact ⟨z1,z2,z3,z4⟩) (h:=fun hHeld=>?_)
   clear hK K
   refine Drawn.T 17 (some 117) (h:=?_)
   refine Drawn.T 18 (some 6) (h:=?_)
   refine wpAnyH_done (by kernel_rfl) ?_ _
   go_wp2_with fail
   go_ret
   refine ⟨ret_bool ?_,hbw.drew⟩
   go_tidy
   rw [e1.out,Num.wrap_i64,wrap64_id (show Ok ((x.fields.length:Int) - 1) from ⟨by omega,by omega⟩)]
end FormR
namespace FormW
open Num Rd D HierW
theorem ret_bool3 {a b c d e f:Bool}(h1:a=d) (h2:b=e) (h3:c=f):Ending.returned (.tuple #[.bool a,.bool b,.bool c])=.returned (.tuple #[.bool d,.bool e,.bool f]):=by rw [h1,h2,h3]
set_option maxRecDepth 100000 in
theorem fields (f:Fi) (m:Me) (i:Ins) (vf vm vi:Value) (w:World) (hf:VFi w w.heap.size vf f) (hm:VMe w w.heap.size vm m) (hi:VIns w w.heap.size vi i) (hloc:0≤m.locals∧m.locals≤60) :
  Calls Tryz.prog 96 #[vf,vm,vi] w fun e w'=>e=.returned (.tuple #[.bool (Form.sa f.classes f.methods.length m.code.length m.locals i),.bool (Form.sb f.classes i),.bool (Form.sn i)])∧Below w.heap.size w w':=by
 obtain ⟨vc,vme,rfl,⟨ca,ccap,rfl,clc,ccc,cel⟩,⟨ma,mcap,rfl,mlc,mcc,_⟩⟩:=hf
 obtain ⟨vp,vcd,vh,rfl,⟨_,_,_,okl,_⟩,_,⟨da,dcap,rfl,dlc,dcc,_⟩,_⟩:=hm
 obtain ⟨va,rfl,⟨oop,oa,ob,oc,on⟩,_⟩:=hi
 obtain ⟨op,a,b,c,n,args⟩:=i
 simp only at *
 unfold Ok at *
 obtain ⟨hloc1,hloc2⟩:=hloc
 go_enter Tryz.func96,Tryz.ntmps96
 go_wp2
 go_quiet (fail)
 refine name_world (fun W=>Below w.heap.size w W∧w.heap.size+3≤W.heap.size ∧
  (W.cell? ⟨w.heap.size,0,none⟩=some (.slice ca f.classes.length ccap)∧W.cell? ⟨w.heap.size,1,none⟩=some (.slice ma f.methods.length mcap)) ∧
  (W.cell? ⟨w.heap.size+1,4,none⟩=some (.int .i64 m.locals)∧W.cell? ⟨w.heap.size+1,6,none⟩=some (.slice da m.code.length dcap)) ∧
  W.cell? ⟨w.heap.size+1+1,0,none⟩=some (.int .i64 op)∧W.cell? ⟨w.heap.size+1+1,1,none⟩=some (.int .i64 a)∧W.cell? ⟨w.heap.size+1+1,2,none⟩=some (.int .i64 b)∧W.cell? ⟨w.heap.size+1+1,4,none⟩=some (.int .i64 n))
  ?_ ?_
 ·refine ⟨Rd.byB,?_,⟨?_,?_⟩,⟨?_,?_⟩,?_,?_,?_,?_⟩
  all_goals go_simp
 rintro W ⟨hbw,hsz,⟨f1,f2⟩,⟨m1,m2⟩,i1,i2,i3,i4⟩
 have hbs:=Lib.hid hbw
 go_wp2_with (go_at_call 47;refine (sin _ _ _ _).mono ?_;rintro e w' ⟨rfl,rfl⟩)
 all_goals first
  | (
       go_ret3
       refine ⟨ret_bool3 ?_ ?_ ?_,Rd.byB⟩
       all_goals go_tidy
       all_goals simp_all [Form.sa,Form.sb,Form.sn]
       all_goals first | rfl | (intros;omega) | (rw [wrap64_id (wrap32_ok _),Bool.eq_iff_iff];simp;exact eq_comm))
  | skip
 ·have o1:Ok b:=ob
  have o2:Ok 0:=by unfold Ok;omega
  obtain ⟨S,hS⟩:∃ S,Hid (Form.slots [⟨b,0⟩]=S):=⟨_,rfl⟩
  have hS':Hid ((S:Int)=Form.wide b):=by show _=_;rw [← hS.out];exact slots_one b 0
  have hS2:(S:Int)≤2:=by rw [hS'.out];unfold Form.wide;split <;> omega
  go_region_held3 (fun w'=>w'.cell? ⟨w.heap.size+1+1,1,none⟩=some (.int .i64 a)∧w'.cell? ⟨w.heap.size+1+1,2,none⟩=some (.int .i64 b)∧w'.cell? ⟨w.heap.size+1,4,none⟩=some (.int .i64 m.locals))
   (first | exact ⟨i2,i3,m1⟩ | exact ⟨k2,k3,k1⟩ | go_keep)
   (first
   | (go_at_call 89;refine (slotsV _ [⟨b,0⟩] S _ (Ts.one (by go_simp) (by go_simp) o1 o2) (by simp) hS.out).mono ?_;rintro e w2 ⟨rfl,hb2⟩;have hbW:Below W.heap.size W w2:=Below.trans Rd.byB (hb2.mono (by simp));have k1:=kept hbW (by omega) m1;have k2:=kept hbW (by omega) i2;have k3:=kept hbW (by omega) i3)
   | (go_at_call 47;refine (sin _ _ _ _).mono ?_;rintro e w3 ⟨rfl,rfl⟩))
  go_wp2
  go_ret3
  have hS3:=hS'.out
  have hbW2:Below w.heap.size w w2:=hbs.out.trans (hbW.mono hbs.out.size)
  refine ⟨ret_bool3 ?_ ?_ ?_,hbW2⟩
  all_goals go_tidy
  ·rw [Num.wrap_i64,Num.wrap_i64,wrap64_id (show Ok (m.locals+1) from ⟨by omega,by omega⟩),wrap64_id (show Ok (m.locals+1 - S) from ⟨by omega,by omega⟩),hS3]
   simp_all [Form.sa]
  ·simp_all [Form.sb]
  ·simp_all [Form.sn]
   try rfl
 ·have o1:Ok b:=ob
  have o2:Ok 0:=by unfold Ok;omega
  obtain ⟨S,hS⟩:∃ S,Hid (Form.slots [⟨b,0⟩]=S):=⟨_,rfl⟩
  have hS':Hid ((S:Int)=Form.wide b):=by show _=_;rw [← hS.out];exact slots_one b 0
  have hS2:(S:Int)≤2:=by rw [hS'.out];unfold Form.wide;split <;> omega
  go_region_held3 (fun w'=>w'.cell? ⟨w.heap.size+1+1,1,none⟩=some (.int .i64 a)∧w'.cell? ⟨w.heap.size+1+1,2,none⟩=some (.int .i64 b)∧w'.cell? ⟨w.heap.size+1,4,none⟩=some (.int .i64 m.locals))
   (first | exact ⟨i2,i3,m1⟩ | exact ⟨k2,k3,k1⟩ | go_keep)
   (first
   | (go_at_call 89;refine (slotsV _ [⟨b,0⟩] S _ (Ts.one (by go_simp) (by go_simp) o1 o2) (by simp) hS.out).mono ?_;rintro e w2 ⟨rfl,hb2⟩;have hbW:Below W.heap.size W w2:=Below.trans Rd.byB (hb2.mono (by simp));have k1:=kept hbW (by omega) m1;have k2:=kept hbW (by omega) i2;have k3:=kept hbW (by omega) i3)
   | (go_at_call 47;refine (sin _ _ _ _).mono ?_;rintro e w3 ⟨rfl,rfl⟩))
  go_wp2
  go_ret3
  have hS3:=hS'.out
  have hbW2:Below w.heap.size w w2:=hbs.out.trans (hbW.mono hbs.out.size)
  refine ⟨ret_bool3 ?_ ?_ ?_,hbW2⟩
  all_goals go_tidy
  ·rw [Num.wrap_i64,Num.wrap_i64,wrap64_id (show Ok (m.locals+1) from ⟨by omega,by omega⟩),wrap64_id (show Ok (m.locals+1 - S) from ⟨by omega,by omega⟩),hS3]
   simp_all [Form.sa]
  ·simp_all [Form.sb]
  ·simp_all [Form.sn]
   try rfl
 ·obtain ⟨p,hp⟩:∃ p,Hid (Form.rng a 0 f.classes.length=p):=⟨_,rfl⟩
  rw [hp.out]
  cases p
  ·have hr:=hp.out
   go_quiet (fail)
   go_wp2
   go_ret3
   refine ⟨ret_bool3 ?_ ?_ ?_,Rd.byB⟩
   all_goals go_tidy
   all_goals simp_all [Form.sa,Form.sb,Form.sn]
   all_goals first | rfl | (intros;omega)
  ·have hr:=hp.out
   have hr2:0≤a∧a < f.classes.length:=by simpa [Form.rng] using hr
   obtain ⟨k,rfl⟩:=Int.eq_ofNat_of_zero_le hr2.1
   have hk:k < f.classes.length:=by omega
   obtain ⟨b0,o0,rfl,hb0,he⟩:=cel k hk
   have hnf:Hid (Form.nf f.classes (k:Int)=(f.classes[k]).fields.length):=by
    show _=_
    rw [Form.nf,Int.toNat_natCast,Hier.at_eq hk]
   obtain ⟨x,hx⟩:=at_of hk
   rw [hx.out] at he hnf
   obtain ⟨_,_,fv,g3,fa,fcap,rfl,flc,fcc,_⟩:=he
   have g4:=kept hbw hb0 g3
   clear cel g3
   have hr3:=hr2.2
   go_quiet ((go_at_call 47;exact Calls.quiet_of_same (sin' _ _ _ _)))
   go_wp2
   go_ret3
   refine ⟨ret_bool3 ?_ ?_ ?_,Rd.byB⟩
   all_goals go_tidy
   all_goals simp_all [Form.sa,Form.sb,Form.sn,hnf.out]
   all_goals first | rfl | (intros;omega)
 ·obtain ⟨p,hp⟩:∃ p,Hid (Form.rng a 0 f.classes.length=p):=⟨_,rfl⟩
  rw [hp.out]
  cases p
  ·have hr:=hp.out
   go_quiet (fail)
   go_wp2
   go_ret3
   refine ⟨ret_bool3 ?_ ?_ ?_,Rd.byB⟩
   all_goals go_tidy
   all_goals simp_all [Form.sa,Form.sb,Form.sn]
   all_goals first | rfl | (intros;omega)
  ·have hr:=hp.out
   have hr2:0≤a∧a < f.classes.length:=by simpa [Form.rng] using hr
   obtain ⟨k,rfl⟩:=Int.eq_ofNat_of_zero_le hr2.1
   have hk:k < f.classes.length:=by omega
   obtain ⟨b0,o0,rfl,hb0,he⟩:=cel k hk
   have hnf:Hid (Form.nf f.classes (k:Int)=(f.classes[k]).fields.length):=by
    show _=_
    rw [Form.nf,Int.toNat_natCast,Hier.at_eq hk]
   obtain ⟨x,hx⟩:=at_of hk
   rw [hx.out] at he hnf
   obtain ⟨_,_,fv,g3,fa,fcap,rfl,flc,fcc,_⟩:=he
   have g4:=kept hbw hb0 g3
   clear cel g3
   have hr3:=hr2.2
   go_quiet ((go_at_call 47;exact Calls.quiet_of_same (sin' _ _ _ _)))
   go_wp2
   go_ret3
   refine ⟨ret_bool3 ?_ ?_ ?_,Rd.byB⟩
   all_goals go_tidy
   all_goals simp_all [Form.sa,Form.sb,Form.sn,hnf.out]
   all_goals first | rfl | (intros;omega)
end FormW
namespace FormW
open Num Rd D HierW
theorem headV (f:Fi) (m:Me) (most:Int) (p:Bool) (vf vm:Value) (w:World) (hp:Form.head f.classes.length m most=p) (hf:VFi w w.heap.size vf f) (hm:VMe w w.heap.size vm m) (hmost:0≤most∧most≤100000) :
  Calls Tryz.prog 88 #[vf,vm,.int .i64 most] w fun e w'=>e=.returned (.bool p)∧Below w.heap.size w w':=by
 subst hp;exact head f m most vf vm w hf hm hmost
def B2 (w:World) (n:Nat) (v0 v1:Value):Prop:=w.cell? ⟨n,0,none⟩=some v0∧w.cell? ⟨n,1,none⟩=some v1
def B8 (w:World) (n:Nat) (v0 v1 v2 v3 v4 v5 v6 v7:Value):Prop:=w.cell? ⟨n,0,none⟩=some v0∧w.cell? ⟨n,1,none⟩=some v1∧w.cell? ⟨n,2,none⟩=some v2∧w.cell? ⟨n,3,none⟩=some v3 ∧
 w.cell? ⟨n,4,none⟩=some v4∧w.cell? ⟨n,5,none⟩=some v5∧w.cell? ⟨n,6,none⟩=some v6∧w.cell? ⟨n,7,none⟩=some v7
theorem B2.next {w w':World}{B n:Nat}{v0 v1:Value}(h:B2 w n v0 v1) (hb:Below B w w') (hlt:n < B):B2 w' n v0 v1:=⟨kept hb hlt h.1,kept hb hlt h.2⟩
theorem B8.next {w w':World}{B n:Nat}{v0 v1 v2 v3 v4 v5 v6 v7:Value}(h:B8 w n v0 v1 v2 v3 v4 v5 v6 v7) (hb:Below B w w') (hlt:n < B):B8 w' n v0 v1 v2 v3 v4 v5 v6 v7:=by
 obtain ⟨h0,h1,h2,h3,h4,h5,h6,h7⟩:=h
 exact ⟨kept hb hlt h0,kept hb hlt h1,kept hb hlt h2,kept hb hlt h3,kept hb hlt h4,kept hb hlt h5,kept hb hlt h6,kept hb hlt h7⟩
theorem mayV (v:Value) (l:List Cls) (p:Bool) (w:World) (hp:Hier.may l=p) (h:Cs w v l):Calls Tryz.prog 46 #[v] w fun e w'=>e=.returned (.bool p)∧Below w.heap.size w w':=by
 subst hp;exact may v l w h
end FormW
namespace FormW
open Num Rd D HierW
theorem fieldsV (f:Fi) (m:Me) (i:Ins) (pa pb pn:Bool) (vf vm vi:Value) (w:World) (ha:Form.sa f.classes f.methods.length m.code.length m.locals i=pa) (hb:Form.sb f.classes i=pb) (hn:Form.sn i=pn)
  (hf:VFi w w.heap.size vf f) (hm:VMe w w.heap.size vm m) (hi:VIns w w.heap.size vi i) (hloc:0≤m.locals∧m.locals≤60) :
  Calls Tryz.prog 96 #[vf,vm,vi] w fun e w'=>e=.returned (.tuple #[.bool pa,.bool pb,.bool pn])∧Below w.heap.size w w':=by
 subst ha hb hn;exact fields f m i vf vm vi w hf hm hi hloc
set_option maxRecDepth 100000 in
theorem method (f:Fi) (m:Me) (vf vm:Value) (w:World) (hf:VFi w w.heap.size vf f) (hm:VMe w w.heap.size vm m) :
  Calls Tryz.prog 48 #[vf,vm] w fun e w'=>e=.returned (.bool (Form.sme f m))∧Below w.heap.size w w':=by
 have hf0:=hf
 have hm0:=hm
 obtain ⟨vc,vme,rfl,_,_⟩:=hf
 obtain ⟨vp,vcd,vh,rfl,⟨ok1,ok2,ok3,ok4,ok5⟩,hpar,⟨da,dcap,rfl,dlc,dcc,del⟩,_⟩:=hm
 unfold Ok at ok1 ok2 ok3 ok4 ok5
 obtain ⟨pa,pcap,rfl,plc,pcc,pel⟩:=hpar
 have hts0:Ts w (.slice pa m.params.length pcap) m.params:=⟨pa,pcap,rfl,plc,pcc,pel⟩
 clear pel
 obtain ⟨S,hS⟩:∃ S,Hid (Form.slots m.params=S):=⟨_,rfl⟩
 obtain ⟨ph,hph⟩:∃ p,Hid (Form.head f.classes.length m 400=p):=⟨_,rfl⟩
 obtain ⟨pst,hps⟩:∃ p,Hid (Form.rng m.stack 0 31=p):=⟨_,rfl⟩
 obtain ⟨pl,hpl⟩:∃ p,Hid (Form.rng m.locals S 61=p):=⟨_,rfl⟩
 have hsme:Hid (Form.sme f m=(ph && decide (m.regs=0) && pst && pl && m.code.all (Form.sins f.classes f.methods.length m.code.length m.locals))):=by
  show _=_
  rw [← hph.out,← hps.out,← hpl.out,← hS.out];rfl
 go_enter Tryz.func48,Tryz.ntmps48
 go_wp2_with fail
 refine name_world (fun W=>Below w.heap.size w W∧w.heap.size+2≤W.heap.size∧B2 W w.heap.size vc vme∧B8 W (w.heap.size+1) (.slice pa m.params.length pcap) (.int .i64 m.ret.kind) (.int .i64 m.ret.cls) (.int .i64 m.stack) (.int .i64 m.locals) (.int .i64 m.regs) (.slice da m.code.length dcap) vh)
  ?_ ?_
 ·refine ⟨Rd.byB,?_,⟨?_,?_⟩,⟨?_,?_,?_,?_,?_,?_,?_,?_⟩⟩
  all_goals go_simp
 rintro W ⟨hbw,hsz,b2,b8⟩
 have hbs:=hbw.size
 have hfW:=hf0.mono hbw hbs
 have hmW:=hm0.mono hbw hbs
 have htW:=hts0.next hbw
 obtain ⟨f1,f2⟩:=b2
 obtain ⟨m0,m1,m2,m3,m4,m5,m6,m7⟩:=b8
 cases ph
 ·
  refine Drawn.hd (fun w'=>(w'.cell? ⟨w.heap.size,0,none⟩=some vc∧w'.cell? ⟨w.heap.size,1,none⟩=some vme)∧w'.cell? ⟨w.heap.size+1,0,none⟩=some (.slice pa m.params.length pcap)∧w'.cell? ⟨w.heap.size+1,1,none⟩=some (.int .i64 m.ret.kind)∧w'.cell? ⟨w.heap.size+1,2,none⟩=some (.int .i64 m.ret.cls)∧w'.cell? ⟨w.heap.size+1,3,none⟩=some (.int .i64 m.stack)∧w'.cell? ⟨w.heap.size+1,4,none⟩=some (.int .i64 m.locals)∧w'.cell? ⟨w.heap.size+1,5,none⟩=some (.int .i64 m.regs)∧w'.cell? ⟨w.heap.size+1,6,none⟩=some (.slice da m.code.length dcap)∧w'.cell? ⟨w.heap.size+1,7,none⟩=some (vh)) (hS:=by (try dsimp only);first | exact ⟨⟨f1,f2⟩,m0,m1,m2,m3,m4,m5,m6,m7⟩ | go_keep) (h:=fun hHeld=>?_)
  refine Drawn.T 0 (some 10) (h:=?_)
  refine Drawn.T 1 (some 11) (h:=?_)
  refine Drawn.cl 2 (fun K hK=>?_)
  go_simp
  go_at_call 88
  refine (headV f m 400 _ _ _ _ hph.out (hfW.mono Rd.byB (by simp)) (hmW.mono Rd.byB (by simp)) (by omega)).mono ?_
  rintro e w2 ⟨rfl,hb2⟩
  have hbW:Below W.heap.size W w2:=Below.trans Rd.byB (hb2.mono (by simp))
  have k2:=B2.next ⟨f1,f2⟩ hbW (by omega)
  have k8:=B8.next ⟨m0,m1,m2,m3,m4,m5,m6,m7⟩ hbW (by omega)
  go_wp2_with fail
  refine Drawn.bk hK (hS:=by (try dsimp only);exact ⟨k2,k8⟩) (h:=fun hHeld=>?_)
  clear hK K
  refine Drawn.T 3 (some 13) (h:=?_)
  refine Drawn.T 4 (some 14) (h:=?_)
  refine Drawn.ps 5 (some 15) rfl rfl (by assumption) ?_
  try simp only [Act.put,Drawn.La,Drawn.Lb,Drawn.Lc]
  refine Drawn.ps 6 (some 16) rfl rfl (by assumption) ?_
  try simp only [Act.put,Drawn.La,Drawn.Lb,Drawn.Lc]
  refine Drawn.ps 7 (some 17) rfl rfl (by assumption) ?_
  try simp only [Act.put,Drawn.La,Drawn.Lb,Drawn.Lc]
  refine Drawn.T 8 (some 18) (h:=?_)
  refine Drawn.T 9 (some 19) (h:=?_)
  refine Drawn.ps 10 (some 20) rfl rfl (by assumption) ?_
  try simp only [Act.put,Drawn.La,Drawn.Lb,Drawn.Lc]
  refine Drawn.ps 11 (some 21) rfl rfl (by assumption) ?_
  try simp only [Act.put,Drawn.La,Drawn.Lb,Drawn.Lc]
  refine Drawn.ps 12 (some 22) rfl rfl (by assumption) ?_
  try simp only [Act.put,Drawn.La,Drawn.Lb,Drawn.Lc]
  refine Drawn.ps 13 (some 23) rfl rfl (by assumption) ?_
  try simp only [Act.put,Drawn.La,Drawn.Lb,Drawn.Lc]
  refine Drawn.T 14 (some 24) (h:=?_)
  refine Drawn.T 15 (some 25) (h:=?_)
  refine Drawn.ps 16 (some 26) rfl rfl (by assumption) ?_
  try simp only [Act.put,Drawn.La,Drawn.Lb,Drawn.Lc]
  refine Drawn.ps 17 (some 27) rfl rfl (by assumption) ?_
  try simp only [Act.put,Drawn.La,Drawn.Lb,Drawn.Lc]
  refine Drawn.ps 18 (some 28) rfl rfl (by assumption) ?_
  try simp only [Act.put,Drawn.La,Drawn.Lb,Drawn.Lc]
  refine Drawn.ps 19 (some 29) rfl rfl (by assumption) ?_
  try simp only [Act.put,Drawn.La,Drawn.Lb,Drawn.Lc]
  refine Drawn.ps 20 (some 30) rfl rfl (by assumption) ?_
  try simp only [Act.put,Drawn.La,Drawn.Lb,Drawn.Lc]
  refine Drawn.ps 21 (some 31) rfl rfl (by assumption) ?_
  try simp only [Act.put,Drawn.La,Drawn.Lb,Drawn.Lc]
  refine Drawn.ps 22 (some 32) rfl rfl (by assumption) ?_
  try simp only [Act.put,Drawn.La,Drawn.Lb,Drawn.Lc]
  refine Drawn.T 23 (some 33) (h:=?_)
  refine wpAnyH_done (by kernel_rfl) ?_ _
  go_wp2
  go_ret
  exact ⟨ret_bool (by rw [hsme.out];rfl),hbw.trans (hbW.mono hbs)⟩
 ·have hreg:(m.regs != 0)=true∨(m.regs != 0)=false:=by cases (m.regs != 0) <;> simp
  rcases hreg with hreg | hreg
  ·
   have hz:decide (m.regs=0)=false:=by simpa using hreg
   refine Drawn.hd (fun w'=>(w'.cell? ⟨w.heap.size,0,none⟩=some vc∧w'.cell? ⟨w.heap.size,1,none⟩=some vme)∧w'.cell? ⟨w.heap.size+1,0,none⟩=some (.slice pa m.params.length pcap)∧w'.cell? ⟨w.heap.size+1,1,none⟩=some (.int .i64 m.ret.kind)∧w'.cell? ⟨w.heap.size+1,2,none⟩=some (.int .i64 m.ret.cls)∧w'.cell? ⟨w.heap.size+1,3,none⟩=some (.int .i64 m.stack)∧w'.cell? ⟨w.heap.size+1,4,none⟩=some (.int .i64 m.locals)∧w'.cell? ⟨w.heap.size+1,5,none⟩=some (.int .i64 m.regs)∧w'.cell? ⟨w.heap.size+1,6,none⟩=some (.slice da m.code.length dcap)∧w'.cell? ⟨w.heap.size+1,7,none⟩=some (vh)) (hS:=by (try dsimp only);first | exact ⟨⟨f1,f2⟩,m0,m1,m2,m3,m4,m5,m6,m7⟩ | go_keep) (h:=fun hHeld=>?_)
   refine Drawn.T 0 (some 10) (h:=?_)
   refine Drawn.T 1 (some 11) (h:=?_)
   refine Drawn.cl 2 (fun K hK=>?_)
   go_simp
   go_at_call 88
   refine (headV f m 400 _ _ _ _ hph.out (hfW.mono Rd.byB (by simp)) (hmW.mono Rd.byB (by simp)) (by omega)).mono ?_
   rintro e w2 ⟨rfl,hb2⟩
   have hbW:Below W.heap.size W w2:=Below.trans Rd.byB (hb2.mono (by simp))
   have k2:=B2.next ⟨f1,f2⟩ hbW (by omega)
   have k8:=B8.next ⟨m0,m1,m2,m3,m4,m5,m6,m7⟩ hbW (by omega)
   go_wp2_with fail
   refine Drawn.bk hK (hS:=by (try dsimp only);exact ⟨k2,k8⟩) (h:=fun hHeld=>?_)
   clear hK K
   refine Drawn.T 3 (some 13) (h:=?_)
   refine Drawn.T 4 (some 14) (h:=?_)
   refine Drawn.T 5 (some 15) (h:=?_)
   refine Drawn.T 6 (some 16) (h:=?_)
   refine Drawn.T 7 (some 17) (h:=?_)
   refine Drawn.T 8 (some 18) (h:=?_)
   refine Drawn.T 9 (some 19) (h:=?_)
   refine Drawn.ps 10 (some 20) rfl rfl (by assumption) ?_
   try simp only [Act.put,Drawn.La,Drawn.Lb,Drawn.Lc]
   refine Drawn.ps 11 (some 21) rfl rfl (by assumption) ?_
   try simp only [Act.put,Drawn.La,Drawn.Lb,Drawn.Lc]
   refine Drawn.ps 12 (some 22) rfl rfl (by assumption) ?_
   try simp only [Act.put,Drawn.La,Drawn.Lb,Drawn.Lc]
   refine Drawn.ps 13 (some 23) rfl rfl (by assumption) ?_
   try simp only [Act.put,Drawn.La,Drawn.Lb,Drawn.Lc]
   refine Drawn.T 14 (some 24) (h:=?_)
   refine Drawn.T 15 (some 25) (h:=?_)
   refine Drawn.ps 16 (some 26) rfl rfl (by assumption) ?_
   try simp only [Act.put,Drawn.La,Drawn.Lb,Drawn.Lc]
   refine Drawn.ps 17 (some 27) rfl rfl (by assumption) ?_
   try simp only [Act.put,Drawn.La,Drawn.Lb,Drawn.Lc]
   refine Drawn.ps 18 (some 28) rfl rfl (by assumption) ?_
   try simp only [Act.put,Drawn.La,Drawn.Lb,Drawn.Lc]
   refine Drawn.ps 19 (some 29) rfl rfl (by assumption) ?_
   try simp only [Act.put,Drawn.La,Drawn.Lb,Drawn.Lc]
   refine Drawn.ps 20 (some 30) rfl rfl (by assumption) ?_
   try simp only [Act.put,Drawn.La,Drawn.Lb,Drawn.Lc]
   refine Drawn.ps 21 (some 31) rfl rfl (by assumption) ?_
   try simp only [Act.put,Drawn.La,Drawn.Lb,Drawn.Lc]
   refine Drawn.ps 22 (some 32) rfl rfl (by assumption) ?_
   try simp only [Act.put,Drawn.La,Drawn.Lb,Drawn.Lc]
   refine Drawn.T 23 (some 33) (h:=?_)
   refine wpAnyH_done (by kernel_rfl) ?_ _
   go_wp2
   go_ret
   exact ⟨ret_bool (by rw [hsme.out];rw [hz];rfl),hbw.trans (hbW.mono hbs)⟩
  ·have hz:decide (m.regs=0)=true:=by simpa using hreg
   cases pst
   ·
    refine Drawn.hd (fun w'=>(w'.cell? ⟨w.heap.size,0,none⟩=some vc∧w'.cell? ⟨w.heap.size,1,none⟩=some vme)∧w'.cell? ⟨w.heap.size+1,0,none⟩=some (.slice pa m.params.length pcap)∧w'.cell? ⟨w.heap.size+1,1,none⟩=some (.int .i64 m.ret.kind)∧w'.cell? ⟨w.heap.size+1,2,none⟩=some (.int .i64 m.ret.cls)∧w'.cell? ⟨w.heap.size+1,3,none⟩=some (.int .i64 m.stack)∧w'.cell? ⟨w.heap.size+1,4,none⟩=some (.int .i64 m.locals)∧w'.cell? ⟨w.heap.size+1,5,none⟩=some (.int .i64 m.regs)∧w'.cell? ⟨w.heap.size+1,6,none⟩=some (.slice da m.code.length dcap)∧w'.cell? ⟨w.heap.size+1,7,none⟩=some (vh)) (hS:=by (try dsimp only);first | exact ⟨⟨f1,f2⟩,m0,m1,m2,m3,m4,m5,m6,m7⟩ | go_keep) (h:=fun hHeld=>?_)
    refine Drawn.T 0 (some 10) (h:=?_)
    refine Drawn.T 1 (some 11) (h:=?_)
    refine Drawn.cl 2 (fun K hK=>?_)
    go_simp
    go_at_call 88
    refine (headV f m 400 _ _ _ _ hph.out (hfW.mono Rd.byB (by simp)) (hmW.mono Rd.byB (by simp)) (by omega)).mono ?_
    rintro e w2 ⟨rfl,hb2⟩
    have hbW:Below W.heap.size W w2:=Below.trans Rd.byB (hb2.mono (by simp))
    have k2:=B2.next ⟨f1,f2⟩ hbW (by omega)
    have k8:=B8.next ⟨m0,m1,m2,m3,m4,m5,m6,m7⟩ hbW (by omega)
    go_wp2_with fail
    refine Drawn.bk hK (hS:=by (try dsimp only);exact ⟨k2,k8⟩) (h:=fun hHeld=>?_)
    clear hK K
    refine Drawn.T 3 (some 13) (h:=?_)
    refine Drawn.T 4 (some 14) (h:=?_)
    refine Drawn.T 5 (some 15) (h:=?_)
    refine Drawn.T 6 (some 16) (h:=?_)
    refine Drawn.T 7 (some 17) (h:=?_)
    refine Drawn.T 8 (some 18) (h:=?_)
    refine Drawn.T 9 (some 19) (h:=?_)
    refine Drawn.T 10 (some 20) (h:=?_)
    refine Drawn.T 11 (some 21) (h:=?_)
    refine Drawn.cl 12 (fun K hK=>?_)
    go_simp
    go_at_call 47
    refine (sinV _ _ _ _ _ hps.out).mono ?_
    rintro e w3 ⟨rfl,rfl⟩
    go_wp2_with fail
    refine Drawn.bk hK (hS:=by (try dsimp only);exact ⟨k2,k8⟩) (h:=fun hHeld=>?_)
    clear hK K
    refine Drawn.T 13 (some 23) (h:=?_)
    refine Drawn.T 14 (some 24) (h:=?_)
    refine Drawn.T 15 (some 25) (h:=?_)
    refine Drawn.ps 16 (some 26) rfl rfl (by assumption) ?_
    try simp only [Act.put,Drawn.La,Drawn.Lb,Drawn.Lc]
    refine Drawn.ps 17 (some 27) rfl rfl (by assumption) ?_
    try simp only [Act.put,Drawn.La,Drawn.Lb,Drawn.Lc]
    refine Drawn.ps 18 (some 28) rfl rfl (by assumption) ?_
    try simp only [Act.put,Drawn.La,Drawn.Lb,Drawn.Lc]
    refine Drawn.ps 19 (some 29) rfl rfl (by assumption) ?_
    try simp only [Act.put,Drawn.La,Drawn.Lb,Drawn.Lc]
    refine Drawn.ps 20 (some 30) rfl rfl (by assumption) ?_
    try simp only [Act.put,Drawn.La,Drawn.Lb,Drawn.Lc]
    refine Drawn.ps 21 (some 31) rfl rfl (by assumption) ?_
    try simp only [Act.put,Drawn.La,Drawn.Lb,Drawn.Lc]
    refine Drawn.ps 22 (some 32) rfl rfl (by assumption) ?_
    try simp only [Act.put,Drawn.La,Drawn.Lb,Drawn.Lc]
    refine Drawn.T 23 (some 33) (h:=?_)
    refine wpAnyH_done (by kernel_rfl) ?_ _
    go_wp2
    go_ret
    exact ⟨ret_bool (by rw [hsme.out];simp),hbw.trans (hbW.mono hbs)⟩
   ·
    have hp4:m.params.length≤4:=by
     have h:=hph.out
     simp only [Form.head,Bool.and_eq_true,decide_eq_true_eq] at h
     exact h.1.1.1.2
    refine Drawn.hd (fun w'=>(w'.cell? ⟨w.heap.size,0,none⟩=some vc∧w'.cell? ⟨w.heap.size,1,none⟩=some vme)∧w'.cell? ⟨w.heap.size+1,0,none⟩=some (.slice pa m.params.length pcap)∧w'.cell? ⟨w.heap.size+1,1,none⟩=some (.int .i64 m.ret.kind)∧w'.cell? ⟨w.heap.size+1,2,none⟩=some (.int .i64 m.ret.cls)∧w'.cell? ⟨w.heap.size+1,3,none⟩=some (.int .i64 m.stack)∧w'.cell? ⟨w.heap.size+1,4,none⟩=some (.int .i64 m.locals)∧w'.cell? ⟨w.heap.size+1,5,none⟩=some (.int .i64 m.regs)∧w'.cell? ⟨w.heap.size+1,6,none⟩=some (.slice da m.code.length dcap)∧w'.cell? ⟨w.heap.size+1,7,none⟩=some (vh)) (hS:=by (try dsimp only);first | exact ⟨⟨f1,f2⟩,m0,m1,m2,m3,m4,m5,m6,m7⟩ | go_keep) (h:=fun hHeld=>?_)
    refine Drawn.T 0 (some 10) (h:=?_)
    refine Drawn.T 1 (some 11) (h:=?_)
    refine Drawn.cl 2 (fun K hK=>?_)
    go_simp
    go_at_call 88
    refine (headV f m 400 _ _ _ _ hph.out (hfW.mono Rd.byB (by simp)) (hmW.mono Rd.byB (by simp)) (by omega)).mono ?_
    rintro e w2 ⟨rfl,hb2⟩
    have hbW:Below W.heap.size W w2:=Below.trans Rd.byB (hb2.mono (by simp))
    have k2:=B2.next ⟨f1,f2⟩ hbW (by omega)
    have k8:=B8.next ⟨m0,m1,m2,m3,m4,m5,m6,m7⟩ hbW (by omega)
    go_wp2_with fail
    refine Drawn.bk hK (hS:=by (try dsimp only);exact ⟨k2,k8⟩) (h:=fun hHeld=>?_)
    clear hK K
    refine Drawn.T 3 (some 13) (h:=?_)
    refine Drawn.T 4 (some 14) (h:=?_)
    refine Drawn.T 5 (some 15) (h:=?_)
    refine Drawn.T 6 (some 16) (h:=?_)
    refine Drawn.T 7 (some 17) (h:=?_)
    refine Drawn.T 8 (some 18) (h:=?_)
    refine Drawn.T 9 (some 19) (h:=?_)
    refine Drawn.T 10 (some 20) (h:=?_)
    refine Drawn.T 11 (some 21) (h:=?_)
    refine Drawn.cl 12 (fun K hK=>?_)
    go_simp
    go_at_call 47
    refine (sinV _ _ _ _ _ hps.out).mono ?_
    rintro e w3 ⟨rfl,rfl⟩
    go_wp2_with fail
    refine Drawn.bk hK (hS:=by (try dsimp only);exact ⟨k2,k8⟩) (h:=fun hHeld=>?_)
    clear hK K
    refine Drawn.T 13 (some 23) (h:=?_)
    refine Drawn.T 14 (some 24) (h:=?_)
    refine Drawn.T 15 (some 25) (h:=?_)
    refine Drawn.T 16 (some 26) (h:=?_)
    refine Drawn.T 17 (some 27) (h:=?_)
    refine Drawn.T 18 (some 28) (h:=?_)
    refine Drawn.T 19 (some 29) (h:=?_)
    refine Drawn.cl 20 (fun K hK=>?_)
    go_simp
    go_at_call 89
    refine (slotsV _ m.params S _ (htW.next hbW) (by omega) hS.out).mono ?_
    rintro e w4 ⟨rfl,hb4⟩
    have hbX:Below W.heap.size W w4:=hbW.trans (hb4.mono hbW.size)
    have x2:=B2.next ⟨f1,f2⟩ hbX (by omega)
    have x8:=B8.next ⟨m0,m1,m2,m3,m4,m5,m6,m7⟩ hbX (by omega)
    go_wp2_with fail
    refine Drawn.bk hK (hS:=by (try dsimp only);exact ⟨x2,x8⟩) (h:=fun hHeld=>?_)
    clear hK K
    refine Drawn.cl 21 (fun K hK=>?_)
    go_simp
    go_at_call 47
    refine (sinV _ _ _ _ _ hpl.out).mono ?_
    rintro e w5 ⟨rfl,rfl⟩
    go_wp2_with fail
    refine Drawn.bk hK (hS:=by (try dsimp only);exact ⟨x2,x8⟩) (h:=fun hHeld=>?_)
    clear hK K
    refine Drawn.T 22 (some 32) (h:=?_)
    refine Drawn.T 23 (some 33) (h:=?_)
    refine wpAnyH_done (by kernel_rfl) ?_ _
    have hbX2:Below w.heap.size w w4:=hbw.trans (hbX.mono hbs)
    have hbX3:=hbX2.size
    have hbX4:=hbX.size
    cases pl
    ·go_wp2
     go_ret
     exact ⟨ret_bool (by rw [hsme.out];simp),hbX2⟩
    ·have hloc:0≤m.locals∧m.locals≤60:=by
      have h:=hpl.out
      simp only [Form.rng,decide_eq_true_eq] at h
      omega
     have hsme2:Hid (Form.sme f m=m.code.all (Form.sins f.classes f.methods.length m.code.length m.locals)):=by
      show _=_
      rw [hsme.out,hz];rfl
     clear hsme f1 f2 m0 m1 m2 m3 m4 m5 m6 m7 k2 k8 htW hfW hmW hts0
     obtain ⟨f1,f2⟩:=x2
     obtain ⟨m0,m1,m2,m3,m4,m5,m6,m7⟩:=x8
     go_wp2_with fail
     go_loopw [37] (fun i wr=>∃ k:Nat,k≤m.code.length∧i=.int .i64 k∧Below w4.heap.size w4 wr∧Hid (∀ j (h:j < m.code.length),j < k→Form.sins f.classes f.methods.length m.code.length m.locals m.code[j]=true)) (fun i _=>m.code.length - (intOf i).toNat)
     case atStart=>exact ⟨0,by omega,rfl,Rd.byB,fun j _ h=>absurd h (by omega)⟩
     case round =>
      obtain ⟨k,hk,rfl,hq,hall⟩:=hrel
      have hqs:=hq.size
      have hwr:Below w.heap.size w wr:=hbX2.trans (hq.mono hbX3)
      have hwrs:=hwr.size
      have n3:w.heap.size < wr.heap.size:=by omega
      have n4:w.heap.size+1 < wr.heap.size:=by omega
      have c1:=kept hq (by omega) f1
      have c2:=kept hq (by omega) f2
      have c3:=kept hq (by omega) m0
      have c4:=kept hq (by omega) m1
      have c5:=kept hq (by omega) m2
      have c6:=kept hq (by omega) m3
      have c7:=kept hq (by omega) m4
      have c8:=kept hq (by omega) m5
      have c9:=kept hq (by omega) m6
      have c10:=kept hq (by omega) m7
      clear f1 f2 m0 m1 m2 m3 m4 m5 m6 m7
      by_cases hlt:k < m.code.length
      ·obtain ⟨b,o,rfl,hb,he⟩:=del k hlt
       have hyes:=Lib.hid (Form.all_step (p:=Form.sins f.classes f.methods.length m.code.length m.locals) hall.out hlt)
       have hno:=Lib.hid (Form.all_not (p:=Form.sins f.classes f.methods.length m.code.length m.locals) hlt)
       obtain ⟨t,ht⟩:=at_of hlt
       rw [ht.out] at he hyes hno
       obtain ⟨g1,g2,g3,g4,g5,oks,va,g6,gargs⟩:=he
       have hvi:VIns w w.heap.size (.agg #[.int .i64 t.op,.int .i64 t.a,.int .i64 t.b,.int .i64 t.c,.int .i64 t.n,va]) t:=⟨va,rfl,oks,gargs⟩
       obtain ⟨aa,acap,rfl,alc,acc,_⟩:=gargs
       have k1:=kept hwr hb g1
       have k2:=kept hwr hb g2
       have k3:=kept hwr hb g3
       have k4:=kept hwr hb g4
       have k5:=kept hwr hb g5
       have k6:=kept hwr hb g6
       obtain ⟨xa,hxa⟩:∃ p,Hid (Form.sa f.classes f.methods.length m.code.length m.locals t=p):=⟨_,rfl⟩
       obtain ⟨xb,hxb⟩:∃ p,Hid (Form.sb f.classes t=p):=⟨_,rfl⟩
       obtain ⟨xn,hxn⟩:∃ p,Hid (Form.sn t=p):=⟨_,rfl⟩
       have hins:Hid (Form.sins f.classes f.methods.length m.code.length m.locals t=(xa && xb && xn && decide (t.c=0) && decide (t.args.length=0))):=by
        show _=_
        rw [← hxa.out,← hxb.out,← hxn.out];rfl
       have hq2:=Lib.hid hq
       have hwr2:=Lib.hid hwr
       clear del g1 g2 g3 g4 g5 g6
       go_wp2_with (go_at_call 96;refine (fieldsV f m t xa xb xn _ _ _ _ hxa.out hxb.out hxn.out (hf0.mono Rd.byB (by simp;omega)) (hm0.mono Rd.byB (by simp;omega)) (hvi.mono Rd.byB (by simp;omega)) hloc).mono ?_;rintro e w6 ⟨rfl,hb6⟩;have hw6:Below wr.heap.size wr w6:=Below.trans Rd.byB (hb6.mono (by simp));have y4:w6.cell? ⟨wr.heap.size,3,none⟩=some (.int .i64 t.c):=kept hb6 (by simp) (by go_simp);have y6:w6.cell? ⟨wr.heap.size,5,none⟩=some (.slice aa t.args.length acap):=kept hb6 (by simp) (by go_simp))
       all_goals first
        | (
                   go_ret
                   refine ⟨ret_bool (hsme2.out.trans (hno.out ?_)).symm,hwr2.out.trans (hw6.mono hwrs)⟩
                   go_tidy
                   rw [hins.out]
                   first | (simp_all;done) | (rw [show decide (t.args.length=0)=false from decide_eq_false (by omega)];simp;done))
        | skip
       refine ⟨?_,?measure⟩
       iterate 39 apply Exists.intro
       refine ⟨?rel,rfl⟩
       case rel =>
        refine ⟨k+1,by omega,by go_num,hq2.out.trans (hw6.mono hqs),hyes.out ?_⟩
        go_tidy
        rw [hins.out]
        simp_all
       case measure=>simp [intOf];omega
      ·have hst:m.code.all (Form.sins f.classes f.methods.length m.code.length m.locals)=true:=Form.all_of (fun j hj=>hall.out j hj (by omega))
       have hst2:=Lib.hid hst
       clear hst hall del
       go_wp2
       go_ret
       exact ⟨ret_bool (by rw [hsme2.out,hst2.out]),hwr⟩
end FormW
end Go.Proofs.YtncmhenfgbcihabGreat
