/- Parts of the proof: Qd, Qe, Qg, Qr, FormW, FormF, FormH. -/
import Derived.Test.YtncmhenfgbcihabG10
import Derived.Test.YtncmhenfgbcihabG06
import Derived.Test.YtncmhenfgbcihabG03
import Derived.RegionTactic
import Derived.ChangeAlike
import Derived.Test.YtncmhenfgbcihabG01
import Derived.Test.YtncmhenfgbcihabG02
import Derived.Deep.RegionHeld3
import Derived.Deep.QuietTactic
import Derived.BigQuiet
import Derived.Deep.RegionWith
namespace Go.Proofs.Ytncmhenfgbcihab
open Go.RowKit
set_option linter.unusedSimpArgs false
set_option linter.unusedVariables false
namespace Hpw
open Num Rd D Run Mem HierW
section
variable {E : Ev} {w w' w1 w2 : World} {L L' L1 : Lay} {h h' h1 h2 : Hp} {d : Nat} {P : PS} {m m2 : Me} {fr fr' fr1 : Sf} {vs vs1 : Value}
set_option maxRecDepth 100000 in
set_option maxHeartbeats 2000000 in
theorem callRun (hm : Hier.may E.f.classes = true) (H : PH E w L h d) (X : Nat → Prop) {va : Value} (args : List Vl) {vp vc vh : Value} (hVM : VMe w E.B (.agg #[vp, .int .i64 m.ret.kind, .int .i64 m.ret.cls, .int .i64 m.stack, .int .i64 m.locals, .int .i64 m.regs, vc, vh]) m) (ha : VS w X va args) (hlen : args.length = m.params.length) (h4 : args.length ≤ 4) (hv : ∀ v ∈ args, VtOk h.objs.length v) (hc : allOf E.f.classes h args m.params = true) (hd : d < 20) (hX : ∀ j, own E L j → X j) (hml : m.locals < 61) (hsz : (size args : Int) ≤ m.locals) (b3 b4 b5 : Nat) (hb3 : ¬ own E L b3) (hb4 : ¬ own E L b4) (hb5 : ¬ own E L b5) (c3 : w.cell? ⟨b3, 0, none⟩ = some (.pointer (some ⟨E.hb, 0, none⟩))) (c5 : w.cell? ⟨b5, 0, none⟩ = some va) (B4 : Blk w b4 [vp, .int .i64 m.ret.kind, .int .i64 m.ret.cls, .int .i64 m.stack, .int .i64 m.locals, .int .i64 m.regs, vc, vh]) (r : Res Vl) (HO : HpOk E.f.classes E.input E.fuel h) (HS0 : SfB m h.objs.length (senter m args)) (g : Nat) (hr : loop SM E.f E.input E.fuel g (d + 1) m (senter m args) h = r) (hg : E.fuel < g + h.steps) (FS : FiS E.f) (hmm : m ∈ E.f.methods) (hfu : E.fuel ≤ 60000) (hin : E.input.length ≤ 1000) (KM : MachOk SM SfB E.f E.input E.fuel) (HIN : Hid (∀ (g : Nat) (h1 : Hp), E.fuel < g + h1.steps → InvOk E (d + 1) g h1)) :
    Calls Try.prog 120 #[.pointer (some ⟨E.hb,0,none⟩),.agg #[vp,.int .i64 m.ret.kind,.int .i64 m.ret.cls,.int .i64 m.stack,.int .i64 m.locals,.int .i64 m.regs,vc,vh],va,.func (.func 121) #[] #[.pointer (some ⟨b3,0,none⟩),.pointer (some ⟨b4,0,none⟩),.pointer (some ⟨b5,0,none⟩)]] w (InvR E L d w r):=by
  have HH:=Lib.hid H
  have hd1 : d ≤ 1000:=by omega
  have HVM:=Lib.hid hVM
  have HB4:=Lib.hid B4
  have HC3:=Lib.hid c3
  have HC5:=Lib.hid c5
  clear c3 c5 B4
  have HRR:=Lib.hid hr
  clear hr
  obtain ⟨vp',vc',vh',hmv',oks,sps,sco,shs⟩:=hVM
  obtain ⟨rfl,rfl,rfl⟩ : vp = vp' ∧ vc = vc' ∧ vh = vh':=by
    simp at hmv'
    exact ⟨hmv'.1,hmv'.2.1,hmv'.2.2⟩
  obtain ⟨pa,pcap,rfl,p1,p2,pel⟩:=id sps
  obtain ⟨ca,ccap,rfl,p3,p4,_⟩:=id sco
  obtain ⟨ha',hcap,rfl,p5,p6,_⟩:=id shs
  have HA:=Lib.hid ha
  obtain ⟨ax,acap,rfl,a1,a2⟩:=ha.len
  have PEL:=Lib.hid pel
  have hlq : ((args.length : Int) == (m.params.length : Int)) = true:=by rw [hlen];simp
  have hEB : E.B ≤ w.heap.size:=by have:=H.base;omega
  clear H ha hmv' sps sco shs pel
  go_enter_defers Try.func120,Try.ntmps120
  go_wp2_with fail
  refine (mustT _).mono ?_
  rintro e w2 ⟨rfl,rfl⟩
  go_wp2_with fail
  generalize hWW : World.alloc _ (.cells #[.int .i64 0,.int .i64 0] 118) = W
  replace hWW:=Lib.hid hWW
  have e0 : W.cell? ⟨w.heap.size,0,none⟩ = some (.pointer (some ⟨E.hb,0,none⟩)):=by rw [← hWW.out];go_simp
  have HB:=Lib.hid (show Below w.heap.size w W from by rw [← hWW.out];exact Rd.byB)
  have hsW : w.heap.size + 2 < W.heap.size:=by rw [← hWW.out];simp
  have X0:=Lib.hid (show Blk W w.heap.size [.pointer (some ⟨E.hb,0,none⟩)] from by rw [← hWW.out];exact ((Blk.made w [.pointer (some ⟨E.hb,0,none⟩)] _).alloc _).alloc _)
  have X1:=Lib.hid (show Blk W (w.heap.size + 1) [.slice pa m.params.length pcap,.int .i64 m.ret.kind,.int .i64 m.ret.cls,.int .i64 m.stack,.int .i64 m.locals,.int .i64 m.regs,.slice ca m.code.length ccap,.slice ha' m.handlers.length hcap] from by rw [← hWW.out];exact (Blk.made1 w _ [.slice pa m.params.length pcap,.int .i64 m.ret.kind,.int .i64 m.ret.cls,.int .i64 m.stack,.int .i64 m.locals,.int .i64 m.regs,.slice ca m.code.length ccap,.slice ha' m.handlers.length hcap] _).alloc _)
  have X2:=Lib.hid (show Blk W (w.heap.size + 2) [.int .i64 0,.int .i64 0] from by rw [← hWW.out];exact Blk.made2 w _ _ [.int .i64 0,.int .i64 0] _)
  clear hWW
  have HC:=Lib.hid hc
  clear hc
  go_loopw [28] (fun i wr=>∃ n : Nat,i = .int .i64 n ∧ n ≤ args.length ∧ Hid (Below W.heap.size W wr) ∧ Hid (allOf E.f.classes h args m.params = allOf E.f.classes h (args.drop n) (m.params.drop n))) (fun i _=>args.length - (intOf i).toNat)
  case atStart=>exact ⟨0,rfl,Nat.zero_le _,Lib.hid (Below.refl _ _),Lib.hid rfl⟩
  case round =>
    obtain ⟨n,rfl,hn,BW,HD⟩:=hrel
    by_cases hlt : n < args.length
    · have hltp : n < m.params.length:=by omega
      have hni : (n : Int) < m.params.length:=by omega
      have hni2 : (n : Int) < args.length:=by omega
      obtain ⟨pb,po,rfl,hpb,hpe⟩:=PEL.out n hltp
      obtain ⟨ab,ao,acap',heq,hc1,hc2,hab,hnx,hel⟩:=HA.out.form (by omega)
      simp only [Value.slice.injEq] at heq
      obtain ⟨rfl,_,rfl⟩:=heq
      obtain ⟨z0,z1⟩:=hel n hlt
      obtain ⟨v,hvv⟩:=at_of hlt
      obtain ⟨t,htt⟩:=at_of hltp
      rw [hvv.out] at z0 z1
      rw [htt.out] at hpe
      obtain ⟨y0,y1,_,_⟩:=hpe
      have hv3 : v.kind = 3 → v.n < h.objs.length:=fun e=>by
        have hmem : v ∈ args:=by rw [← hvv.out];exact List.getElem_mem hlt
        exact ((hv v hmem).1.2.2.2 e).2
      have HBr:=Lib.hid (HB.out.trans (BW.out.mono (by omega)))
      have x0:=kept HBr.out (by omega) z0
      have x1:=kept HBr.out (by omega) z1
      have t0:=kept HBr.out (by omega) y0
      have t1:=kept HBr.out (by omega) y1
      have e0':=kept BW.out (by omega) e0
      have q0:=cell_lt x0
      have q1:=cell_lt t0
      have q2:=cell_lt e0'
      obtain ⟨tk,tc⟩:=t
      obtain ⟨vk,vn⟩:=v
      clear z0 z1 y0 y1 hel e0
      simp only at t0 t1 x0 x1
      go_wp2_with fail
      refine wp_region_noPanic ?_
      refine wp_region_held_drew (S:=fun w'=>w'.cell? ⟨w.heap.size,0,none⟩ = some (.pointer (some ⟨E.hb,0,none⟩)) ∧ w'.cell? ⟨ab,ao + n * 2,none⟩ = some (.int .i64 vk) ∧ w'.cell? ⟨ab,ao + n * 2 + 1,none⟩ = some (.int .i64 vn) ∧ w'.cell? ⟨wr.heap.size,0,none⟩ = some (.int .i64 tk) ∧ w'.cell? ⟨wr.heap.size,1,none⟩ = some (.int .i64 tc)) (by kernel_rfl) (by (try dsimp only);refine ⟨?_,?_,?_,?_,?_⟩ <;> go_simp) (fun hHeld=>?_)
      refine Drawn.tk 0 (some 33) rfl rfl (by assumption) ?_
      try simp only [Act.put,List.setIfInBounds_toArray,List.set_cons_zero,List.set_cons_succ]
      refine Drawn.tk 1 (some 34) rfl rfl (by assumption) ?_
      try simp only [Act.put,List.setIfInBounds_toArray,List.set_cons_zero,List.set_cons_succ]
      refine Drawn.tk 2 (some 35) rfl rfl (by assumption) ?_
      try simp only [Act.put,List.setIfInBounds_toArray,List.set_cons_zero,List.set_cons_succ]
      refine Drawn.tk 3 (some 36) rfl rfl (by assumption) ?_
      try simp only [Act.put,List.setIfInBounds_toArray,List.set_cons_zero,List.set_cons_succ]
      refine Drawn.tk 4 (some 37) rfl rfl (by assumption) ?_
      try simp only [Act.put,List.setIfInBounds_toArray,List.set_cons_zero,List.set_cons_succ]
      refine Drawn.tk 5 (some 38) rfl rfl (by assumption) ?_
      try simp only [Act.put,List.setIfInBounds_toArray,List.set_cons_zero,List.set_cons_succ]
      refine wpAnyH_ready (rs:=[6]) (by kernel_rfl) (by simp) ?_
      refine AllReadyH.cons rfl (fun K hK=>?_) AllReadyH.nil
      go_simp
      refine (of E L h d ⟨vk,vn⟩ ⟨tk,tc⟩ _ (HH.out.below (w':=(wr.alloc (.cells #[.int .i64 tk,.int .i64 tc] 51)).drew) (by have hb:=HBr.out;exact Rd.byB)) hm hv3).mono ?_
      rintro e w3 ⟨rfl,hb3⟩
      obtain ⟨p,hp⟩ : ∃ p,Hid (ofT E.f.classes h ⟨vk,vn⟩ ⟨tk,tc⟩ = p):=⟨_,Lib.hid rfl⟩
      rw [hp.out]
      have kk : ∀ (b o : Nat) (u : Value),World.cell? _ ⟨b,o,none⟩ = some u → w3.cell? ⟨b,o,none⟩ = some u:=fun b o u hc=>kept hb3 (cell_lt hc) hc
      have k0:=kk w.heap.size 0 (.pointer (some ⟨E.hb,0,none⟩)) (by go_simp)
      have k1:=kk ab (ao + n * 2) (.int .i64 vk) (by go_simp)
      have k2:=kk ab (ao + n * 2 + 1) (.int .i64 vn) (by go_simp)
      have k3:=kk wr.heap.size 0 (.int .i64 tk) (by go_simp)
      have k4:=kk wr.heap.size 1 (.int .i64 tc) (by go_simp)
      have HB3:=Lib.hid (show Below wr.heap.size wr w3 from Below.trans (by exact Rd.byB) (hb3.mono Rd.byL))
      clear kk hb3
      go_wp2_with fail
      refine hK.out _ _ (by (try dsimp only);exact ⟨k0,k1,k2,k3,k4⟩) (fun hHeld=>?_)
      clear hK K
      try simp only [Act.put,Drawn.La,Drawn.Lb,Drawn.Lc]
      refine wpAnyH_ready (rs:=[7]) (by kernel_rfl) (by simp) ?_
      refine AllReadyH.cons rfl (fun K hK=>?_) AllReadyH.nil
      go_simp
      cases p with
      | false =>
        exfalso
        have h1:=HD.out
        rw [HC.out,List.drop_eq_getElem_cons hlt,List.drop_eq_getElem_cons hltp,hvv.out,htt.out] at h1
        simp [allOf,hp.out] at h1
      | true =>
        refine (mustT _).mono ?_
        rintro e w4 ⟨rfl,rfl⟩
        go_wp2_with fail
        refine hK.out _ _ (by (try dsimp only);exact ⟨k0,k1,k2,k3,k4⟩) (fun hHeld=>?_)
        clear hK K
        try simp only [Act.put,Drawn.La,Drawn.Lb,Drawn.Lc]
        refine wpAnyH_done (by kernel_rfl) ?_ _
        refine NoPanic.normal ?_
        go_wp2_with fail
        go_roundw
        case rel =>
          refine ⟨n + 1,by go_num,hlt,Lib.hid (BW.out.trans (HB3.out.mono BW.out.size)),?_⟩
          show _ = _
          rw [HD.out,List.drop_eq_getElem_cons hlt,List.drop_eq_getElem_cons hltp,hvv.out,htt.out]
          simp [allOf,hp.out]
        case measure=>first | (simp [intOf];done) | (simp [intOf];omega)
    · obtain rfl : n = args.length:=by omega
      have hn2 : ¬ ((args.length : Int) < m.params.length):=by omega
      have hn3 : ¬ (args.length < m.params.length):=by omega
      have HBr:=Lib.hid (HB.out.trans (BW.out.mono (by omega)))
      have c10:=(HH.out.below HBr.out).c10
      have e0':=kept BW.out (by omega) e0
      have hdd : decide ((20 : Int) ≤ d) = false:=by simp;omega
      have f10:=(HH.out.below HBr.out).fz 10 (by decide)
      have hhb:=(HH.out.below HBr.out).hbw
      have hwd : IntKind.i64.wrap ((d : Int) + 1) = ((d + 1 : Nat) : Int):=by rw [Num.wrap_i64,wrap64_id (by unfold Ok;omega)];omega
      have hwd2 : wrap64 ((d : Int) + 1) = ((d + 1 : Nat) : Int):=by rw [wrap64_id (by unfold Ok;omega)];omega
      have hmf : ∀ (fn : Fn) (first cap : Array Value) (w : World),(Instr.makeFunc fn first cap).run Try.prog w = .ok (.func fn first cap) w:=fun _ _ _ _=>rfl
      clear e0
      go_wp2_with fail
      have hbE:=(HH.out).base
      have KW:=Lib.hid (show Kp (· = E.hb) w (wr.setCell ⟨E.hb,10,none⟩ (.int .i64 ((d : Int) + 1))) from (Kp.of_below (X:=(· = E.hb)) HBr.out (Nat.le_refl _)).setCell (p:=⟨E.hb,10,none⟩) (.inl rfl) _)
      have HD1:=Lib.hid (show PH E (wr.setCell ⟨E.hb,10,none⟩ (.int .i64 ((d : Int) + 1))) L h (d + 1) from by
        have:=(HH.out.below HBr.out).deep (d + 1)
        rw [show ((d + 1 : Nat) : Int) = (d : Int) + 1 from by omega] at this
        exact this)
      have ne3 : b3 ≠ E.hb:=fun e=>hb3 (.inl e)
      have ne4 : b4 ≠ E.hb:=fun e=>hb4 (.inl e)
      have ne5 : b5 ≠ E.hb:=fun e=>hb5 (.inl e)
      refine (beginP HD1.out X args (HVM.out.mono (KW.out.below hEB (fun k e=>by rw [e];exact hbE.1)) (Nat.le_refl _)) (HA.out.next KW.out (fun b _ e=>by rw [e];exact hX _ (.inl rfl)) (fun _ _ e=>e)) h4 hml hsz hv b3 b4 b5 (KW.out.cell HC3.out ne3) (KW.out.cell HC5.out ne5) _ _ _ rfl (HB4.out.next KW.out ne4)).mono ?_
      rintro e w5 ⟨P,rfl,hb5,S5,g1,g2⟩
      unfold frV
      have e0w:=kept hb5 (by have:=cell_lt e0';simp;omega) (show World.cell? (wr.setCell ⟨E.hb,10,none⟩ (.int .i64 ((d : Int) + 1))) ⟨w.heap.size,0,none⟩ = some (.pointer (some ⟨E.hb,0,none⟩)) from by go_simp)
      replace S5:=Lib.hid S5
      replace hb5:=Lib.hid hb5
      go_wp2_with fail
      generalize hW9 : World.alloc w5 _ = W9
      replace hW9:=Lib.hid hW9
      have t0 : W9.cell? ⟨w5.heap.size,0,none⟩ = some (.func (.func 124) #[.pointer (some ⟨P.cb,0,none⟩)] #[]):=by rw [← hW9.out];go_simp
      have t1 : W9.cell? ⟨w5.heap.size,1,none⟩ = some (.func (.func 125) #[.pointer (some ⟨P.cb,0,none⟩)] #[]):=by rw [← hW9.out];go_simp
      have t2 : W9.cell? ⟨w5.heap.size,2,none⟩ = some (.func (.func 126) #[.pointer (some ⟨P.cb,0,none⟩)] #[]):=by rw [← hW9.out];go_simp
      have hb9 : Below w5.heap.size w5 W9:=by rw [← hW9.out];exact Rd.byB
      have S9:=Lib.hid (S5.out.below hb9)
      have e09:=kept hb9 (cell_lt e0w) e0w
      clear hW9
      have K9:=Lib.hid (show Kp (own E L) w W9 from ((KW.out.mono (fun k e=>.inl e)).trans (Kp.of_below (X:=fun _=>False) hb5.out (Nat.le_refl _)) (fun _ e=>e.elim)).trans (Kp.of_below (X:=fun _=>False) hb9 (Nat.le_refl _)) (fun _ e=>e.elim))
      have hbig : W.heap.size ≤ (wr.setCell ⟨E.hb,10,none⟩ (.int .i64 ((d : Int) + 1))).heap.size:=by simp;exact BW.out.size
      have hlow:=Lib.hid (fun (b : Nat) (cs : List Value) (l1 : w.heap.size ≤ b) (l2 : b < W.heap.size) (hB : Blk W b cs)=>(show Blk W9 b cs ∧ ¬ fo E L P (.slice none 0 0) b from
        ⟨((((hB.next (Kp.of_below (X:=fun _=>False) BW.out (Nat.le_refl _)) (fun e=>e)).far (b2:=E.hb) (o2:=10) (by have:=HH.out.hbw;omega) _).next (Kp.of_below (X:=fun _=>False) hb5.out (Nat.le_refl _)) (fun e=>e)).next (Kp.of_below (X:=fun _=>False) hb9 (Nat.le_refl _)) (fun e=>e)),notFo HH.out g1 g2 l1 (by omega)⟩))
      have gw : w.heap.size ≤ P.cb ∧ w.heap.size ≤ P.lb:=by omega
      have hs9 : w.heap.size + 2 < W9.heap.size:=by have q1:=hb5.out.size;have q2:=hb9.size;omega
      go_loopw [15] (fun _ wr2=>∃ L2 h2 fr vs2 g2,Hid (Gr E L P (.slice none 0 0) W9 L2 vs2 wr2) ∧ Hid (ST E wr2 L2 P m (d + 1) h2 fr vs2) ∧ Hid (HpOk E.f.classes E.input E.fuel h2) ∧ Hid (SfB m h2.objs.length fr) ∧ Hid (loop SM E.f E.input E.fuel g2 (d + 1) m fr h2 = r) ∧ E.fuel < g2 + h2.steps) (fun _ wr2=>E.fuel - (match wr2.cell? ⟨E.hb,7,none⟩ with | some (.int _ n)=>n.toNat | _=>0))
      case atStart=>exact ⟨L,h,senter m args,.slice none 0 0,g,Lib.hid ⟨Kp.refl _ _,fun _ e=>.inl e,fun _ e=>.inl e⟩,S9,Lib.hid HO,Lib.hid HS0,HRR,hg⟩
      case round =>
        obtain ⟨L2,h2,fr,vs2,g2,G2,S2,HO2,SO2,HR2,hg2⟩:=hrel
        obtain ⟨g3,rfl⟩ : ∃ g3,g2 = g3 + 1:=⟨g2 - 1,by have:=HO2.out.steps;omega⟩
        have nfF:=S5.out.fo_new (Nat.le_refl _)
        have lF:=cell_lt t0
        have y0:=G2.out.cell nfF t0
        have y1:=G2.out.cell nfF t1
        have y2:=G2.out.cell nfF t2
        have nfF2:=G2.out.nf lF nfF
        obtain ⟨ou,hou⟩ : ∃ x,Hid (outS SM E.f E.input E.fuel g3 (d + 1) m fr h2 = x):=⟨_,Lib.hid rfl⟩
        have hdo : ∀ (W L3 : _) (vs3 : Value),ST E W L3 P m (d + 1) h2 fr vs3 → Calls Try.prog 124 #[.pointer (some ⟨P.cb,0,none⟩)] W (DoR E L3 P m (d + 1) vs3 fr W ou):=fun W L3 vs3 hS=>by
          rw [← hou.out]
          exact doP FS hmm hS HO2.out SO2.out.1 SO2.out.2 hfu hin g3 (HIN.out g3 (stepped h2) (by show E.fuel < g3 + (h2.steps + 1);omega))
        have HDO:=Lib.hid hdo
        have SS2:=Lib.hid S2.out
        clear hdo S2 t0 t1 t2
        have lF2:=cell_lt y0
        go_wp2_with fail
        refine (tryP (w0:=wr) (b11:=w5.heap.size) (b12:=wr.heap.size) (b13:=wr.heap.size + 1) SS2.out (by exact Rd.byB) ⟨Nat.le_refl _,by simp;omega⟩ ⟨by omega,by simp⟩ (by omega) (by go_simp) (by go_simp) (by go_simp) (by go_simp) (by go_simp) (by go_simp) (by go_simp) ou (fun W hb=>HDO.out W _ _ (SS2.out.below (Below.trans (by exact Rd.byB) (hb.mono Rd.byL))))).mono ?_
        rintro e w6 R
        cases ou with
        | go fr' h' =>
          obtain ⟨rfl,z12,A⟩:=R
          have hok : h2.steps < E.fuel ∧ OutOk SfB E.f E.input E.fuel m { h2 with steps:=h2.steps + 1 } (.go fr' h'):=by
            rcases outS_ok (g:=g3) (d:=d + 1) KM hmm HO2.out SO2.out with ⟨c,h9,e9⟩ | q
            · rw [hou.out] at e9;cases e9
            · rw [hou.out] at q;exact q
          obtain ⟨hq1,⟨hq2,_,hq3⟩,hq4⟩:=hok
          have hrn : loop SM E.f E.input E.fuel g3 (d + 1) m fr' h' = r:=by
            have e:=HR2.out
            rw [loop_out sm_same,hou.out] at e
            exact e
          have c7a:=SS2.out.H.c7
          obtain ⟨L4,v4,G4,S4⟩:=A.opn
          have c7b:=S4.H.c7
          have hq3' : h2.steps + 1 ≤ h'.steps:=hq3
          have HX1:=Lib.hid (show Gr E L P (.slice none 0 0) W9 L4 v4 w6 from G2.out.trans G4)
          have HX2:=Lib.hid S4
          have HX3:=Lib.hid hrn
          have HX4:=Lib.hid hq2
          have HX5:=Lib.hid hq4
          clear A G4 S4 hrn hq2 hq4 hq3
          go_wp2_with fail
          refine ⟨⟨L4,h',fr',v4,g3,HX1,HX2,HX4,HX5,HX3,by omega⟩,?_⟩
          rw [c7a,c7b]
          simp only [Int.toNat_natCast]
          omega
        | back v h' =>
          obtain ⟨rfl,z12,z130,z131,st,A⟩:=R
          have hrn : r = .ok v h':=by
            have e:=HR2.out
            rw [loop_out sm_same,hou.out] at e
            exact e.symm
          obtain ⟨vk,vn⟩:=v
          simp only at z130 z131
          have A9:=Lib.hid (G2.out.comp A)
          obtain ⟨L4,v4,G4,S4⟩:=A9.out.opn
          obtain ⟨q0,n0⟩:=hlow.out _ _ (by omega) (by omega) X0.out
          obtain ⟨q2,n2⟩:=hlow.out _ _ (by omega) (by omega) X2.out
          have b0c:=((q0.next G4.kp n0) 0 (by simp)).1
          have r0:=((q2.next G4.kp n2) 0 (by simp)).1
          have r1:=((q2.next G4.kp n2) 1 (by simp)).1
          have f0:=((q2.next G4.kp n2) 0 (by simp)).2
          have f1:=((q2.next G4.kp n2) 1 (by simp)).2
          simp only [List.getElem_cons_zero,List.getElem_cons_succ] at b0c r0 r1
          have A10:=Lib.hid (Lft.ofS2 HH.out K9.out gw.1 gw.2 A9.out.stop (b:=w.heap.size + 1 + 1) (by omega) (by omega) (.int .i64 vk) (.int .i64 vn))
          clear A G4 S4 q0 q2 n0 n2
          have l0:=cell_lt b0c
          have l2:=cell_lt r0
          have nh : w.heap.size + 1 + 1 ≠ E.hb:=by have:=HH.out.hbw;omega
          have nh2:=nh.symm
          go_wp2_with fail
          obtain ⟨L5,K5,N5,H5⟩:=A10.out
          refine leaves_cons (f:=173) (args:=#[.pointer (some ⟨w.heap.size,0,none⟩)]) (by simp) (by simp [go_sem]) ?_
          refine (leaveP w.heap.size _ H5 hd1 (by go_simp)).mono ?_
          rintro e u' w'' ⟨rfl,rfl,rfl⟩
          simp [Leaves,settle,results,Try.results120,go_sem,r0,r1,l2,nh,nh2]
          have hret:=Lib.hid (show InvR E L d w r (Ending.returned (.agg #[.int .i64 vk,.int .i64 vn])) ((((w6.setCell ⟨w.heap.size + 1 + 1,0,none⟩ (.int .i64 vk)).setCell ⟨w.heap.size + 1 + 1,1,none⟩ (.int .i64 vn)).setCell ⟨E.hb,10,none⟩ (.int .i64 d))) from by
            rw [hrn]
            exact ⟨rfl,Lft.deep ⟨L5,K5,N5,H5⟩ d⟩)
          exact hret.out
        | thrown o h' =>
          obtain ⟨rfl,z12,st,L4,v4,G4a,S4a,nb12⟩:=R
          have hok : h2.steps < E.fuel ∧ OutOk SfB E.f E.input E.fuel m { h2 with steps:=h2.steps + 1 } (.thrown o h'):=by
            rcases outS_ok (g:=g3) (d:=d + 1) KM hmm HO2.out SO2.out with ⟨c,h9,e9⟩ | q
            · rw [hou.out] at e9;cases e9
            · rw [hou.out] at q;exact q
          obtain ⟨hq1,⟨hq2,hqo,hq3⟩,hq4⟩:=hok
          have hq3' : h2.steps + 1 ≤ h'.steps:=hq3
          have c7a:=SS2.out.H.c7
          have GX:=Lib.hid (show Gr E L P (.slice none 0 0) W9 L4 v4 w6 from G2.out.trans G4a)
          obtain ⟨q0,n0⟩:=hlow.out _ _ (by omega) (by omega) X0.out
          obtain ⟨q1,n1⟩:=hlow.out _ _ (by omega) (by omega) X1.out
          have b0c:=((q0.next GX.out.kp n0) 0 (by simp)).1
          have mX:=q1.next GX.out.kp n1
          have m0:=(mX 0 (by simp)).1
          have m1:=(mX 1 (by simp)).1
          have m2:=(mX 2 (by simp)).1
          have m3:=(mX 3 (by simp)).1
          have m4:=(mX 4 (by simp)).1
          have m5:=(mX 5 (by simp)).1
          have m6:=(mX 6 (by simp)).1
          have m7:=(mX 7 (by simp)).1
          simp only [List.getElem_cons_zero,List.getElem_cons_succ] at b0c m0 m1 m2 m3 m4 m5 m6 m7
          have y1':=G4a.cell nfF2 y1
          have y2':=G4a.cell nfF2 y2
          have SX:=Lib.hid S4a
          have shX:=Lib.hid (show Sl 4 EHd w6 E.B (.slice ha' m.handlers.length hcap) m.handlers from by
            obtain ⟨L5,K5,_,_⟩:=Lft.ofS K9.out gw.1 gw.2 (GX.out.lft S4a).stop
            obtain ⟨vp9,vc9,vh9,e9,_,_,_,shs9⟩:=HVM.out
            simp at e9
            obtain ⟨_,_,rfl⟩:=e9
            exact shs9.mono mHd (K5.below hEB (fun k hk=>(own_lo HH.out hk).1)) (Nat.le_refl _))
          obtain ⟨x,hx⟩ : ∃ x,Hid (handler E.f.classes m fr.at_ (obj h' o).cls = x):=⟨_,Lib.hid rfl⟩
          have l0:=cell_lt b0c
          have l1:=cell_lt m0
          have l5:=cell_lt y1'
          have l12:=cell_lt z12
          clear q0 q1 n0 n1 mX G4a S4a
          cases x with
          | none =>
            have hrr : r = .thrown o h':=by
              have ea : after SM E.f m fr o h' = .thrown:=by
                unfold after
                rw [show SM.at_ fr = fr.at_ from rfl,hx.out]
              have e:=HR2.out
              rw [loop_out sm_same,hou.out] at e
              simp only [ea] at e
              exact e.symm
            go_wp2_with fail
            refine wp_region_noPanic ?_
            refine wp_region_held_drew (S:=fun w'=>w'.cell? ⟨w.heap.size,0,none⟩ = some (.pointer (some ⟨E.hb,0,none⟩)) ∧ w'.cell? ⟨w.heap.size + 1,0,none⟩ = some (.slice pa m.params.length pcap) ∧ w'.cell? ⟨w.heap.size + 1,1,none⟩ = some (.int .i64 m.ret.kind) ∧ w'.cell? ⟨w.heap.size + 1,2,none⟩ = some (.int .i64 m.ret.cls) ∧ w'.cell? ⟨w.heap.size + 1,3,none⟩ = some (.int .i64 m.stack) ∧ w'.cell? ⟨w.heap.size + 1,4,none⟩ = some (.int .i64 m.locals) ∧ w'.cell? ⟨w.heap.size + 1,5,none⟩ = some (.int .i64 m.regs) ∧ w'.cell? ⟨w.heap.size + 1,6,none⟩ = some (.slice ca m.code.length ccap) ∧ w'.cell? ⟨w.heap.size + 1,7,none⟩ = some (.slice ha' m.handlers.length hcap) ∧ w'.cell? ⟨w5.heap.size,1,none⟩ = some (.func (.func 125) #[.pointer (some ⟨P.cb,0,none⟩)] #[])) (by kernel_rfl) (by (try dsimp only);refine ⟨?_,?_,?_,?_,?_,?_,?_,?_,?_,?_⟩ <;> go_simp) (fun hHeld=>?_)
            refine Drawn.tk 0 (some 66) rfl rfl (by assumption) ?_
            try simp only [Act.put,Drawn.La,Drawn.Lb,Drawn.Lc]
            refine Drawn.tk 1 (some 67) rfl rfl (by assumption) ?_
            try simp only [Act.put,Drawn.La,Drawn.Lb,Drawn.Lc]
            refine Drawn.tk 2 (some 68) rfl rfl (by assumption) ?_
            try simp only [Act.put,Drawn.La,Drawn.Lb,Drawn.Lc]
            refine Drawn.tk 3 (some 69) rfl rfl (by assumption) ?_
            try simp only [Act.put,Drawn.La,Drawn.Lb,Drawn.Lc]
            refine Drawn.tk 5 (some 71) rfl rfl (by assumption) ?_
            try simp only [Act.put,Drawn.La,Drawn.Lb,Drawn.Lc]
            refine wpAnyH_ready (rs:=[4]) (by kernel_rfl) (by simp) ?_
            refine AllReadyH.cons rfl (fun K hK=>?_) AllReadyH.nil
            go_simp
            refine (atP (SX.out.below (w':=w6.drew) (by exact Rd.byB))).mono ?_
            rintro e w7 ⟨rfl,rfl⟩
            go_wp2_with fail
            refine hK.out _ _ (by (try dsimp only);refine ⟨?_,?_,?_,?_,?_,?_,?_,?_,?_,?_⟩ <;> go_simp) (fun hHeld=>?_)
            clear hK K
            try simp only [Act.put,Drawn.La,Drawn.Lb,Drawn.Lc]
            refine wpAnyH_ready (rs:=[6]) (by kernel_rfl) (by simp) ?_
            refine AllReadyH.cons rfl (fun K hK=>?_) AllReadyH.nil
            go_simp
            refine (caughtP (SX.out.below (w':=w6.drew) (by exact Rd.byB)).H hq4 FS.may m (shX.out.mono mHd (by exact Rd.byB) (Nat.le_refl _)) fr.at_ (.tuple #[.int .i64 0,.bool false]) (by rw [hx.out];rfl)).mono ?_
            rintro e w8 ⟨rfl,hb8⟩
            have kk : ∀ (b o : Nat) (u : Value),World.cell? _ ⟨b,o,none⟩ = some u → w8.cell? ⟨b,o,none⟩ = some u:=fun b o u hc=>kept hb8 (cell_lt hc) hc
            have v0:=kk w.heap.size 0 _ b0c
            have v10:=kk (w.heap.size + 1) 0 _ m0
            have v11:=kk (w.heap.size + 1) 1 _ m1
            have v12:=kk (w.heap.size + 1) 2 _ m2
            have v13:=kk (w.heap.size + 1) 3 _ m3
            have v14:=kk (w.heap.size + 1) 4 _ m4
            have v15:=kk (w.heap.size + 1) 5 _ m5
            have v16:=kk (w.heap.size + 1) 6 _ m6
            have v17:=kk (w.heap.size + 1) 7 _ m7
            have va:=kk w5.heap.size 1 _ y1'
            have vb:=kk w5.heap.size 2 _ y2'
            have zb:=kk wr.heap.size 0 _ z12
            have HB8:=Lib.hid (show Below w6.heap.size w6 w8 from Below.trans (by exact Rd.byB) (hb8.mono Rd.byL))
            clear kk hb8
            go_wp2_with fail
            refine hK.out _ _ (by (try dsimp only);exact ⟨v0,v10,v11,v12,v13,v14,v15,v16,v17,va⟩) (fun hHeld=>?_)
            clear hK K
            try simp only [Act.put,Drawn.La,Drawn.Lb,Drawn.Lc]
            refine Drawn.tk 7 (some 65) rfl rfl (by assumption) ?_
            try simp only [Act.put,Drawn.La,Drawn.Lb,Drawn.Lc]
            refine Drawn.tk 8 (some 73) rfl rfl (by assumption) ?_
            try simp only [Act.put,Drawn.La,Drawn.Lb,Drawn.Lc]
            refine Drawn.tk 9 (some 74) rfl rfl (by assumption) ?_
            try simp only [Act.put,Drawn.La,Drawn.Lb,Drawn.Lc]
            refine Drawn.tk 10 (some 16) rfl rfl (by assumption) ?_
            try simp only [Act.put,Drawn.La,Drawn.Lb,Drawn.Lc]
            refine Drawn.tk 11 (some 17) rfl rfl (by assumption) ?_
            try simp only [Act.put,Drawn.La,Drawn.Lb,Drawn.Lc]
            refine wpAnyH_done (by kernel_rfl) ?_ _
            refine NoPanic.normal ?_
            go_wp2_with fail
            obtain ⟨L5,K5,N5,H5⟩:=Lft.ofS K9.out gw.1 gw.2 ((GX.out.lft SX.out).below HB8.out).stop
            refine leaves_cons (f:=173) (args:=#[.pointer (some ⟨w.heap.size,0,none⟩)]) (by simp) (by simp [go_sem]) ?_
            refine (leaveP w.heap.size _ H5 hd1 v0).mono ?_
            rintro e u' w'' ⟨rfl,rfl,rfl⟩
            have hret:=Lib.hid (show InvR E L d w r (.panicked [{ v:=thrownV o,recovered:=false }]) (w8.setCell ⟨E.hb,10,none⟩ (.int .i64 d)) from by
              rw [hrr]
              exact ⟨Pan.one _,Lft.deep ⟨L5,K5,N5,H5⟩ d⟩)
            exact hret.out
          | some hd =>
            have hhd:=(FS.mes m hmm).hds.2 hd (List.mem_of_find?_eq_some hx.out)
            obtain ⟨lo,hi,go,hcl⟩:=hd
            obtain ⟨ga,rfl⟩ : ∃ ga : Nat,go = (ga : Int):=by
              simp only [Form.hd,Bool.and_eq_true,decide_eq_true_eq,rng_iff] at hhd
              exact ⟨go.toNat,by omega⟩
            clear hhd
            go_wp2_with fail
            refine wp_region_noPanic ?_
            refine wp_region_held_drew (S:=fun w'=>w'.cell? ⟨w.heap.size,0,none⟩ = some (.pointer (some ⟨E.hb,0,none⟩)) ∧ w'.cell? ⟨w.heap.size + 1,0,none⟩ = some (.slice pa m.params.length pcap) ∧ w'.cell? ⟨w.heap.size + 1,1,none⟩ = some (.int .i64 m.ret.kind) ∧ w'.cell? ⟨w.heap.size + 1,2,none⟩ = some (.int .i64 m.ret.cls) ∧ w'.cell? ⟨w.heap.size + 1,3,none⟩ = some (.int .i64 m.stack) ∧ w'.cell? ⟨w.heap.size + 1,4,none⟩ = some (.int .i64 m.locals) ∧ w'.cell? ⟨w.heap.size + 1,5,none⟩ = some (.int .i64 m.regs) ∧ w'.cell? ⟨w.heap.size + 1,6,none⟩ = some (.slice ca m.code.length ccap) ∧ w'.cell? ⟨w.heap.size + 1,7,none⟩ = some (.slice ha' m.handlers.length hcap) ∧ w'.cell? ⟨w5.heap.size,1,none⟩ = some (.func (.func 125) #[.pointer (some ⟨P.cb,0,none⟩)] #[])) (by kernel_rfl) (by (try dsimp only);refine ⟨?_,?_,?_,?_,?_,?_,?_,?_,?_,?_⟩ <;> go_simp) (fun hHeld=>?_)
            refine Drawn.tk 0 (some 66) rfl rfl (by assumption) ?_
            try simp only [Act.put,Drawn.La,Drawn.Lb,Drawn.Lc]
            refine Drawn.tk 1 (some 67) rfl rfl (by assumption) ?_
            try simp only [Act.put,Drawn.La,Drawn.Lb,Drawn.Lc]
            refine Drawn.tk 2 (some 68) rfl rfl (by assumption) ?_
            try simp only [Act.put,Drawn.La,Drawn.Lb,Drawn.Lc]
            refine Drawn.tk 3 (some 69) rfl rfl (by assumption) ?_
            try simp only [Act.put,Drawn.La,Drawn.Lb,Drawn.Lc]
            refine Drawn.tk 5 (some 71) rfl rfl (by assumption) ?_
            try simp only [Act.put,Drawn.La,Drawn.Lb,Drawn.Lc]
            refine wpAnyH_ready (rs:=[4]) (by kernel_rfl) (by simp) ?_
            refine AllReadyH.cons rfl (fun K hK=>?_) AllReadyH.nil
            go_simp
            refine (atP (SX.out.below (w':=w6.drew) (by exact Rd.byB))).mono ?_
            rintro e w7 ⟨rfl,rfl⟩
            go_wp2_with fail
            refine hK.out _ _ (by (try dsimp only);refine ⟨?_,?_,?_,?_,?_,?_,?_,?_,?_,?_⟩ <;> go_simp) (fun hHeld=>?_)
            clear hK K
            try simp only [Act.put,Drawn.La,Drawn.Lb,Drawn.Lc]
            refine wpAnyH_ready (rs:=[6]) (by kernel_rfl) (by simp) ?_
            refine AllReadyH.cons rfl (fun K hK=>?_) AllReadyH.nil
            go_simp
            refine (caughtP (SX.out.below (w':=w6.drew) (by exact Rd.byB)).H hq4 FS.may m (shX.out.mono mHd (by exact Rd.byB) (Nat.le_refl _)) fr.at_ (.tuple #[.int .i64 ga,.bool true]) (by rw [hx.out];rfl)).mono ?_
            rintro e w8 ⟨rfl,hb8⟩
            have kk : ∀ (b o : Nat) (u : Value),World.cell? _ ⟨b,o,none⟩ = some u → w8.cell? ⟨b,o,none⟩ = some u:=fun b o u hc=>kept hb8 (cell_lt hc) hc
            have v0:=kk w.heap.size 0 _ b0c
            have v10:=kk (w.heap.size + 1) 0 _ m0
            have v11:=kk (w.heap.size + 1) 1 _ m1
            have v12:=kk (w.heap.size + 1) 2 _ m2
            have v13:=kk (w.heap.size + 1) 3 _ m3
            have v14:=kk (w.heap.size + 1) 4 _ m4
            have v15:=kk (w.heap.size + 1) 5 _ m5
            have v16:=kk (w.heap.size + 1) 6 _ m6
            have v17:=kk (w.heap.size + 1) 7 _ m7
            have va:=kk w5.heap.size 1 _ y1'
            have vb:=kk w5.heap.size 2 _ y2'
            have zb:=kk wr.heap.size 0 _ z12
            have HB8:=Lib.hid (show Below w6.heap.size w6 w8 from Below.trans (by exact Rd.byB) (hb8.mono Rd.byL))
            clear kk hb8
            go_wp2_with fail
            refine hK.out _ _ (by (try dsimp only);exact ⟨v0,v10,v11,v12,v13,v14,v15,v16,v17,va⟩) (fun hHeld=>?_)
            clear hK K
            try simp only [Act.put,Drawn.La,Drawn.Lb,Drawn.Lc]
            refine Drawn.tk 7 (some 65) rfl rfl (by assumption) ?_
            try simp only [Act.put,Drawn.La,Drawn.Lb,Drawn.Lc]
            refine Drawn.tk 8 (some 73) rfl rfl (by assumption) ?_
            try simp only [Act.put,Drawn.La,Drawn.Lb,Drawn.Lc]
            refine Drawn.tk 9 (some 74) rfl rfl (by assumption) ?_
            try simp only [Act.put,Drawn.La,Drawn.Lb,Drawn.Lc]
            refine Drawn.tk 10 (some 16) rfl rfl (by assumption) ?_
            try simp only [Act.put,Drawn.La,Drawn.Lb,Drawn.Lc]
            refine Drawn.tk 11 (some 17) rfl rfl (by assumption) ?_
            try simp only [Act.put,Drawn.La,Drawn.Lb,Drawn.Lc]
            refine wpAnyH_done (by kernel_rfl) ?_ _
            refine NoPanic.normal ?_
            go_wp2_with fail
            refine (catchP (SX.out.below HB8.out) ga o).mono ?_
            rintro e w9 (⟨q1,rfl,A⟩ | ⟨q1,rfl,A⟩)
            · have z:=A.box zb nb12
              have lz:=cell_lt z
              obtain ⟨L6,v6,G6,S6⟩:=A.opn
              have c7b:=S6.H.c7
              have hcg : SM.caught m fr ga o = some ⟨fr.loc,[⟨3,o⟩],ga⟩:=by
                show scaught m fr ga o = _
                unfold scaught
                rw [if_pos q1];rfl
              have ea : after SM E.f m fr o h' = .go ⟨fr.loc,[⟨3,o⟩],ga⟩:=by
                unfold after
                rw [show SM.at_ fr = fr.at_ from rfl,hx.out]
                simp only [Int.toNat_natCast]
                rw [hcg]
              have hrr : loop SM E.f E.input E.fuel g3 (d + 1) m ⟨fr.loc,[⟨3,o⟩],ga⟩ h' = r:=by
                have e:=HR2.out
                rw [loop_out sm_same,hou.out] at e
                simp only [ea] at e
                exact e
              have HX1:=Lib.hid (show Gr E L P (.slice none 0 0) W9 L6 v6 w9 from (GX.out.trans (Gr.of_below HB8.out)).trans G6)
              have HX2:=Lib.hid S6
              have HX3:=Lib.hid hrr
              have HX4:=Lib.hid hq2
              have HX5:=Lib.hid (show SfB m h'.objs.length ⟨fr.loc,[⟨3,o⟩],ga⟩ from KM.caught m hmm _ o ga fr _ hq4 hq2.many (KM.mono m _ _ fr hqo SO2.out) hcg)
              clear A G6 S6 hrr hq2 ea hcg hq3
              go_wp2_with fail
              refine ⟨⟨L6,h',_,v6,g3,HX1,HX2,HX4,HX5,HX3,by omega⟩,?_⟩
              rw [c7a,c7b]
              simp only [Int.toNat_natCast]
              omega
            · have hcg : SM.caught m fr ga o = none := by
                show scaught m fr ga o = _
                unfold scaught
                rw [if_neg q1]
              have ea : after SM E.f m fr o h' = .stuck:=by
                unfold after
                rw [show SM.at_ fr = fr.at_ from rfl,hx.out]
                simp only [Int.toNat_natCast]
                rw [hcg]
              have hrr : r = .stop 6 h':=by
                have e:=HR2.out
                rw [loop_out sm_same,hou.out] at e
                simp only [ea] at e
                exact e.symm
              obtain ⟨q0,n0⟩:=hlow.out _ _ (by omega) (by omega) X0.out
              have A9:=(GX.out.trans (Gr.of_below HB8.out)).compS A
              obtain ⟨L4',K4,N4,H4⟩:=id A9
              have b0d:=((q0.next K4 n0) 0 (by simp)).1
              simp only [List.getElem_cons_zero] at b0d
              obtain ⟨L5,K5,N5,H5⟩:=Lft.ofS K9.out gw.1 gw.2 A9
              clear q0 n0 K4 N4 H4
              unfold pan
              go_wp2_with fail
              refine leaves_cons (f:=173) (args:=#[.pointer (some ⟨w.heap.size,0,none⟩)]) (by simp) (by simp [go_sem]) ?_
              refine (leaveP w.heap.size _ H5 hd1 b0d).mono ?_
              rintro e u' w'' ⟨rfl,rfl,rfl⟩
              have hret:=Lib.hid (show InvR E L d w r (.panicked [{ v:=stopV 6,recovered:=false }]) (w9.setCell ⟨E.hb,10,none⟩ (.int .i64 d)) from by
                rw [hrr]
                exact ⟨Pan.one _,Lft.deep ⟨L5,K5,N5,H5⟩ d⟩)
              exact hret.out
        | stop c h' =>
          obtain ⟨⟨older,hol,rfl⟩,A⟩:=R
          have hrn : r = .stop c h':=by
            have e:=HR2.out
            rw [loop_out sm_same,hou.out] at e
            exact e.symm
          have A9:=G2.out.compS A
          obtain ⟨q0,n0⟩:=hlow.out _ _ (by omega) (by omega) X0.out
          obtain ⟨L4,K4,N4,H4⟩:=id A9
          have b0c:=((q0.next K4 n0) 0 (by simp)).1
          simp only [List.getElem_cons_zero] at b0c
          have A10:=Lib.hid (Lft.ofS K9.out gw.1 gw.2 A9)
          clear A A9 q0 n0 K4 N4 H4
          go_wp2_with fail
          obtain ⟨L5,K5,N5,H5⟩:=A10.out
          refine leaves_cons (f:=173) (args:=#[.pointer (some ⟨w.heap.size,0,none⟩)]) (by simp) (by simp [go_sem]) ?_
          refine (leaveP w.heap.size _ H5 hd1 b0c).mono ?_
          rintro e u' w'' ⟨rfl,rfl,rfl⟩
          have hret:=Lib.hid (show InvR E L d w r (.panicked ({ v:=stopV c,recovered:=false } :: older)) (w6.setCell ⟨E.hb,10,none⟩ (.int .i64 d)) from by
            rw [hrn]
            exact ⟨⟨older,hol,rfl⟩,Lft.deep ⟨L5,K5,N5,H5⟩ d⟩)
          exact hret.out
end
end Hpw
end Go.Proofs.Ytncmhenfgbcihab
namespace Go.Proofs.Ytncmhenfgbcihab
open Go.RowKit
set_option linter.unusedSimpArgs false
set_option linter.unusedVariables false
namespace Hpw
open Num Rd D Run Mem HierW
section
variable {E : Ev}
theorem invOk (FS : FiS E.f) (KM : MachOk SM SfB E.f E.input E.fuel) (hfu : E.fuel ≤ 60000) (hin : E.input.length ≤ 1000) : ∀ (n d : Nat),d + n = 20 → ∀ (g : Nat) (h : Hp),E.fuel < g + h.steps → InvOk E d g h:=by
  intro n
  induction n with
  | zero =>
    intro d hd g h hg k args h1 hk HO hs hv hl L W mv va X H hmv hva hX
    have M:=FS.mes _ (meAt_mem hk)
    have hEB : E.B ≤ W.heap.size:=by have:=H.base;omega
    have h4 : args.length ≤ 4:=by have:=M.params.1;omega
    obtain ⟨vp,vc,vh,rfl,hrest⟩:=id hmv
    refine invokeP H X args hmv hva _ (fun W2 b3 b4 b5 hb l3 l4 l5 c3 c5 B4=>?_)
    have hva2:=hva.next (X':=X) (Kp.of_below (X:=fun _=>False) hb (Nat.le_refl _)) (fun _ _ e=>e.elim) (fun _ _ e=>e)
    have hmv2:=hmv.mono (hb.mono hEB) (Nat.le_refl _)
    cases hall : allOf E.f.classes h1 args (meAt E.f k).params with
    | false =>
      have e : call SM E.f E.input E.fuel g d (meAt E.f k) args h1 = .stop 6 h1:=by unfold call;rw [if_pos hall]
      rw [e]
      exact callBad FS.may (H.below hb) X args hmv2 hva2 hl h4 hv hall _
    | true =>
      have e : call SM E.f E.input E.fuel g d (meAt E.f k) args h1 = .stop 5 h1:=by unfold call;rw [if_neg (by rw [hall];simp),if_pos (by omega)]
      rw [e]
      exact callDeep FS.may (H.below hb) X args hmv2 hva2 hl h4 hv hall (by omega) _
  | succ n ih =>
    intro d hd g h hg k args h1 hk HO hs hv hl L W mv va X H hmv hva hX
    have hmem:=meAt_mem hk
    have M:=FS.mes _ hmem
    have hEB : E.B ≤ W.heap.size:=by have:=H.base;omega
    have h4 : args.length ≤ 4:=by have:=M.params.1;omega
    obtain ⟨vp,vc,vh,rfl,hrest⟩:=id hmv
    refine invokeP H X args hmv hva _ (fun W2 b3 b4 b5 hb l3 l4 l5 c3 c5 B4=>?_)
    have hva2:=hva.next (X':=X) (Kp.of_below (X:=fun _=>False) hb (Nat.le_refl _)) (fun _ _ e=>e.elim) (fun _ _ e=>e)
    have hmv2:=hmv.mono (hb.mono hEB) (Nat.le_refl _)
    have nown : ∀ b,W.heap.size ≤ b → ¬ own E L b:=fun b hb hk=>by have:=own_lo H hk;omega
    cases hall : allOf E.f.classes h1 args (meAt E.f k).params with
    | false =>
      have e : call SM E.f E.input E.fuel g d (meAt E.f k) args h1 = .stop 6 h1:=by unfold call;rw [if_pos hall]
      rw [e]
      exact callBad FS.may (H.below hb) X args hmv2 hva2 hl h4 hv hall _
    | true =>
      have e : call SM E.f E.input E.fuel g d (meAt E.f k) args h1 = loop SM E.f E.input E.fuel g (d + 1) (meAt E.f k) (SM.enter (meAt E.f k) args) h1:=by unfold call;rw [if_neg (by rw [hall];simp),if_neg (by omega)]
      have hsz : (size args : Int) ≤ (meAt E.f k).locals:=by
        have:=size_slots args _ hl (fun i hi=>allOf_kind args _ hall i hi (by omega))
        have:=M.locals.1
        omega
      rw [e]
      exact callRun FS.may (H.below hb) X args hmv2 hva2 hl h4 hv hall (by omega) hX M.locals.2 hsz b3 b4 b5 (nown _ l3) (nown _ l4) (nown _ l5) c3 c5 B4 _ HO (KM.enter _ hmem _ args hv hl (fun i hi=>allOf_kind args _ hall i hi (by rw [← hl];exact hi))) g rfl (by omega) FS hmem hfu hin KM (Lib.hid (fun g2 h2 hg2=>ih (d + 1) (by omega) g2 h2 hg2))
end
end Hpw
end Go.Proofs.Ytncmhenfgbcihab
namespace Go.Proofs.Ytncmhenfgbcihab
open Go.RowKit
set_option linter.unusedSimpArgs false
set_option linter.unusedVariables false
namespace Hpw
open Num Rd D Run Mem HierW
def L0 : Lay:=⟨.slice none 0 0,.slice none 0 0,[]⟩
def h0 : Hp:=⟨[],[],0,0⟩
section
variable {w : World} {B : Nat} {f : Fi}
theorem phNew {w1 : World} {B : Nat} {f : Fi} {input : List Int} {vc vm vi : Value} (hc : Sl 2 ECls w1 B vc f.classes) (hm : Sl 8 EMe w1 B vm f.methods) (hi : Sl 1 EInt w1 B vi input) (hB : B ≤ w1.heap.size) (fuel : Nat) (T : TypeId) :
    PH ⟨f,input,fuel,w1.heap.size,B,vc,vm,vi⟩ (w1.alloc (.cells #[vc,vm,.int .i64 0,.int .i64 0,.int .i64 0,.slice none 0 0,.int .i64 0,.int .i64 0,.slice none 0 0,vi,.int .i64 0,.int .i64 fuel] T)) L0 h0 0:=by
  have hb : Below B w1 (w1.alloc (.cells #[vc,vm,.int .i64 0,.int .i64 0,.int .i64 0,.slice none 0 0,.int .i64 0,.int .i64 0,.slice none 0 0,vi,.int .i64 0,.int .i64 fuel] T)):=(Below.refl B w1).alloc hB _
  exact ⟨Blk.made w1 [vc,vm,.int .i64 0,.int .i64 0,.int .i64 0,.slice none 0 0,.int .i64 0,.int .i64 0,.slice none 0 0,vi,.int .i64 0,.int .i64 fuel] T,hc.mono mCls hb (Nat.le_refl _),hm.mono mMe hb (Nat.le_refl _),hi.mono mInt hb (Nat.le_refl _),World.ownsRow_nil ..,World.ownsRow_nil ..,rfl,fun i hi=>absurd hi (by simp [L0]),⟨hB,by simp,by simp [L0]⟩,by simp [L0,Value.ownBlock],by simp [L0]⟩
def BeginE (w : World) (c : Int) (e : Ending) (w' : World) : Prop:=e = .returned (.tuple #[.pointer none,.slice none 0 0,.int .i64 c]) ∧ Below w.heap.size w w'
set_option maxRecDepth 100000 in
set_option maxHeartbeats 1000000 in
theorem begin1 {vf va vi : Value} (Hf : VFi w B vf f) (entry fuel : Int) (hq : entry < 0 ∨ (f.methods.length : Int) ≤ entry ∨ fuel < 0 ∨ 60000 < fuel) : Calls Try.prog 61 #[vf,.int .i64 entry,va,vi,.int .i64 fuel] w (BeginE w 4):=by
  obtain ⟨vc,vm,rfl,hc,hm⟩:=Hf
  obtain ⟨a,cap,rfl,k1,k2,_⟩:=hc
  obtain ⟨ma,mcap,rfl,k3,k4,_⟩:=hm
  by_cases q1 : entry < 0
  · clear hq
    go_enter Try.func61,Try.ntmps61
    go_wp2
    go_ret3
    exact ⟨rfl,by exact Rd.byB⟩
  by_cases q2 : (f.methods.length : Int) ≤ entry
  · clear hq
    go_enter Try.func61,Try.ntmps61
    go_wp2
    go_ret3
    exact ⟨rfl,by exact Rd.byB⟩
  by_cases q3 : fuel < 0
  · clear hq
    go_enter Try.func61,Try.ntmps61
    go_wp2
    go_ret3
    exact ⟨rfl,by exact Rd.byB⟩
  have q4 : 60000 < fuel:=by omega
  clear hq
  go_enter Try.func61,Try.ntmps61
  go_wp2
  go_ret3
  exact ⟨rfl,by exact Rd.byB⟩
set_option maxRecDepth 100000 in
set_option maxHeartbeats 1000000 in
theorem begin3 {vf va vi : Value} (Hf : VFi w B vf f) (entry fuel : Int) (q1 : ¬ entry < 0) (q2 : ¬ (f.methods.length : Int) ≤ entry) (q3 : ¬ fuel < 0) (q4 : ¬ 60000 < fuel) {input : List Int} (hi : Sl 1 EInt w B vi input) (h3 : 1000 < input.length) : Calls Try.prog 61 #[vf,.int .i64 entry,va,vi,.int .i64 fuel] w (BeginE w 1):=by
  obtain ⟨vc,vm,rfl,hc,hm⟩:=Hf
  obtain ⟨a,cap,rfl,k1,k2,_⟩:=hc
  obtain ⟨ma,mcap,rfl,k3,k4,_⟩:=hm
  obtain ⟨ia,icap,rfl,k5,k6,_⟩:=hi
  have h3' : (1000 : Int) < input.length:=by omega
  go_enter Try.func61,Try.ntmps61
  go_wp2
  go_ret3
  exact ⟨rfl,by exact Rd.byB⟩
set_option maxRecDepth 100000 in
set_option maxHeartbeats 1000000 in
theorem begin4 {vf va vi : Value} (Hf : VFi w B vf f) (hB : B ≤ w.heap.size) (k : Nat) (hk : k < f.methods.length) (fuel : Int) (q3 : ¬ fuel < 0) (q4 : ¬ 60000 < fuel) {input args : List Int} (hi : Sl 1 EInt w B vi input) (h3 : input.length ≤ 1000) (ha : Sl 1 EInt w B va args) (h4 : args.length ≠ (f.methods[k]).params.length) : Calls Try.prog 61 #[vf,.int .i64 k,va,vi,.int .i64 fuel] w (BeginE w 3):=by
  obtain ⟨vc,vm,rfl,hc,hm⟩:=Hf
  obtain ⟨a,cap,rfl,k1,k2,_⟩:=hc
  obtain ⟨ma,mcap,rfl,k3,k4,hel⟩:=hm
  obtain ⟨ia,icap,rfl,k5,k6,_⟩:=hi
  obtain ⟨aa,acap,rfl,k7,k8,_⟩:=ha
  obtain ⟨mb,mo,rfl,hmb,vp,vco,vh,m0,m1,m2,m3,m4,m5,m6,m7,mok,hp,hco,hh⟩:=hel k hk
  obtain ⟨pa,pcap,rfl,k9,k10,_⟩:=hp
  have h3' : ¬ (1000 : Int) < input.length:=by omega
  have hk' : (k : Int) < f.methods.length:=by omega
  have q1 : ¬ (k : Int) < 0:=by omega
  have q2 : ¬ (f.methods.length : Int) ≤ k:=by omega
  have l1 : mb < w.heap.size:=by omega
  have l2 : mb < w.heap.size + 1:=by omega
  have h4' : ((args.length : Int) != (f.methods[k].params.length : Int)) = true:=by simp;omega
  have h4'' : ¬ (args.length : Int) = (f.methods[k].params.length : Int):=by omega
  clear hel
  go_enter Try.func61,Try.ntmps61
  go_wp2
  go_ret3
  exact ⟨rfl,by exact Rd.byB⟩
def argsTo (m : Me) (args : List Int) (n : Nat) : List Vl:=(List.zipWith argOf m.params args).take n
def BegR (w : World) (f : Fi) (m : Me) (args input : List Int) (fuel : Int) (vc vm vi : Value) (e : Ending) (w' : World) : Prop :=
  if m.params.any (fun t=>decide (t.kind = 3)) = true then BeginE w 3 e w'
  else ∃ (hb : Nat) (vl : Value),e = .returned (.tuple #[.pointer (some ⟨hb,0,none⟩),vl,.int .i64 0]) ∧ PH ⟨f,input,fuel.toNat,hb,w.heap.size,vc,vm,vi⟩ w' L0 h0 0 ∧ VS w' (fun k=>k = hb) vl (List.zipWith argOf m.params args) ∧ Below w.heap.size w w'
theorem grow_kp {B n size : Nat} {T : TypeId} {v : Value} {xs : List Value} {wr W w2 : World} (hW : Below wr.heap.size wr W) (hown : wr.ownsRow B T size v n xs) (hg : W.grownBy w2 v.ownBlock) : Kp (fun k=>B ≤ k) wr w2 :=
  (kpB hW).trans (Kp.of_grown (X:=fun k=>B ≤ k) hg (fun k e=>(World.ownsRow.lt hown k e).1)) (fun _ h=>.inl h)
theorem vsRow {base : Nat} {T : TypeId} {X : Nat → Prop} {v : Value} {l : List Vl} (H : w.ownsRow base T 2 v l.length (vcells l)) (hX : ∀ k,X k → k < base) : VS w X v l:=by
  by_cases h0 : 0 < l.length
  · obtain ⟨g,cap,hv,c1,c2,c3,c4⟩:=row_form H h0
    rw [hv] at H ⊢
    refine ⟨_,cap,rfl,c1,c2,fun i hi=>⟨g,0,rfl,fun hx=>by have:=hX g hx;omega,?_,?_⟩⟩
    · have:=row_cell H (vcells_get l i hi).1
      rw [Nat.zero_add,this,List.getD_eq_getElem?_getD,List.getElem?_eq_getElem hi];rfl
    · have:=row_cell H (vcells_get l i hi).2
      rw [Nat.zero_add,this,List.getD_eq_getElem?_getD,List.getElem?_eq_getElem hi];rfl
  · have hl : l = []:=List.eq_nil_of_length_eq_zero (by omega)
    subst hl
    obtain ⟨a,cap,hv⟩:=row_any H
    rcases H.2 with ⟨hn,_⟩ | ⟨g,cap',cur,hv',_,_,_,hm,_⟩
    · rw [hn];exact VS.nil _ _
    · rw [hv'];exact VS.zero (by unfold maxLen at hm;exact hm)
theorem argsTo_succ {m : Me} {args : List Int} {n : Nat} (h1 : n < m.params.length) (h2 : n < args.length) : argsTo m args (n + 1) = argsTo m args n ++ [argOf m.params[n] args[n]]:=by
  unfold argsTo
  rw [List.take_succ_eq_append_getElem (by simp;omega)]
  simp
set_option maxRecDepth 100000 in
set_option maxHeartbeats 2000000 in
theorem begin5 {vc vm va vi : Value} (hc : Sl 2 ECls w B vc f.classes) (hm : Sl 8 EMe w B vm f.methods) (hB : B ≤ w.heap.size) (k : Nat) (hk : k < f.methods.length) (fuel : Int) (q3' : ¬ fuel < 0) (q4 : ¬ 60000 < fuel) {input args : List Int} (hi : Sl 1 EInt w B vi input) (h3 : input.length ≤ 1000) (ha : Sl 1 EInt w B va args) (h4 : args.length = (f.methods[k]).params.length) (h5 : (f.methods[k]).params.length ≤ 4) (hty : ∀ t ∈ (f.methods[k]).params,t.kind = 1 ∨ t.kind = 2 ∨ t.kind = 3) : Calls Try.prog 61 #[.agg #[vc,vm],.int .i64 k,va,vi,.int .i64 fuel] w (BegR w f f.methods[k] args input fuel vc vm vi):=by
  obtain ⟨io,hi',hy0,hy1,hy2⟩:=info_parts info_valP
  obtain ⟨fu,rfl⟩ : ∃ n : Nat,fuel = (n : Int):=⟨fuel.toNat,by omega⟩
  have HCL:=Lib.hid hc
  have HME:=Lib.hid hm
  have HIN:=Lib.hid hi
  have HTY:=Lib.hid hty
  obtain ⟨a,cap,rfl,k1,k2,_⟩:=hc
  obtain ⟨ma,mcap,rfl,k3,k4,hel⟩:=hm
  obtain ⟨ia,icap,rfl,k5,k6,_⟩:=hi
  obtain ⟨aa,acap,rfl,k7,k8,hea⟩:=ha
  obtain ⟨mb,mo,rfl,hmb,vp,vco,vh,m0,m1,m2,m3,m4,m5,m6,m7,mok,hp,hco,hh⟩:=hel k hk
  obtain ⟨pa,pcap,rfl,k9,k10,hep⟩:=hp
  have h3' : ¬ (1000 : Int) < input.length:=by omega
  have hk' : (k : Int) < f.methods.length:=by omega
  have q1 : ¬ (k : Int) < 0:=by omega
  have q2 : ¬ (f.methods.length : Int) ≤ k:=by omega
  have l1 : mb < w.heap.size:=by omega
  have l2 : mb < w.heap.size + 1:=by omega
  have hea':=Lib.hid hea
  have hep':=Lib.hid hep
  obtain ⟨np,hnp⟩ : ∃ np,np = f.methods[k].params.length:=⟨_,rfl⟩
  have h4' : args.length = np:=by omega
  have h4'' : ((args.length : Int) != (f.methods[k].params.length : Int)) = false:=by simp;omega
  clear hel hea hep hty
  go_enter Try.func61,Try.ntmps61
  go_wp2
  go_loopw [13,56] (fun v i wr=>∃ n : Nat,i = .int .i64 n ∧ n ≤ np ∧ Below w.heap.size w wr ∧ w.heap.size + 1 ≤ wr.heap.size ∧ Hid (wr.ownsRow (w.heap.size + 1) 118 2 v n (vcells (argsTo f.methods[k] args n))) ∧ wr.cell? ⟨w.heap.size,0,none⟩ = some (.slice a f.classes.length cap) ∧ wr.cell? ⟨w.heap.size,1,none⟩ = some (.slice (some ⟨mb,mo,none⟩) f.methods.length mcap) ∧ Hid (∀ j (hj : j < f.methods[k].params.length),j < n → (f.methods[k].params[j]).kind ≠ 3)) (fun _ i _=>np - (intOf i).toNat)
  case atStart=>exact ⟨0,rfl,Nat.zero_le _,by exact Rd.byB,by simp,World.ownsRow_nil _ _ _ _,by go_simp,by go_simp,fun j _ h=>absurd h (by omega)⟩
  case round =>
    obtain ⟨n,rfl,hn,hb,hsz,HR,x0,x1,hall⟩:=hrel
    by_cases hlt : n < np
    · have hl1 : n < f.methods[k].params.length:=by omega
      have hl2 : n < args.length:=by omega
      obtain ⟨pb,po,rfl,hpb,p0,p1,_⟩:=hep'.out n hl1
      obtain ⟨ab,ao,rfl,hab,z0,_⟩:=hea'.out n hl2
      have l3 : pb < w.heap.size:=by omega
      have l4 : ab < w.heap.size:=by omega
      have p0':=kept hb l3 p0
      have p1':=kept hb l3 p1
      rw [Nat.mul_one] at z0
      have z0':=kept hb l4 z0
      obtain ⟨t,ht⟩:=at_of hl1
      obtain ⟨x,hx⟩:=at_of hl2
      rw [ht.out] at p0' p1'
      rw [hx.out] at z0'
      have htk : t.kind = 1 ∨ t.kind = 2 ∨ t.kind = 3:=by have:=HTY.out _ (List.getElem_mem hl1);rwa [ht.out] at this
      have hww : wrap64 (wrap32 x) = wrap32 x:=wrap64_id (wrap32_ok x)
      have hn1 : (n : Int) < args.length:=by omega
      have hn2 : (n : Int) < f.methods[k].params.length:=by omega
      have l5 : pb < wr.heap.size:=Nat.lt_of_lt_of_le l3 hb.size
      have l6 : ab < wr.heap.size:=Nat.lt_of_lt_of_le l4 hb.size
      have l7 : w.heap.size < wr.heap.size:=by omega
      clear p0 p1 z0 m0 m1 m2 m3 m4 m5 m6 m7
      by_cases q3 : t.kind = 3
      · have hif:=Lib.hid (List.any_eq_true.2 ⟨_,List.getElem_mem hl1,by rw [ht.out];simpa using q3⟩ : f.methods[k].params.any (fun t=>decide (t.kind = 3)) = true)
        rw [q3] at p0'
        clear q3 htk
        go_wp2
        go_ret3
        unfold BegR
        rw [if_pos hif.out]
        exact ⟨rfl,by exact Rd.byB⟩
      rcases htk with q1 | q1 | q1
      · have q1h:=Lib.hid q1
        rw [q1] at p0'
        clear q1
        go_wp2_with (at_builtin;refine wpList_append_lies _ rfl (.tmp 65) (.tmp 73) 114 rfl (w.heap.size + 1) 118 io (.agg #[.int .i64 0,.int .i64 0]) 2 16 Try.underlying114 hi' hy0 hy1 hy2 rfl (by decide) u13 n (vcells (argsTo f.methods[k] args n)) (by simp [Act.eval,Act.put]) (row_keep HR.out (kpB (X:=fun _=>False) (w0:=wr) (by exact Rd.byB)) (fun g _ e=>e)) ⟨wr.heap.size + 1,0,none⟩ 1 1 [.int .i64 1,.int .i64 (wrap32 x)] (by simp [Act.eval,Act.put]) rfl (by exact news_of (by simp)) (by simp [Value.oneCell']) (by decide) (by unfold maxLen;omega) (by omega) (by simp;omega) _ rfl ?_;intro g2 cap2 w3 hown3 hgrow3 hat3 hlt3;have KG:=grow_kp (by exact Rd.byB) HR.out hgrow3;have e0:=KG.cell x0 (by omega);have e1:=KG.cell x1 (by omega);have hsz3:=KG.size;replace KG:=Lib.hid KG;replace hown3:=Lib.hid hown3;clear hgrow3 hat3)
        refine ⟨⟨n + 1,by go_num,hlt,hb.trans (KG.out.below (by omega) (fun k hk=>by omega)),by omega,?_,e0,e1,fun j hj hjn=>?_⟩,by simp only [intOf];omega⟩
        · have ea:=argsTo_succ (m:=f.methods[k]) (args:=args) hl1 hl2
          rw [ht.out,hx.out] at ea
          have eb : argOf t x = ⟨1,wrap32 x⟩:=by unfold argOf;rw [if_pos q1h.out]
          rw [eb] at ea
          rw [ea,vcells_append]
          exact hown3
        · by_cases hjn2 : j < n
          · exact hall.out j hj hjn2
          · obtain rfl : j = n:=by omega
            rw [ht.out];exact q3
      · have q1h:=Lib.hid q1
        rw [q1] at p0'
        clear q1
        go_wp2_with (at_builtin;refine wpList_append_lies _ rfl (.tmp 77) (.tmp 83) 114 rfl (w.heap.size + 1) 118 io (.agg #[.int .i64 0,.int .i64 0]) 2 16 Try.underlying114 hi' hy0 hy1 hy2 rfl (by decide) u13 n (vcells (argsTo f.methods[k] args n)) (by simp [Act.eval,Act.put]) (row_keep HR.out (kpB (X:=fun _=>False) (w0:=wr) (by exact Rd.byB)) (fun g _ e=>e)) ⟨wr.heap.size + 1,0,none⟩ 1 1 [.int .i64 2,.int .i64 x] (by simp [Act.eval,Act.put]) rfl (by exact news_of (by simp)) (by simp [Value.oneCell']) (by decide) (by unfold maxLen;omega) (by omega) (by simp;omega) _ rfl ?_;intro g2 cap2 w3 hown3 hgrow3 hat3 hlt3;have KG:=grow_kp (by exact Rd.byB) HR.out hgrow3;have e0:=KG.cell x0 (by omega);have e1:=KG.cell x1 (by omega);have hsz3:=KG.size;replace KG:=Lib.hid KG;replace hown3:=Lib.hid hown3;clear hgrow3 hat3)
        refine ⟨⟨n + 1,by go_num,hlt,hb.trans (KG.out.below (by omega) (fun k hk=>by omega)),by omega,?_,e0,e1,fun j hj hjn=>?_⟩,by simp only [intOf];omega⟩
        · have ea:=argsTo_succ (m:=f.methods[k]) (args:=args) hl1 hl2
          rw [ht.out,hx.out] at ea
          have eb : argOf t x = ⟨2,x⟩:=by unfold argOf;rw [if_neg (by rw [q1h.out];decide),q1h.out]
          rw [eb] at ea
          rw [ea,vcells_append]
          exact hown3
        · by_cases hjn2 : j < n
          · exact hall.out j hj hjn2
          · obtain rfl : j = n:=by omega
            rw [ht.out];exact q3
      · exact absurd q1 q3
    · have hn1 : ¬ (n : Int) < args.length:=by omega
      obtain rfl : n = np:=by omega
      go_wp2
      go_ret3
      have hb0 : Below B w wr:=(kpB (X:=fun _=>False) hb).below hB (fun _ e=>e.elim)
      have hnone : ¬ (f.methods[k].params.any (fun t=>decide (t.kind = 3)) = true):=fun he=>by
        obtain ⟨t,ht,h3⟩:=List.any_eq_true.1 he
        obtain ⟨j,hj,rfl⟩:=List.getElem_of_mem ht
        exact hall.out j hj (by omega) (by simpa using h3)
      unfold BegR
      rw [if_neg hnone]
      have hlen : (List.zipWith argOf f.methods[k].params args).length = n:=by rw [List.length_zipWith];omega
      have ea : argsTo f.methods[k] args n = List.zipWith argOf f.methods[k].params args:=by unfold argsTo;rw [← hlen,List.take_length]
      have HR':=HR.out
      rw [ea] at HR'
      have HR2 : wr.ownsRow (w.heap.size + 1) 118 2 u13 (List.zipWith argOf f.methods[k].params args).length (vcells (List.zipWith argOf f.methods[k].params args)):=by rw [hlen];exact HR'
      have V:=vsRow (X:=fun _=>False) HR2 (fun _ e=>e.elim)
      refine ⟨wr.heap.size,u13,rfl,phNew (HCL.out.mono mCls hb0 hB) (HME.out.mono mMe hb0 hB) (HIN.out.mono mInt hb0 hB) hb.size fu _,V.next (kpB (X:=fun _=>False) (by exact Rd.byB)) (fun _ _ e=>e) (fun b hlt e=>by omega),hb.trans ((kpB (X:=fun _=>False) (w0:=wr) (by exact Rd.byB)).below hb.size (fun _ e=>e.elim))⟩
end
end Hpw
end Go.Proofs.Ytncmhenfgbcihab
namespace Go.Proofs.Ytncmhenfgbcihab
open Go.RowKit
set_option linter.unusedSimpArgs false
set_option linter.unusedVariables false
namespace Hpw
open Num Rd D Run Mem HierW
def shc (E : Ev) (L : Lay) (h : Hp) (d : Nat) (x y z : Int) : List Value:=[E.vc,E.vm,.int .i64 x,.int .i64 y,.int .i64 z,L.vo,.int .i64 h.used,.int .i64 h.steps,L.vb,E.vi,.int .i64 d,.int .i64 E.fuel]
set_option maxRecDepth 100000 in
theorem asS1 (c : Int) (w : World) : (Instr.typeAssert (.iface 196 (.agg #[.int .i64 c])) 20 196 true).run Try.prog w = .ok (.tuple #[.agg #[.int .i64 c],.bool true]) w:=by kernel_rfl
set_option maxRecDepth 100000 in
theorem asS2 (o : Int) (w : World) : (Instr.typeAssert (.iface 198 (.agg #[.int .i64 o])) 20 196 true).run Try.prog w = .ok (.tuple #[.agg #[.int .i64 0],.bool false]) w:=by kernel_rfl
section
variable {E : Ev} {w w' w1 w2 : World} {L L' L1 : Lay} {h h' h1 h2 : Hp} {d : Nat}
set_option maxHeartbeats 1000000 in
theorem runsIdle (p : Addr) (w : World) : CallsD Try.prog 119 #[.pointer (some p)] .returning w fun e u' w'=>e = .returned (.tuple #[]) ∧ u' = .returning ∧ w' = w:=by
  refine callsD_of_wpS Try.func119 rfl fun c₀ cs hu=>?_
  apply wpS_seq
  apply wpS_region
  simp [wpOpsS,go_sem,recoverD,hu,Try.ntmps119,Exit.thenS]
  rw [show (Array.replicate 38 undef : Array Value) = #[undef,undef,undef,undef,undef,undef,undef,undef,undef,undef,undef,undef,undef,undef,undef,undef,undef,undef,undef,undef,undef,undef,undef,undef,undef,undef,undef,undef,undef,undef,undef,undef,undef,undef,undef,undef,undef,undef] from rfl]
  simp only [List.setIfInBounds_toArray,List.set_cons_succ,List.set_cons_zero,List.append_toArray,List.cons_append,List.nil_append]
  refine wpS_of_wp ?_
  go_wp2
  all_goals (cases c₀;simp_all [bodyPostS,results,Try.results119])
set_option maxRecDepth 100000 in
set_option maxHeartbeats 1000000 in
theorem runsStop (H : PH E w L h d) (b0 : Nat) (c : Int) (older : List PanicEntry) (c0 : w.cell? ⟨b0, 0, none⟩ = some (.pointer (some ⟨E.hb, 0, none⟩))) :
    CallsD Try.prog 119 #[.pointer (some ⟨b0,0,none⟩)] (.panicking ({ v:=stopV c,recovered:=false } :: older)) w fun e u' w' =>
      e = .returned (.tuple #[]) ∧ u' = .panicking ({ v:=stopV c,recovered:=true } :: older) ∧ Kp (fun k=>k = E.hb) w w' ∧ Blk w' E.hb (shc E L h d c 0 0):=by
  have hta:=asS1 c
  have c2:=(H.cells 2 (by simp)).1
  have f2:=(H.cells 2 (by simp)).2
  simp only [List.getElem_cons_zero,List.getElem_cons_succ] at c2
  have hb0:=cell_lt c0
  have hhb:=H.hbw
  have HH:=Lib.hid H
  clear H
  unfold stopV
  refine callsD_of_wpS Try.func119 rfl fun c₀ cs hu=>?_
  apply wpS_seq
  apply wpS_region
  simp [wpOpsS,go_sem,recoverD,hu,Try.ntmps119,Exit.thenS]
  rw [show (Array.replicate 38 undef : Array Value) = #[undef,undef,undef,undef,undef,undef,undef,undef,undef,undef,undef,undef,undef,undef,undef,undef,undef,undef,undef,undef,undef,undef,undef,undef,undef,undef,undef,undef,undef,undef,undef,undef,undef,undef,undef,undef,undef,undef] from rfl]
  simp only [List.setIfInBounds_toArray,List.set_cons_succ,List.set_cons_zero,List.append_toArray,List.cons_append,List.nil_append]
  refine wpS_of_wp ?_
  go_wp2
  simp [bodyPostS,results,Try.results119]
  refine ⟨((Kp.refl (fun k=>k = E.hb) w).setCell (p:=⟨E.hb,2,none⟩) (.inl rfl) _).alloc _,?_⟩
  exact (HH.out.cells.set 2 (by simp) (.int .i64 c)).alloc _
set_option maxRecDepth 100000 in
set_option maxHeartbeats 1000000 in
theorem runsThrown (H : PH E w L h d) (b0 o : Nat) (ho : o < h.objs.length) (older : List PanicEntry) (c0 : w.cell? ⟨b0, 0, none⟩ = some (.pointer (some ⟨E.hb, 0, none⟩))) :
    CallsD Try.prog 119 #[.pointer (some ⟨b0,0,none⟩)] (.panicking ({ v:=thrownV o,recovered:=false } :: older)) w fun e u' w' =>
      e = .returned (.tuple #[]) ∧ u' = .panicking ({ v:=thrownV o,recovered:=true } :: older) ∧ Kp (fun k=>k = E.hb) w w' ∧ Blk w' E.hb (shc E L h d 2 0 (obj h o).cls):=by
  have hta:=asS2 o
  have hta2:=assertT o
  obtain ⟨g,cap,hvb,q1,q2,hg,hgne,o1,_⟩:=H.ob (n:=o) (by omega) (by omega)
  have c2:=(H.cells 2 (by simp)).1
  have f2:=(H.cells 2 (by simp)).2
  have c4:=(H.cells 4 (by simp)).1
  have f4:=(H.cells 4 (by simp)).2
  have c8:=H.c8
  simp only [List.getElem_cons_zero,List.getElem_cons_succ] at c2 c4
  rw [hvb] at c8
  rw [Int.toNat_natCast] at o1
  have hb0:=cell_lt c0
  have hhb:=H.hbw
  have hoi : (o : Int) < h.objs.length:=by omega
  have HH:=Lib.hid H
  have HVB:=Lib.hid hvb
  clear H hvb
  unfold thrownV
  refine callsD_of_wpS Try.func119 rfl fun c₀ cs hu=>?_
  apply wpS_seq
  apply wpS_region
  simp [wpOpsS,go_sem,recoverD,hu,Try.ntmps119,Exit.thenS]
  rw [show (Array.replicate 38 undef : Array Value) = #[undef,undef,undef,undef,undef,undef,undef,undef,undef,undef,undef,undef,undef,undef,undef,undef,undef,undef,undef,undef,undef,undef,undef,undef,undef,undef,undef,undef,undef,undef,undef,undef,undef,undef,undef,undef,undef,undef] from rfl]
  simp only [List.setIfInBounds_toArray,List.set_cons_succ,List.set_cons_zero,List.append_toArray,List.cons_append,List.nil_append]
  refine wpS_of_wp ?_
  go_wp2
  go_region
  go_wp2
  simp [bodyPostS,results,Try.results119]
  have B:=HH.out.cells
  refine ⟨((((Kp.refl (fun k=>k = E.hb) w).setCell (p:=⟨E.hb,2,none⟩) (.inl rfl) _).setCell (p:=⟨E.hb,4,none⟩) (.inl rfl) _).alloc _).drew,?_⟩
  exact (((B.set 2 (by simp) (.int .i64 2)).set 4 (by simp) (.int .i64 (obj h o).cls)).alloc _).drew
def RunsR (E : Ev) (L : Lay) (w : World) (s : Sh) (e : Ending) (w' : World) : Prop :=
  e = .returned (.tuple #[]) ∧ Kp (own E L) w w' ∧ ∃ vo,Blk w' E.hb [E.vc,E.vm,.int .i64 s.fin,.int .i64 s.value,.int .i64 s.cls,vo,.int .i64 s.used,.int .i64 s.steps] ∧ w'.ownsRow E.B 2 1 vo s.out.length (s.out.map (.int .i64 ·))
theorem runsR_of {w2 : World} {x y z : Int} (K1 : Kp (own E L) w w1) (H1 : PH E w1 L1 h 0) (K2 : Kp (fun k=>k = E.hb) w1 w2) (B2 : Blk w2 E.hb (shc E L1 h 0 x y z)) : RunsR E L w ⟨x,y,z,h.out,h.used,h.steps⟩ (.returned (.tuple #[])) w2:=by
  refine ⟨rfl,K1.trans K2 (fun y hy=>by subst hy;exact .inl (.inl rfl)),L1.vo,fun j hj=>?_,row_keep H1.out K2 (fun g hg e=>by subst e;exact H1.apart.1 hg)⟩
  match j,hj with
  | 0,_=>exact B2 0 (by simp [shc])
  | 1,_=>exact B2 1 (by simp [shc])
  | 2,_=>exact B2 2 (by simp [shc])
  | 3,_=>exact B2 3 (by simp [shc])
  | 4,_=>exact B2 4 (by simp [shc])
  | 5,_=>exact B2 5 (by simp [shc])
  | 6,_=>exact B2 6 (by simp [shc])
  | 7,_=>exact B2 7 (by simp [shc])
  | n + 8,hj=>exact absurd hj (by simp)
set_option maxRecDepth 100000 in
set_option maxHeartbeats 1000000 in
theorem firstP (H : PH E w L h d) (k : Nat) (hk : k < E.f.methods.length) (b0 b1 b2 b3 : Nat) (va : Value) (r : Res Vl) (c0 : w.cell? ⟨b0, 0, none⟩ = some (.pointer (some ⟨E.hb, 0, none⟩))) (c1 : w.cell? ⟨b1, 1, none⟩ = some E.vm) (c2 : w.cell? ⟨b2, 0, none⟩ = some (.int .i64 k)) (c3 : w.cell? ⟨b3, 0, none⟩ = some va)
    (hC : ∀ (W : World) (mv : Value),Below w.heap.size w W → VMe W E.B mv (meAt E.f k) → Calls Try.prog 64 #[.pointer (some ⟨E.hb,0,none⟩),mv,va] W (InvR E L d W r)) :
    Calls Try.prog 63 #[.pointer (some ⟨b0,0,none⟩),.pointer (some ⟨b1,0,none⟩),.pointer (some ⟨b2,0,none⟩),.pointer (some ⟨b3,0,none⟩)] w (InvR E L d w r):=by
  have HH:=Lib.hid H
  have HC:=Lib.hid hC
  obtain ⟨ma,mcap,hvm,q1,q2,hel⟩:=H.mes
  obtain ⟨mb,mo,hma,hmb,vp,vco,vh,m0,m1,m2,m3,m4,m5,m6,m7,mok,hp,hco,hh⟩:=hel k hk
  subst hma
  have em : E.f.methods[k] = meAt E.f k:=by unfold meAt;rw [List.getD_eq_getElem?_getD,List.getElem?_eq_getElem hk];rfl
  rw [em] at m1 m2 m3 m4 m5 mok hp hco hh
  rw [hvm] at c1
  have hEB : E.B ≤ w.heap.size:=by have:=H.base;omega
  have VM:=Lib.hid (show VMe w E.B (.agg #[vp,.int .i64 (meAt E.f k).ret.kind,.int .i64 (meAt E.f k).ret.cls,.int .i64 (meAt E.f k).stack,.int .i64 (meAt E.f k).locals,.int .i64 (meAt E.f k).regs,vco,vh]) (meAt E.f k) from ⟨_,_,_,rfl,mok,hp,hco,hh⟩)
  obtain ⟨pa,pcap,rfl,_⟩:=id hp
  obtain ⟨ca,ccap,rfl,_⟩:=id hco
  obtain ⟨xa,xcap,rfl,_⟩:=id hh
  have hk' : (k : Int) < E.f.methods.length:=by omega
  have l0:=cell_lt c0
  have l1:=cell_lt c1
  have l2:=cell_lt c2
  have l3:=cell_lt c3
  have l4:=cell_lt m0
  clear H hC hp hco hh mok hel hvm
  obtain ⟨me,hme⟩ : ∃ me,Hid (meAt E.f k = me):=⟨_,Lib.hid rfl⟩
  go_enter Try.func63,Try.ntmps63
  rw [hme.out] at VM HC m0 m1 m2 m3 m4 m5 m6 m7
  clear hme em
  go_wp2_with fail
  generalize hW1 : w.alloc (.cells #[.int .i64 0,.int .i64 0] 118) = W1
  replace hW1:=Lib.hid hW1
  have HB1:=Lib.hid (show Below w.heap.size w W1 from by rw [← hW1.out];exact Rd.byB)
  have x0 : W1.cell? ⟨w.heap.size,0,none⟩ = some (.int .i64 0):=by rw [← hW1.out];go_simp
  have x1 : W1.cell? ⟨w.heap.size,1,none⟩ = some (.int .i64 0):=by rw [← hW1.out];go_simp
  have f0 : W1.frozen? ⟨w.heap.size,0,none⟩ = false:=by rw [← hW1.out];go_simp
  have f1 : W1.frozen? ⟨w.heap.size,1,none⟩ = false:=by rw [← hW1.out];go_simp
  replace c0:=kept HB1.out l0 c0
  replace c1:=kept HB1.out l1 c1
  replace c2:=kept HB1.out l2 c2
  replace c3:=kept HB1.out l3 c3
  replace m0:=kept HB1.out l4 m0
  replace m1:=kept HB1.out l4 m1
  replace m2:=kept HB1.out l4 m2
  replace m3:=kept HB1.out l4 m3
  replace m4:=kept HB1.out l4 m4
  replace m5:=kept HB1.out l4 m5
  replace m6:=kept HB1.out l4 m6
  replace m7:=kept HB1.out l4 m7
  have hw1:=HB1.out.size
  have hlt1:=cell_lt x0
  replace l0:=cell_lt c0
  replace l1:=cell_lt c1
  replace l2:=cell_lt c2
  replace l3:=cell_lt c3
  replace l4:=cell_lt m0
  go_still_tail 7,(by kernel_rfl)
  go_wp2_with fail
  go_at_call 64
  have HB2:=Lib.hid (show Below w.heap.size w W1.drew from HB1.out.trans (by exact Rd.byB))
  refine (HC.out _ _ HB2.out (VM.out.mono (Below.mono HB2.out hEB) (Nat.le_refl _))).mono ?_
  rintro e w5 R
  have nr : ¬ own E L w.heap.size:=fun hk=>by have:=(own_lo HH.out hk).2;omega
  cases r with
  | thrown o h2 =>
    obtain ⟨⟨older,hol,rfl⟩,A⟩:=R
    refine And.intro rfl ?_
    exact ⟨⟨older,hol,rfl⟩,A.before HB2.out⟩
  | stop c h2 =>
    obtain ⟨⟨older,hol,rfl⟩,A⟩:=R
    refine And.intro rfl ?_
    exact ⟨⟨older,hol,rfl⟩,A.before HB2.out⟩
  | ok v h2 =>
    obtain ⟨vk,vn⟩:=v
    obtain ⟨rfl,A⟩:=R
    have y0:=A.cell (b:=w.heap.size) (o:=0) (v:=.int .i64 0) (by go_simp) nr
    have y1:=A.cell (b:=w.heap.size) (o:=1) (v:=.int .i64 0) (by go_simp) nr
    have g0:=A.frz (b:=w.heap.size) (o:=0) (x:=false) (by exact hlt1) (by go_simp) nr
    have g1:=A.frz (b:=w.heap.size) (o:=1) (x:=false) (by exact hlt1) (by go_simp) nr
    have hlt:=cell_lt y0
    unfold vl
    replace A:=Lib.hid A
    go_wp2_with fail
    refine bodyPost_ret (v:=.agg #[.int .i64 vk,.int .i64 vn]) (by simp [results,Try.results63,go_sem] <;> go_simp) rfl ?_
    exact ⟨rfl,A.out.res2 HH.out HB2.out (by omega) hlt1 _ _⟩
set_option maxRecDepth 100000 in
set_option maxHeartbeats 1000000 in
theorem runsP (H : PH E w L h 0) (p0 p1 p2 p3 : Value) (r : Res Vl) (hcall : Calls Try.prog 63 #[p0, p1, p2, p3] (w.alloc (.cells #[.pointer (some ⟨E.hb, 0, none⟩)] 113)) (InvR E L 0 (w.alloc (.cells #[.pointer (some ⟨E.hb, 0, none⟩)] 113)) r)) (hth : ∀ o h', r = .thrown o h' → o < h'.objs.length) :
    Calls Try.prog 62 #[.pointer (some ⟨E.hb,0,none⟩),.func (.func 63) #[] #[p0,p1,p2,p3]] w (RunsR E L w (shown r)):=by
  have HH:=Lib.hid H
  have HC:=Lib.hid hcall
  have nr : ¬ own E L w.heap.size:=fun hk=>by have:=(own_lo H hk).2;omega
  have hmf : ∀ (fn : Fn) (first cap : Array Value) (w : World),(Instr.makeFunc fn first cap).run Try.prog w = .ok (.func fn first cap) w:=fun _ _ _ _=>rfl
  clear H hcall
  go_enter_defers Try.func62,Try.ntmps62
  go_wp2_with fail
  refine HC.out.mono ?_
  rintro e w2 R
  cases r with
  | thrown o h2 =>
    obtain ⟨⟨older,hol,rfl⟩,A⟩:=R
    have ho:=hth o h2 rfl
    have b0:=A.cell (b:=w.heap.size) (o:=0) (v:=.pointer (some ⟨E.hb,0,none⟩)) (by go_simp) nr
    obtain ⟨L1,K1,N1,H1⟩:=A.before (w:=w) (by exact Rd.byB)
    have hdw:=drop_all older hol
    go_wp2_with fail
    refine leaves_cons (f:=119) (args:=#[.pointer (some ⟨w.heap.size,0,none⟩)]) (by simp) (by simp [go_sem]) ?_
    refine (runsThrown H1 w.heap.size o ho older b0).mono ?_
    rintro e u' w'' ⟨rfl,rfl,K2,B2⟩
    simp [Leaves,settle,hdw,results,Try.results62,go_sem]
    exact runsR_of K1 H1 K2 B2
  | stop c h2 =>
    obtain ⟨⟨older,hol,rfl⟩,A⟩:=R
    have b0:=A.cell (b:=w.heap.size) (o:=0) (v:=.pointer (some ⟨E.hb,0,none⟩)) (by go_simp) nr
    obtain ⟨L1,K1,N1,H1⟩:=A.before (w:=w) (by exact Rd.byB)
    have hdw:=drop_all older hol
    go_wp2_with fail
    refine leaves_cons (f:=119) (args:=#[.pointer (some ⟨w.heap.size,0,none⟩)]) (by simp) (by simp [go_sem]) ?_
    refine (runsStop H1 w.heap.size c older b0).mono ?_
    rintro e u' w'' ⟨rfl,rfl,K2,B2⟩
    simp [Leaves,settle,hdw,results,Try.results62,go_sem]
    exact runsR_of K1 H1 K2 B2
  | ok v h2 =>
    obtain ⟨vk,vn⟩:=v
    obtain ⟨rfl,A⟩:=R
    have b0:=A.cell (b:=w.heap.size) (o:=0) (v:=.pointer (some ⟨E.hb,0,none⟩)) (by go_simp) nr
    obtain ⟨L1,K1,N1,H1⟩:=A.before (w:=w) (by exact Rd.byB)
    have c2:=(H1.cells 2 (by simp)).1
    have f2:=(H1.cells 2 (by simp)).2
    have c3:=(H1.cells 3 (by simp)).1
    have f3:=(H1.cells 3 (by simp)).2
    simp only [List.getElem_cons_zero,List.getElem_cons_succ] at c2 c3
    have hhb:=H1.hbw
    have hlt:=cell_lt b0
    have nb : w.heap.size ≠ E.hb:=by have:=HH.out.hbw;omega
    have nb2:=nb.symm
    unfold vl
    have H1h:=Lib.hid H1
    clear H1 A
    by_cases q1 : vk = 1
    · subst q1
      go_wp2_with fail
      refine leaves_cons (f:=119) (args:=#[.pointer (some ⟨w.heap.size,0,none⟩)]) (by simp) (by simp [go_sem]) ?_
      refine (runsIdle _ _).mono ?_
      rintro e u' w'' ⟨rfl,rfl,rfl⟩
      simp [Leaves,settle,results,Try.results62,go_sem]
      have hsh : shown (.ok ⟨1,vn⟩ h2) = ⟨1,vn,0,h2.out,h2.used,h2.steps⟩:=by simp [shown]
      rw [hsh]
      refine runsR_of K1 H1h.out ((((Kp.refl (fun k=>k = E.hb) w2).setCell (p:=⟨E.hb,2,none⟩) (.inl rfl) _).setCell (p:=⟨E.hb,3,none⟩) (.inl rfl) _).alloc _) ?_
      exact ((H1h.out.cells.set 2 (by simp) (.int .i64 1)).set 3 (by simp) (.int .i64 vn)).alloc _
    by_cases q2 : vk = 2
    · subst q2
      go_wp2_with fail
      refine leaves_cons (f:=119) (args:=#[.pointer (some ⟨w.heap.size,0,none⟩)]) (by simp) (by simp [go_sem]) ?_
      refine (runsIdle _ _).mono ?_
      rintro e u' w'' ⟨rfl,rfl,rfl⟩
      simp [Leaves,settle,results,Try.results62,go_sem]
      have hsh : shown (.ok ⟨2,vn⟩ h2) = ⟨1,vn,0,h2.out,h2.used,h2.steps⟩:=by simp [shown]
      rw [hsh]
      refine runsR_of K1 H1h.out ((((Kp.refl (fun k=>k = E.hb) w2).setCell (p:=⟨E.hb,2,none⟩) (.inl rfl) _).setCell (p:=⟨E.hb,3,none⟩) (.inl rfl) _).alloc _) ?_
      exact ((H1h.out.cells.set 2 (by simp) (.int .i64 1)).set 3 (by simp) (.int .i64 vn)).alloc _
    · have q1b : (vk == 1) = false:=by simpa using q1
      have q2b : (vk == 2) = false:=by simpa using q2
      go_wp2_with fail
      refine leaves_cons (f:=119) (args:=#[.pointer (some ⟨w.heap.size,0,none⟩)]) (by simp) (by simp [go_sem]) ?_
      refine (runsIdle _ _).mono ?_
      rintro e u' w'' ⟨rfl,rfl,rfl⟩
      simp [Leaves,settle,results,Try.results62,go_sem]
      have hsh : shown (.ok ⟨vk,vn⟩ h2) = ⟨1,0,0,h2.out,h2.used,h2.steps⟩:=by simp [shown,q1,q2]
      rw [hsh]
      refine runsR_of K1 H1h.out (((Kp.refl (fun k=>k = E.hb) w2).setCell (p:=⟨E.hb,2,none⟩) (.inl rfl) _).alloc _) ?_
      exact (H1h.out.cells.set 2 (by simp) (.int .i64 1)).alloc _
end
end Hpw
end Go.Proofs.Ytncmhenfgbcihab
namespace Go.Proofs.Ytncmhenfgbcihab
open Go.RowKit
set_option linter.unusedSimpArgs false
set_option linter.unusedVariables false
namespace FormW
open Num Rd D HierW
theorem sin (n lo hi : Int) (w : World) : Calls Try.prog 89 #[.int .i64 n,.int .i64 lo,.int .i64 hi] w fun e w'=>e = .returned (.bool (Form.rng n lo hi)) ∧ w = w':=by
  go_enter Try.func89,Try.ntmps89
  go_wp2
  all_goals go_ret
  all_goals go_tidy
  all_goals refine ⟨ret_bool ?_,rfl⟩
  all_goals simp_all [Form.rng]
  all_goals (intros;omega)
theorem name_world {G : World → Prop} {w : World} (R : World → Prop) (hR : R w) (h : ∀ W,R W → G W) : G w:=h w hR
def Ts (w : World) (v : Value) (l : List Ty) : Prop:=Sl 2 ETy w w.heap.size v l
theorem Ts.next {w w' : World} {v : Value} {l : List Ty} (h : Ts w v l) (hb : Below w.heap.size w w') : Ts w' v l:=Sl.mono mTy h hb hb.size
theorem lt_cell {W : World} {b o : Nat} {v : Value} (h : W.cell? ⟨b,o,none⟩ = some v) : b < W.heap.size:=by
  unfold World.cell? at h
  split at h
  · rename_i hx
    exact (Array.getElem?_eq_some_iff.1 hx).1
  · cases h
theorem Ts.one {w : World} {b : Nat} {k c : Int} (h1 : w.cell? ⟨b,0,none⟩ = some (.int .i64 k)) (h2 : w.cell? ⟨b,1,none⟩ = some (.int .i64 c)) (o1 : Ok k) (o2 : Ok c) : Ts w (.slice (some ⟨b,0,none⟩) 1 1) [⟨k,c⟩]:=by
  refine ⟨some ⟨b,0,none⟩,1,rfl,by simp,by omega,fun i hi=>?_⟩
  obtain rfl : i = 0:=by simpa using hi
  exact ⟨b,0,rfl,lt_cell h1,h1,h2,o1,o2⟩
theorem slots_end {l : List Ty} {k : Nat} (h : ¬ k < l.length) (hk : k ≤ l.length) : Form.slots (l.take k) = Form.slots l:=by
  rw [List.take_of_length_le (by omega)]
set_option maxHeartbeats 1000000 in
theorem slots (v : Value) (l : List Ty) (w : World) (h : Ts w v l) (hs : l.length ≤ 1000000000) : Calls Try.prog 92 #[v] w fun e w'=>e = .returned (.int .i64 (Form.slots l : Nat)) ∧ Below w.heap.size w w':=by
  obtain ⟨a,cap,rfl,hlc,hcc,hel⟩:=h
  go_enter Try.func92,Try.ntmps92
  go_wp2
  go_loopw [3,8] (fun n i wr=>∃ k : Nat,k ≤ l.length ∧ i = .int .i64 k ∧ n = .int .i64 (Form.slots (l.take k) : Nat) ∧ Below w.heap.size w wr) (fun _ i _=>l.length - (intOf i).toNat)
  case atStart=>exact ⟨0,by omega,rfl,rfl,Below.refl _ _⟩
  case round =>
    obtain ⟨k,hk,rfl,rfl,hbw⟩:=hrel
    have hbs:=hbw.size
    have hle:=Form.slots_le (l.take k)
    have hlt' : (l.take k).length ≤ k:=List.length_take_le _ _
    by_cases hlt : k < l.length
    · obtain ⟨b,o,rfl,hb,he⟩:=hel k hlt
      have hst:=Lib.hid (Form.slots_take hlt)
      obtain ⟨t,ht⟩:=at_of hlt
      rw [ht.out] at he hst
      obtain ⟨g1,g2,_,_⟩:=he
      have k1:=kept hbw hb g1
      have k2:=kept hbw hb g2
      obtain ⟨kd,c⟩:=t
      simp only at k1 k2
      obtain ⟨S,hS⟩ : ∃ S,Hid (Form.slots (l.take k) = S):=⟨_,rfl⟩
      rw [hS.out] at hst hle ⊢
      have hS2 : (S : Int) ≤ 2000000000:=by omega
      clear hel g1 g2 hlt'
      by_cases q : kd = 2
      · subst q
        go_wp2
        go_roundw
        case rel=>exact ⟨k + 1,by omega,by go_num,by rw [hst.out];simp;omega,Rd.byB⟩
        case measure=>simp [intOf];omega
      · have q' : (kd == 2) = false:=by simpa using q
        go_wp2
        go_roundw
        case rel=>exact ⟨k + 1,by omega,by go_num,by rw [hst.out,if_neg q];simp,Rd.byB⟩
        case measure=>simp [intOf];omega
    · have hst:=Lib.hid (slots_end hlt hk)
      clear hel
      go_wp2
      go_ret
      exact ⟨ret_int (by rw [hst.out]),hbw⟩
theorem slotsV (v : Value) (l : List Ty) (S : Nat) (w : World) (h : Ts w v l) (hs : l.length ≤ 1000000000) (hS : Form.slots l = S) : Calls Try.prog 92 #[v] w fun e w'=>e = .returned (.int .i64 S) ∧ Below w.heap.size w w':=by
  subst hS;exact slots v l w h hs
theorem slots_one (k c : Int) : (Form.slots [⟨k,c⟩] : Int) = Form.wide k:=by
  simp only [Form.slots,Form.wide];split <;> rfl
theorem sinV (n lo hi : Int) (p : Bool) (w : World) (hp : Form.rng n lo hi = p) : Calls Try.prog 89 #[.int .i64 n,.int .i64 lo,.int .i64 hi] w fun e w'=>e = .returned (.bool p) ∧ w = w':=by
  subst hp;exact sin n lo hi w
theorem sin' (n lo hi : Int) (w : World) : Calls Try.prog 89 #[.int .i64 n,.int .i64 lo,.int .i64 hi] w fun e w'=>e = .returned (.bool (Form.rng n lo hi)) ∧ w' = w:=(sin n lo hi w).mono fun e w' ⟨h1,h2⟩=>⟨h1,h2.symm⟩
theorem ty_s1 : Try.prog.underlying 51 = some (.struct (Try.prog.fieldsOf 51)):=by kernel_rfl
theorem ty_s2 : Try.prog.stoodInHeld 51 = false:=by kernel_rfl
theorem ty_s3 : Try.prog.eqGuardType Try.prog.depth 51 = false:=by kernel_rfl
theorem ty_s4 : (Try.prog.fieldsOf 51).toList = [⟨"Kind", 3, 0, false, "", "", 0⟩, ⟨"Class", 3, 1, false, "", "", 8⟩] := by kernel_rfl
theorem run_eql_ty (k c k' c' : Int) (w : World) : (binOp .eql 51 (.agg #[.int .i64 k,.int .i64 c]) (.agg #[.int .i64 k',.int .i64 c'])).run Try.prog w = .ok (.bool (k == k' && c == c')) w:=by
  rw [run_eql_struct,run_equalIn_agg _ 9999 51 _ _ ty_s1 ty_s2,ty_s4]
  simp [Op.eqFields,Sem.run_bind,go_sem]
  by_cases h1 : k = k' <;> by_cases h2 : c = c' <;> simp [h1,h2]
theorem run_neq_ty (k c k' c' : Int) (w : World) : (binOp .neq 51 (.agg #[.int .i64 k,.int .i64 c]) (.agg #[.int .i64 k',.int .i64 c'])).run Try.prog w = .ok (.bool (!(k == k' && c == c'))) w:=by
  rw [run_neq_struct,run_equalIn_agg _ 9999 51 _ _ ty_s1 ty_s2,ty_s4]
  simp [Op.eqFields,Sem.run_bind,go_sem]
  by_cases h1 : k = k' <;> by_cases h2 : c = c' <;> simp [h1,h2]
theorem run_guard_ty (op : BinOp) (x y : Operand) (xs ys : Array Value) (w : World) : (eqGuard op 51 x y (.agg xs) (.agg ys)).run Try.prog w = .ok () w:=run_eqGuard_agg w op 51 x y xs ys ty_s3
end FormW
end Go.Proofs.Ytncmhenfgbcihab
namespace Go.Proofs.Ytncmhenfgbcihab
open Go.RowKit
set_option linter.unusedSimpArgs false
set_option linter.unusedVariables false
namespace FormW
open Num Rd D HierW
theorem ret_bool3 {a b c d e f : Bool} (h1 : a = d) (h2 : b = e) (h3 : c = f) : Ending.returned (.tuple #[.bool a,.bool b,.bool c]) = .returned (.tuple #[.bool d,.bool e,.bool f]):=by rw [h1,h2,h3]
set_option maxRecDepth 100000 in
set_option maxHeartbeats 8000000 in
theorem fields (f : Fi) (m : Me) (i : Ins) (vf vm vi : Value) (w : World) (hf : VFi w w.heap.size vf f) (hm : VMe w w.heap.size vm m) (hi : VIns w w.heap.size vi i) (hloc : 0 ≤ m.locals ∧ m.locals ≤ 60) :
    Calls Try.prog 142 #[vf,vm,vi] w fun e w'=>e = .returned (.tuple #[.bool (Form.sa f.classes f.methods.length m.code.length m.locals i),.bool (Form.sb f.classes i),.bool (Form.sn i)]) ∧ Below w.heap.size w w':=by
  obtain ⟨vc,vme,rfl,⟨ca,ccap,rfl,clc,ccc,cel⟩,⟨ma,mcap,rfl,mlc,mcc,_⟩⟩:=hf
  obtain ⟨vp,vcd,vh,rfl,⟨_,_,_,okl,_⟩,_,⟨da,dcap,rfl,dlc,dcc,_⟩,_⟩:=hm
  obtain ⟨va,rfl,⟨oop,oa,ob,oc,on⟩,_⟩:=hi
  obtain ⟨op,a,b,c,n,args⟩:=i
  simp only at *
  unfold Ok at *
  obtain ⟨hloc1,hloc2⟩:=hloc
  go_enter Try.func142,Try.ntmps142
  go_wp2
  go_quiet (fail)
  refine name_world (fun W=>Below w.heap.size w W ∧ w.heap.size + 3 ≤ W.heap.size ∧
    (W.cell? ⟨w.heap.size,0,none⟩ = some (.slice ca f.classes.length ccap) ∧ W.cell? ⟨w.heap.size,1,none⟩ = some (.slice ma f.methods.length mcap)) ∧
    (W.cell? ⟨w.heap.size + 1,4,none⟩ = some (.int .i64 m.locals) ∧ W.cell? ⟨w.heap.size + 1,6,none⟩ = some (.slice da m.code.length dcap)) ∧
    W.cell? ⟨w.heap.size + 1 + 1,0,none⟩ = some (.int .i64 op) ∧ W.cell? ⟨w.heap.size + 1 + 1,1,none⟩ = some (.int .i64 a) ∧ W.cell? ⟨w.heap.size + 1 + 1,2,none⟩ = some (.int .i64 b) ∧ W.cell? ⟨w.heap.size + 1 + 1,4,none⟩ = some (.int .i64 n))
    ?_ ?_
  · refine ⟨Rd.byB,?_,⟨?_,?_⟩,⟨?_,?_⟩,?_,?_,?_,?_⟩
    all_goals go_simp
  rintro W ⟨hbw,hsz,⟨f1,f2⟩,⟨m1,m2⟩,i1,i2,i3,i4⟩
  have hbs:=Lib.hid hbw
  go_wp2_with (go_at_call 89;refine (sin _ _ _ _).mono ?_;rintro e w' ⟨rfl,rfl⟩)
  all_goals first
    | (go_ret3
       refine ⟨ret_bool3 ?_ ?_ ?_,Rd.byB⟩
       all_goals go_tidy
       all_goals simp_all [Form.sa,Form.sb,Form.sn]
       all_goals first | rfl | (intros;omega) | (rw [wrap64_id (wrap32_ok _),Bool.eq_iff_iff];simp;exact eq_comm))
    | skip
  · have o1 : Ok b:=ob
    have o2 : Ok 0:=by unfold Ok;omega
    obtain ⟨S,hS⟩ : ∃ S,Hid (Form.slots [⟨b,0⟩] = S):=⟨_,rfl⟩
    have hS' : Hid ((S : Int) = Form.wide b):=by show _ = _;rw [← hS.out];exact slots_one b 0
    have hS2 : (S : Int) ≤ 2:=by rw [hS'.out];unfold Form.wide;split <;> omega
    go_region_held3 (fun w'=>w'.cell? ⟨w.heap.size + 1 + 1,1,none⟩ = some (.int .i64 a) ∧ w'.cell? ⟨w.heap.size + 1 + 1,2,none⟩ = some (.int .i64 b) ∧ w'.cell? ⟨w.heap.size + 1,4,none⟩ = some (.int .i64 m.locals))
      (first | exact ⟨i2,i3,m1⟩ | exact ⟨k2,k3,k1⟩ | go_keep)
      (first
      | (go_at_call 92;refine (slotsV _ [⟨b,0⟩] S _ (Ts.one (by go_simp) (by go_simp) o1 o2) (by simp) hS.out).mono ?_;rintro e w2 ⟨rfl,hb2⟩;have hbW : Below W.heap.size W w2:=Below.trans Rd.byB (hb2.mono (by simp));have k1:=kept hbW (by omega) m1;have k2:=kept hbW (by omega) i2;have k3:=kept hbW (by omega) i3)
      | (go_at_call 89;refine (sin _ _ _ _).mono ?_;rintro e w3 ⟨rfl,rfl⟩))
    go_wp2
    go_ret3
    have hS3:=hS'.out
    have hbW2 : Below w.heap.size w w2:=hbs.out.trans (hbW.mono hbs.out.size)
    refine ⟨ret_bool3 ?_ ?_ ?_,hbW2⟩
    all_goals go_tidy
    · rw [Num.wrap_i64,Num.wrap_i64,wrap64_id (show Ok (m.locals + 1) from ⟨by omega,by omega⟩),wrap64_id (show Ok (m.locals + 1 - S) from ⟨by omega,by omega⟩),hS3]
      simp_all [Form.sa]
    · simp_all [Form.sb]
    · simp_all [Form.sn]
      try rfl
  · have o1 : Ok b:=ob
    have o2 : Ok 0:=by unfold Ok;omega
    obtain ⟨S,hS⟩ : ∃ S,Hid (Form.slots [⟨b,0⟩] = S):=⟨_,rfl⟩
    have hS' : Hid ((S : Int) = Form.wide b):=by show _ = _;rw [← hS.out];exact slots_one b 0
    have hS2 : (S : Int) ≤ 2:=by rw [hS'.out];unfold Form.wide;split <;> omega
    go_region_held3 (fun w'=>w'.cell? ⟨w.heap.size + 1 + 1,1,none⟩ = some (.int .i64 a) ∧ w'.cell? ⟨w.heap.size + 1 + 1,2,none⟩ = some (.int .i64 b) ∧ w'.cell? ⟨w.heap.size + 1,4,none⟩ = some (.int .i64 m.locals))
      (first | exact ⟨i2,i3,m1⟩ | exact ⟨k2,k3,k1⟩ | go_keep)
      (first
      | (go_at_call 92;refine (slotsV _ [⟨b,0⟩] S _ (Ts.one (by go_simp) (by go_simp) o1 o2) (by simp) hS.out).mono ?_;rintro e w2 ⟨rfl,hb2⟩;have hbW : Below W.heap.size W w2:=Below.trans Rd.byB (hb2.mono (by simp));have k1:=kept hbW (by omega) m1;have k2:=kept hbW (by omega) i2;have k3:=kept hbW (by omega) i3)
      | (go_at_call 89;refine (sin _ _ _ _).mono ?_;rintro e w3 ⟨rfl,rfl⟩))
    go_wp2
    go_ret3
    have hS3:=hS'.out
    have hbW2 : Below w.heap.size w w2:=hbs.out.trans (hbW.mono hbs.out.size)
    refine ⟨ret_bool3 ?_ ?_ ?_,hbW2⟩
    all_goals go_tidy
    · rw [Num.wrap_i64,Num.wrap_i64,wrap64_id (show Ok (m.locals + 1) from ⟨by omega,by omega⟩),wrap64_id (show Ok (m.locals + 1 - S) from ⟨by omega,by omega⟩),hS3]
      simp_all [Form.sa]
    · simp_all [Form.sb]
    · simp_all [Form.sn]
      try rfl
  · obtain ⟨p,hp⟩ : ∃ p,Hid (Form.rng a 0 f.classes.length = p):=⟨_,rfl⟩
    rw [hp.out]
    cases p
    · have hr:=hp.out
      go_quiet (fail)
      go_wp2
      go_ret3
      refine ⟨ret_bool3 ?_ ?_ ?_,Rd.byB⟩
      all_goals go_tidy
      all_goals simp_all [Form.sa,Form.sb,Form.sn]
      all_goals first | rfl | (intros;omega)
    · have hr:=hp.out
      have hr2 : 0 ≤ a ∧ a < f.classes.length:=by simpa [Form.rng] using hr
      obtain ⟨k,rfl⟩:=Int.eq_ofNat_of_zero_le hr2.1
      have hk : k < f.classes.length:=by omega
      obtain ⟨b0,o0,rfl,hb0,he⟩:=cel k hk
      have hnf : Hid (Form.nf f.classes (k : Int) = (f.classes[k]).fields.length):=by
        show _ = _
        rw [Form.nf,Int.toNat_natCast,Hier.at_eq hk]
      obtain ⟨x,hx⟩:=at_of hk
      rw [hx.out] at he hnf
      obtain ⟨_,_,fv,g3,fa,fcap,rfl,flc,fcc,_⟩:=he
      have g4:=kept hbw hb0 g3
      clear cel g3
      have hr3:=hr2.2
      go_quiet ((go_at_call 89;exact Calls.quiet_of_same (sin' _ _ _ _)))
      go_wp2
      go_ret3
      refine ⟨ret_bool3 ?_ ?_ ?_,Rd.byB⟩
      all_goals go_tidy
      all_goals simp_all [Form.sa,Form.sb,Form.sn,hnf.out]
      all_goals first | rfl | (intros;omega)
  · obtain ⟨p,hp⟩ : ∃ p,Hid (Form.rng a 0 f.classes.length = p):=⟨_,rfl⟩
    rw [hp.out]
    cases p
    · have hr:=hp.out
      go_quiet (fail)
      go_wp2
      go_ret3
      refine ⟨ret_bool3 ?_ ?_ ?_,Rd.byB⟩
      all_goals go_tidy
      all_goals simp_all [Form.sa,Form.sb,Form.sn]
      all_goals first | rfl | (intros;omega)
    · have hr:=hp.out
      have hr2 : 0 ≤ a ∧ a < f.classes.length:=by simpa [Form.rng] using hr
      obtain ⟨k,rfl⟩:=Int.eq_ofNat_of_zero_le hr2.1
      have hk : k < f.classes.length:=by omega
      obtain ⟨b0,o0,rfl,hb0,he⟩:=cel k hk
      have hnf : Hid (Form.nf f.classes (k : Int) = (f.classes[k]).fields.length):=by
        show _ = _
        rw [Form.nf,Int.toNat_natCast,Hier.at_eq hk]
      obtain ⟨x,hx⟩:=at_of hk
      rw [hx.out] at he hnf
      obtain ⟨_,_,fv,g3,fa,fcap,rfl,flc,fcc,_⟩:=he
      have g4:=kept hbw hb0 g3
      clear cel g3
      have hr3:=hr2.2
      go_quiet ((go_at_call 89;exact Calls.quiet_of_same (sin' _ _ _ _)))
      go_wp2
      go_ret3
      refine ⟨ret_bool3 ?_ ?_ ?_,Rd.byB⟩
      all_goals go_tidy
      all_goals simp_all [Form.sa,Form.sb,Form.sn,hnf.out]
      all_goals first | rfl | (intros;omega)
end FormW
end Go.Proofs.Ytncmhenfgbcihab
namespace Go.Proofs.Ytncmhenfgbcihab
open Go.RowKit
set_option linter.unusedSimpArgs false
set_option linter.unusedVariables false
namespace FormW
open Num Rd D HierW
set_option maxRecDepth 100000 in
set_option maxHeartbeats 8000000 in
theorem head (f : Fi) (m : Me) (most : Int) (vf vm : Value) (w : World) (hf : VFi w w.heap.size vf f) (hm : VMe w w.heap.size vm m) (hmost : 0 ≤ most ∧ most ≤ 100000) :
    Calls Try.prog 111 #[vf,vm,.int .i64 most] w fun e w'=>e = .returned (.bool (Form.head f.classes.length m most)) ∧ Below w.heap.size w w':=by
  obtain ⟨vc,vme,rfl,⟨ca,ccap,rfl,clc,ccc,_⟩,⟨ma,mcap,rfl,mlc,mcc,_⟩⟩:=hf
  obtain ⟨vp,vcd,vh,rfl,⟨ok1,ok2,_,_,_⟩,⟨pa,pcap,rfl,plc,pcc,pel⟩,⟨da,dcap,rfl,dlc,dcc,_⟩,⟨ha,hcap,rfl,hlc,hcc,hel⟩⟩:=hm
  obtain ⟨most1,most2⟩:=hmost
  unfold Ok at ok1 ok2
  obtain ⟨rk,hrk⟩ : ∃ rk,Hid (m.ret.kind = rk):=⟨_,rfl⟩
  obtain ⟨rc,hrc⟩ : ∃ rc,Hid (m.ret.cls = rc):=⟨_,rfl⟩
  rw [hrk.out] at ok1
  rw [hrc.out] at ok2
  rw [hrk.out,hrc.out]
  go_enter Try.func111,Try.ntmps111
  go_wp2_with fail
  refine name_world (fun W=>Below w.heap.size w W ∧ w.heap.size + 2 ≤ W.heap.size ∧
    (W.cell? ⟨w.heap.size,0,none⟩ = some (.slice ca f.classes.length ccap) ∧ W.cell? ⟨w.heap.size,1,none⟩ = some (.slice ma f.methods.length mcap)) ∧
    W.cell? ⟨w.heap.size + 1,0,none⟩ = some (.slice pa m.params.length pcap) ∧ W.cell? ⟨w.heap.size + 1,1,none⟩ = some (.int .i64 rk) ∧ W.cell? ⟨w.heap.size + 1,2,none⟩ = some (.int .i64 rc) ∧ W.cell? ⟨w.heap.size + 1,6,none⟩ = some (.slice da m.code.length dcap) ∧ W.cell? ⟨w.heap.size + 1,7,none⟩ = some (.slice ha m.handlers.length hcap))
    ?_ ?_
  · refine ⟨Rd.byB,?_,⟨?_,?_⟩,?_,?_,?_,?_,?_⟩
    all_goals go_simp
  rintro W ⟨hbw,hsz,⟨f1,f2⟩,m0,m1,m2,m6,m7⟩
  have hbs:=hbw.size
  have hbW:=Lib.hid hbw
  go_loopw [14] (fun i wr=>∃ k : Nat,k ≤ m.params.length ∧ i = .int .i64 k ∧ Below W.heap.size W wr ∧ Hid (∀ j (h : j < m.params.length),j < k → Hier.ty f.classes.length m.params[j] = true)) (fun i _=>m.params.length - (intOf i).toNat)
  case atStart=>exact ⟨0,by omega,rfl,Below.refl _ _,fun j _ h=>absurd h (by omega)⟩
  case round =>
    obtain ⟨k,hk,rfl,hr,hall⟩:=hrel
    have hrs:=hr.size
    have n1 : w.heap.size < wr.heap.size:=by omega
    have n2 : w.heap.size + 1 < wr.heap.size:=by omega
    have a1:=kept hr (by omega) f1
    have a2:=kept hr (by omega) m0
    have a3:=kept hr (by omega) m1
    have a4:=kept hr (by omega) m2
    have a5:=kept hr (by omega) m6
    have a6:=kept hr (by omega) m7
    by_cases hlt : k < m.params.length
    · obtain ⟨b,o,rfl,hb,he⟩:=pel k hlt
      have hyes:=Lib.hid (Form.all_step (p:=Hier.ty f.classes.length) hall.out hlt)
      have hno:=Lib.hid (Form.head_param (nc:=f.classes.length) (most:=most) hlt)
      obtain ⟨t,ht⟩:=at_of hlt
      rw [ht.out] at he hyes hno
      obtain ⟨g1,g2,_,_⟩:=he
      have hwr : Below w.heap.size w wr:=hbw.trans (hr.mono hbs)
      have k1:=kept hwr hb g1
      have k2:=kept hwr hb g2
      clear pel g1 g2 hel f1 f2 m0 m1 m2 m6 m7 a2 a3 a4 a5 a6
      obtain ⟨tb,htb⟩ : ∃ tb,Hid (Hier.ty f.classes.length t = tb):=⟨_,rfl⟩
      cases tb
      · go_wp2_with (go_at_call 141;refine (type _ _ _ t _).mono ?_;rw [htb.out];rintro e w1 ⟨rfl,hb1⟩)
        go_ret
        exact ⟨ret_bool (hno.out htb.out).symm,(hwr.alloc (by omega) _).trans (hb1.mono (by simp;omega))⟩
      · go_wp2_with (go_at_call 141;refine (type _ _ _ t _).mono ?_;rw [htb.out];rintro e w1 ⟨rfl,hb1⟩)
        go_roundw
        case rel=>exact ⟨k + 1,by omega,by go_num,(hr.alloc (by omega) _).trans (hb1.mono (by simp;omega)),hyes.out htb.out⟩
        case measure=>simp [intOf];omega
    · obtain ⟨wo,rfl⟩ : ∃ wo : World,wo = wr:=⟨_,rfl⟩
      have hpar:=Lib.hid (Form.all_of (fun j hj=>hall.out j hj (by omega)))
      have hwo : Below w.heap.size w wo:=hbw.trans (hr.mono hbs)
      clear pel hall f1 f2 m0 m1 m2 m6 m7
      go_wp2
      go_loopw [27] (fun i wr=>∃ k : Nat,k ≤ m.handlers.length ∧ i = .int .i64 k ∧ Below wo.heap.size wo wr ∧ Hid (∀ j (h : j < m.handlers.length),j < k → Form.hd f.classes.length m.code.length m.handlers[j] = true)) (fun i _=>m.handlers.length - (intOf i).toNat)
      case atStart=>exact ⟨0,by omega,rfl,Below.refl _ _,fun j _ h=>absurd h (by omega)⟩
      case round =>
        obtain ⟨k,hk,rfl,hq,hall⟩:=hrel
        have hqs:=hq.size
        have n3 : w.heap.size < wr.heap.size:=by omega
        have n4 : w.heap.size + 1 < wr.heap.size:=by omega
        have c1:=kept hq (by omega) a1
        have c2:=kept hq (by omega) a2
        have c3:=kept hq (by omega) a3
        have c4:=kept hq (by omega) a4
        have c5:=kept hq (by omega) a5
        have c6:=kept hq (by omega) a6
        clear a1 a2 a3 a4 a5 a6
        have hwr : Below w.heap.size w wr:=hwo.trans (hq.mono (by omega))
        by_cases hlt : k < m.handlers.length
        · obtain ⟨b,o,rfl,hb,he⟩:=hel k hlt
          have hyes:=Lib.hid (Form.all_step (p:=Form.hd f.classes.length m.code.length) hall.out hlt)
          have hno:=Lib.hid (Form.head_hd (nc:=f.classes.length) (most:=most) hlt)
          obtain ⟨t,ht⟩:=at_of hlt
          rw [ht.out] at he hyes hno
          obtain ⟨g1,g2,g3,g4,_⟩:=he
          have k1:=kept hwr hb g1
          have k2:=kept hwr hb g2
          have k3:=kept hwr hb g3
          have k4:=kept hwr hb g4
          obtain ⟨lo,hi,go,cl⟩:=t
          simp only at k1 k2 k3 k4
          clear hel g1 g2 g3 g4 c2 c3 c4 c6
          have hq2:=Lib.hid hq
          have hwr2:=Lib.hid hwr
          go_wp2_with (go_at_call 89;refine (sin _ _ _ _).mono ?_;rintro e w1 ⟨rfl,rfl⟩)
          all_goals first
            | (go_ret
               refine ⟨ret_bool (hno.out ?_).symm,Rd.byB⟩
               go_tidy
               rw [Bool.eq_false_iff]
               simp only [Form.hd,Bool.and_eq_true,decide_eq_true_eq,ne_eq]
               rintro ⟨⟨z1,z2⟩,z3⟩
               first | omega | (simp_all;done) | (simp only [z2,z3,Bool.not_true,Bool.false_eq_true,or_false] at *;omega))
            | skip
          go_roundw
          case rel =>
            refine ⟨k + 1,by omega,by go_num,hq2.out.alloc (by omega) _,hyes.out ?_⟩
            go_tidy
            simp only [Form.hd,Bool.and_eq_true,decide_eq_true_eq]
            refine ⟨⟨⟨by omega,by omega,by omega⟩,?_⟩,?_⟩
            · assumption
            · simp_all
          case measure=>simp [intOf];omega
        · have hge : m.handlers.length ≤ k:=by omega
          have hh : m.handlers.all (Form.hd f.classes.length m.code.length) = true:=Form.all_of (fun j hj=>hall.out j hj (by omega))
          have hhd:=Lib.hid (Form.head_rest (nc:=f.classes.length) (most:=most) hpar.out hh)
          clear hh
          clear hel hall
          obtain ⟨tr,htr⟩ : ∃ tr,Hid (Hier.ty f.classes.length ⟨rk,rc⟩ = tr):=⟨_,rfl⟩
          obtain ⟨rr,hrr⟩ : ∃ rr,Hid (Form.rng m.code.length 1 (most + 1) = rr):=⟨_,rfl⟩
          by_cases d1 : m.params.length ≤ 4
          · have d1' : (m.params.length : Int) ≤ 4:=by omega
            have hq:=fun w=>run_eql_ty rk rc 0 0 w
            have hg:=fun op x y xs ys w=>run_guard_ty op x y xs ys w
            have hnr : Hid (Form.ret f.classes.length m.ret = (decide (rk = 0 ∧ rc = 0) || tr)):=by
              show _ = _
              rw [← htr.out,← hrk.out,← hrc.out];rfl
            have hrr' : Hid (Form.head f.classes.length m most = (true && (decide (rk = 0 ∧ rc = 0) || tr) && rr && decide (m.handlers.length ≤ 8))):=by
              show _ = _
              rw [hhd.out,decide_eq_true d1,hnr.out,hrr.out]
            clear hhd hnr
            cases tr <;> cases rr
            all_goals
              go_wp2_with (first
                | (go_at_call 141;refine (type _ _ _ ⟨rk,rc⟩ _).mono ?_;rw [htr.out];rintro e w1 ⟨rfl,hb1⟩;have y5:=kept hb1 (by omega) c5;have y6:=kept hb1 (by omega) c6)
                | (go_at_call 89;refine (sinV _ _ _ _ _ hrr.out).mono ?_;rintro e w2 ⟨rfl,rfl⟩))
              all_goals go_ret
              all_goals refine ⟨ret_bool ?_,?_⟩
              all_goals first
                | exact hwr
                | exact hwr.trans (hb1.mono (by omega))
                | skip
              all_goals go_tidy
              all_goals rw [hrr'.out]
              all_goals simp_all
              all_goals first | rfl | (intros;omega)
          · have d1' : ¬ (m.params.length : Int) ≤ 4:=by omega
            have e1 : Hid (Form.head f.classes.length m most = false):=by
              show _ = _
              rw [hhd.out,decide_eq_false d1];rfl
            go_wp2_with fail
            go_ret
            refine ⟨ret_bool ?_,hwr⟩
            go_tidy
            rw [e1.out]
end FormW
end Go.Proofs.Ytncmhenfgbcihab
