/- Parts of the proof: Yl, Ym, Yn, Yo, OuR, Yp, Yq, Gw, Gt, Yr, FormW, Look, LookC. -/
import Derived.Test.YtncmhenfgbcihacG06
import Derived.Laws.EntriesVeiled
import Derived.Test.YtncmhenfgbcihacG05
import Derived.Test.YtncmhenfgbcihacG03
import Derived.RegionTactic
import Derived.Test.YtncmhenfgbcihacG01
import Derived.Deep.RegionHeld3
import Derived.Deep.QuietTactic
import Derived.BigQuiet
import Derived.Deep.RegionWith
import Derived.Test.YtncmhenfgbcihacG02
set_option linter.unusedSimpArgs false
set_option linter.unusedVariables false
set_option maxHeartbeats 8000000
namespace Go.Proofs.Ytncmhenfgbcihac
open Go.RowKit
namespace Hpr
open Num Rd D Run Mem HierW Hpw
section
variable {E:Ev}{w:World}{L:Lay}{h:Hp}{d:Nat}{P:PS}{m:Me}{fr:Rf}{vs:Value}
theorem doP (FS:FiR E.f) (hm:m∈E.f.methods) (S:ST E w L P m d h fr vs) (HO:HpOk E.f.classes E.input E.fuel h) (hf:RfOk m h.objs.length fr) (hfu:E.fuel≤60000) (hin:E.input.length≤1000) (g:Nat) (HI:InvOk E d g (stepped h)) :
  Calls Try.prog 39 #[.pointer (some ⟨P.cb,0,none⟩)] w (DoR E L P m d vs fr w (outS RM E.f E.input E.fuel g d m fr h)):=by
 have MS:=FS.mes m hm
 unfold outS
 by_cases q:E.fuel≤h.steps
 ·rw [if_pos q];exact doFuel S hfu q
 rw [if_neg q]
 have hs:h.steps < E.fuel:=by omega
 have ea:RM.at_ fr=fr.at_:=rfl
 rw [ea]
 cases hi:m.code[fr.at_]? with
 | none=>exact doEnd S hfu hs hi
 | some i =>
  have hI:=MS.ins i (List.mem_of_getElem? hi)
  have hat:fr.at_ < m.code.length:=(List.getElem?_eq_some_iff.1 hi).1
  have hatb:fr.at_≤100000:=by have:=MS.code;omega
  have HO1:HpOk E.f.classes E.input E.fuel (stepped h):=⟨HO.many,HO.obs,HO.out,Nat.le_succ_of_le HO.outs,HO.used,hs⟩
  obtain ⟨op,a,b,c,n,args⟩:=i
  exact doI FS MS S HO1 hf hatb hs hfu hin op a b c n args hi hI g HI
end
end Hpr
namespace Hpr
open Num Rd D Run Mem HierW Hpw
section
variable {E:Ev}{w w' w1 w2:World}{L L' L1:Lay}{h h' h1 h2:Hp}{d:Nat}{P:PS}{m m2:Me}{fr fr' fr1:Rf}{vs vs1:Value}
theorem ST.newLoc (S:ST E w L P m d h fr vs){l:List Vl}(hl:l.length=fr.regs.length) (K:Kp (· = P.lb) w w') (B:Blk w' P.lb (vcells l)):ST E w' L P m d h ⟨l,fr.at_,fr.given,fr.got⟩ vs:=by
 refine ⟨S.H.keep K (fun k e=>by subst e;exact ⟨S.lo.2,S.far.2.1⟩),S.M.mono (K.below S.base (fun k e=>by subst e;exact S.lo.2)),?_,B,Nat.lt_of_lt_of_le S.lbw K.size,row_keep S.stk K (fun g hg e=>S.ne.2.2 (e ▸ hg)),S.lo,S.far,S.ne⟩
 have:=S.blk.next K S.ne.1
 unfold fcs at this ⊢
 rw [hl]
 exact this
theorem stNew (H:PH E w2 L h d) (vp vc vh:Value) (lb:Nat) (M:Mi E w2 ⟨w2.heap.size,lb,vp,vc,vh⟩ m) (hB:Blk w2 lb (vcells (List.replicate m.regs.toNat Vl.nil))) (hlb:lb < w2.heap.size) (hlo:E.B≤lb) (hfar:∀ k,own E L k→k < lb) (T:TypeId) :
  ST E (w2.alloc (.cells #[.pointer (some ⟨E.hb,0,none⟩),vp,.int .i64 m.ret.kind,.int .i64 m.ret.cls,.int .i64 m.stack,.int .i64 m.locals,.int .i64 m.regs,vc,vh,.slice (some ⟨lb,0,none⟩) m.regs.toNat m.regs.toNat,.int .i64 0,.int .i64 0,.int .i64 0,.int .i64 0,.int .i64 0,.bool false] T)) L ⟨w2.heap.size,lb,vp,vc,vh⟩ m d h ⟨List.replicate m.regs.toNat Vl.nil,0,Vl.nil,Vl.nil⟩ (.slice none 0 0):=by
 have hfc:fcs E ⟨w2.heap.size,lb,vp,vc,vh⟩ m ⟨List.replicate m.regs.toNat Vl.nil,0,Vl.nil,Vl.nil⟩ (.slice none 0 0)=[.pointer (some ⟨E.hb,0,none⟩),vp,.int .i64 m.ret.kind,.int .i64 m.ret.cls,.int .i64 m.stack,.int .i64 m.locals,.int .i64 m.regs,vc,vh,.slice (some ⟨lb,0,none⟩) m.regs.toNat m.regs.toNat,.int .i64 0,.int .i64 0,.int .i64 0,.int .i64 0,.int .i64 0,.bool false]:=by simp [fcs,mcs,Vl.nil]
 have hbe:Below w2.heap.size w2 (w2.alloc (.cells #[.pointer (some ⟨E.hb,0,none⟩),vp,.int .i64 m.ret.kind,.int .i64 m.ret.cls,.int .i64 m.stack,.int .i64 m.locals,.int .i64 m.regs,vc,vh,.slice (some ⟨lb,0,none⟩) m.regs.toNat m.regs.toNat,.int .i64 0,.int .i64 0,.int .i64 0,.int .i64 0,.int .i64 0,.bool false] T)):=by exact Rd.byB
 refine ⟨H.below hbe,M.mono (hbe.mono (by omega)),?_,hB.alloc _,by show lb < _;simp;omega,World.ownsRow_nil _ _ _ _,⟨by show E.B≤w2.heap.size;omega,hlo⟩,⟨fun hk=>?_,fun hk=>?_,fun g hg=>by cases hg⟩,⟨by show w2.heap.size≠lb;omega,by simp [Value.ownBlock],by simp [Value.ownBlock]⟩⟩
 ·rw [hfc];exact Blk.made w2 _ T
 ·have:=hfar _ hk;simp only at this;omega
 ·have:=hfar _ hk;simp only at this;omega
set_option maxRecDepth 100000 in
theorem beginP (H:PH E w L h d) (X:Nat→Prop){va mv:Value}(args:List Vl) (hVM:VMe w E.B mv m) (ha:VS w X va args) (hl4:args.length≤4) (hml:m.regs < 91) (hsz:(size args:Int)≤m.regs) (hv:∀ v∈args,VtOk h.objs.length v)
  (b3 b4 b5:Nat) (c3:w.cell? ⟨b3,0,none⟩=some (.pointer (some ⟨E.hb,0,none⟩))) (c5:w.cell? ⟨b5,0,none⟩=some va)
  (vp vc vh:Value) (hmv:mv=.agg #[vp,.int .i64 m.ret.kind,.int .i64 m.ret.cls,.int .i64 m.stack,.int .i64 m.locals,.int .i64 m.regs,vc,vh]) (B4:Blk w b4 [vp,.int .i64 m.ret.kind,.int .i64 m.ret.cls,.int .i64 m.stack,.int .i64 m.locals,.int .i64 m.regs,vc,vh]) :
  Calls Try.prog 36 #[.pointer (some ⟨b3,0,none⟩),.pointer (some ⟨b4,0,none⟩),.pointer (some ⟨b5,0,none⟩)] w fun e w'=>∃ P:PS,e=.returned (frV P.cb)∧Below w.heap.size w w'∧ST E w' L P m d h (renter m args) (.slice none 0 0)∧w.heap.size≤P.cb∧w.heap.size≤P.lb:=by
 have HH:=Lib.hid H
 have HA:=Lib.hid ha
 have HV:=Lib.hid hv
 have hEB:E.B≤w.heap.size:=by have:=H.base;omega
 obtain ⟨vp',vc',vh',hmv',oks,sps,sco,shs⟩:=hVM
 obtain ⟨rfl,rfl,rfl⟩:vp=vp'∧vc=vc'∧vh=vh':=by
  rw [hmv] at hmv'
  simp at hmv'
  exact ⟨hmv'.1,hmv'.2.1,hmv'.2.2⟩
 obtain ⟨pa,pcap,rfl,p1,p2,_⟩:=id sps
 obtain ⟨ca,ccap,rfl,p3,p4,_⟩:=id sco
 obtain ⟨ha',hcap,rfl,p5,p6,_⟩:=id shs
 obtain ⟨ax,acap,rfl,a1,a2⟩:=ha.len
 have M0:=Lib.hid sps
 have M1:=Lib.hid sco
 have M2:=Lib.hid shs
 have m0:=(B4 0 (by simp)).1
 have m1:=(B4 1 (by simp)).1
 have m2:=(B4 2 (by simp)).1
 have m3:=(B4 3 (by simp)).1
 have m4:=(B4 4 (by simp)).1
 have m5:=(B4 5 (by simp)).1
 have m6:=(B4 6 (by simp)).1
 have m7:=(B4 7 (by simp)).1
 simp only [List.getElem_cons_zero,List.getElem_cons_succ] at m0 m1 m2 m3 m4 m5 m6 m7
 have l3:=cell_lt c3
 have l4:=cell_lt m0
 have l5:=cell_lt c5
 clear H hv ha hmv hmv' sps sco shs B4
 go_enter Try.func36,Try.ntmps36
 go_wp2_with fail
 generalize hW1:World.alloc w _=W1
 replace hW1:=Lib.hid hW1
 have s1:W1.heap.size=w.heap.size+1:=by rw [← hW1.out];simp
 have hb1:Below w.heap.size w W1:=by rw [← hW1.out];exact Rd.byB
 have f0:W1.frozen? ⟨w.heap.size,0,none⟩=false:=by rw [← hW1.out];go_simp
 have v0:W1.cell? ⟨w.heap.size,0,none⟩=some Value.nilFunc:=by rw [← hW1.out];go_simp
 have f1:W1.frozen? ⟨w.heap.size,1,none⟩=false:=by rw [← hW1.out];go_simp
 have v1:W1.cell? ⟨w.heap.size,1,none⟩=some Value.nilFunc:=by rw [← hW1.out];go_simp
 have f2:W1.frozen? ⟨w.heap.size,2,none⟩=false:=by rw [← hW1.out];go_simp
 have v2:W1.cell? ⟨w.heap.size,2,none⟩=some Value.nilFunc:=by rw [← hW1.out];go_simp
 clear hW1
 have q3:=kept hb1 l3 c3
 have q5:=kept hb1 l5 c5
 have r0:=kept hb1 l4 m0
 have r1:=kept hb1 l4 m1
 have r2:=kept hb1 l4 m2
 have r3:=kept hb1 l4 m3
 have r4:=kept hb1 l4 m4
 have r5:=kept hb1 l4 m5
 have r6:=kept hb1 l4 m6
 have r7:=kept hb1 l4 m7
 have hlo:((m.regs.toNat:Nat):Int)=m.regs:=by omega
 obtain ⟨w2,hrun,hblk,hbel,hlt⟩:=mkSlots m.regs.toNat (by omega) W1.drew
 rw [hlo] at hrun
 have e1:W1.drew.heap.size=W1.heap.size:=rfl
 rw [e1] at hblk hlt hbel hrun
 have hb2:Below W1.heap.size W1 w2:=Below.trans (by exact Rd.byB) hbel
 have B2:=Lib.hid hblk
 have t3:=kept hb2 (cell_lt q3) q3
 have t5:=kept hb2 (cell_lt q5) q5
 have t10:=kept hb2 (cell_lt r0) r0
 have t11:=kept hb2 (cell_lt r1) r1
 have t12:=kept hb2 (cell_lt r2) r2
 have t13:=kept hb2 (cell_lt r3) r3
 have t14:=kept hb2 (cell_lt r4) r4
 have t15:=kept hb2 (cell_lt r5) r5
 have t16:=kept hb2 (cell_lt r6) r6
 have t17:=kept hb2 (cell_lt r7) r7
 have g0:=frz_kept hb2 (by omega) f0
 have u0:=kept hb2 (by omega) v0
 have g1:=frz_kept hb2 (by omega) f1
 have u1:=kept hb2 (by omega) v1
 have g2:=frz_kept hb2 (by omega) f2
 have u2:=kept hb2 (by omega) v2
 have HB1:=Lib.hid hb1
 have HB2:=Lib.hid hb2
 have l31:=cell_lt q3
 have l41:=cell_lt r0
 have l32:=cell_lt t3
 have l42:=cell_lt t10
 have l52:=cell_lt t5
 clear hblk hbel hb1 hb2 e1 m0 m1 m2 m3 m4 m5 m6 m7 c3 c5
 go_region
 generalize hWW:World.alloc w2 _=W
 have hbW:Below w2.heap.size w2 W:=by rw [← hWW];exact Rd.byB
 have s2:=HB2.out.size
 have hb02:Below w.heap.size w w2:=HB1.out.trans (HB2.out.mono (by omega))
 have hcbW:w2.heap.size < W.heap.size:=by rw [← hWW];simp
 obtain ⟨P,hP⟩:∃ P:PS,Hid (P=⟨w2.heap.size,w.heap.size+1,.slice pa m.params.length pcap,.slice ca m.code.length ccap,.slice ha' m.handlers.length hcap⟩):=⟨_,Lib.hid rfl⟩
 have SN:ST E W L P m d h ⟨List.replicate m.regs.toNat Vl.nil,0,Vl.nil,Vl.nil⟩ (.slice none 0 0):=by
  have hB2:=B2.out
  rw [s1] at hB2
  rw [hP.out,← hWW]
  exact stNew (HH.out.below hb02) _ _ _ (w.heap.size+1) (Mi.mono (w:=w) ⟨M0.out,M1.out,M2.out,oks⟩ (hb02.mono hEB)) hB2 (by omega) (by omega) (fun k hk=>by have:=own_lo HH.out hk;omega) _
 have hPc:P.cb=w2.heap.size:=by rw [hP.out]
 have hPl:P.lb=w.heap.size+1:=by rw [hP.out]
 clear hP hWW q3 q5 r0 r1 r2 r3 r4 r5 r6 r7 B2 hrun
 have d0:=frz_kept hbW (by omega) g0
 have d1:=frz_kept hbW (by omega) g1
 have d2:=frz_kept hbW (by omega) g2
 have e0:=kept hbW (by omega) u0
 have e1:=kept hbW (by omega) u1
 have e2:=kept hbW (by omega) u2
 have x5:=kept hbW l52 t5
 have HBW:=Lib.hid (hb02.trans (hbW.mono (by omega)))
 have SN0:=Lib.hid SN
 have VA:=Lib.hid (HA.out.next (Kp.of_below (X:=fun _=>False) HBW.out (Nat.le_refl _)) (fun _ _ e=>e.elim) (X':=fun k=>w.heap.size≤k) (fun b hb e=>by omega))
 have HW0:w.heap.size < W.heap.size:=by omega
 have hbWs:w2.heap.size+1≤W.heap.size:=by omega
 have hcbge:w.heap.size+1 < w2.heap.size:=by omega
 have lbw:l5=l5:=rfl
 clear lbw t3 t5 t10 t11 t12 t13 t14 t15 t16 t17 g0 g1 g2 u0 u1 u2 f0 f1 f2 v0 v1 v2 hbW hb02 HB1 HB2 l31 l41 l32 l42 l52 SN hlt s1 hcbW s2
 rw [← hPc,← hPl]
 have hp1:w.heap.size < P.lb:=by omega
 have hp2:P.lb < P.cb:=by omega
 have hp3:w.heap.size < P.cb:=by omega
 clear hPc hPl hcbge hbWs
 go_wp2_with fail
 have hmf:∀ (fn:Fn) (first cap:Array Value) (w:World),(Instr.makeFunc fn first cap).run Try.prog w=.ok (.func fn first cap) w:=fun _ _ _ _=>rfl
 have hst:=Lib.hid (fun n (hn:n≤args.length)=>(stores_ok (n:=h.objs.length) (args.take n) (List.replicate m.regs.toNat Vl.nil) 0 (fresh_ok _ _) (fun v hv=>HV.out v (List.mem_of_mem_take hv)) (by have:=size_take_leP (args:=args) n;simp;omega)))
 go_loopw [5,17] (fun a i wr=>∃ n:Nat,i=.int .i64 n∧a=.int .i64 (size (args.take n):Nat)∧n≤args.length∧Hid (Kp (· = P.lb) W wr)∧Hid (ST E wr L P m d h ⟨stores (List.replicate m.regs.toNat Vl.nil) 0 (args.take n),0,Vl.nil,Vl.nil⟩ (.slice none 0 0))) (fun _ i _=>args.length - (intOf i).toNat)
 case atStart=>exact ⟨0,rfl,by simp [size],Nat.zero_le _,Lib.hid (Kp.refl _ _),by simpa [stores] using SN0⟩
 case round =>
  obtain ⟨n,rfl,rfl,hn,KL,SL⟩:=hrel
  by_cases hlt:n < args.length
  ·obtain ⟨ab,ao,acap',heq,hc1,hc2,hab,hnx,hel⟩:=VA.out.form (by omega)
   simp only [Value.slice.injEq] at heq
   obtain ⟨rfl,_,rfl⟩:=heq
   have hn1:(n:Int) < args.length:=by omega
   obtain ⟨z0,z1⟩:=hel n hlt
   have hane:ab≠P.lb:=fun e=>hnx (by omega)
   have y0:=KL.out.cell z0 (fun e=>hane e)
   have y1:=KL.out.cell z1 (fun e=>hane e)
   obtain ⟨v,hv⟩:=at_of hlt
   rw [hv.out] at y0 y1
   have hfit:size (args.take n)+width v≤m.regs.toNat:=by
    have h1:=size_take args n hlt
    have h2:=size_take_leP (args:=args) (n+1)
    rw [hv.out] at h1
    omega
   have hstep:Hid (stores (List.replicate m.regs.toNat Vl.nil) 0 (args.take (n+1))=Run.store (stores (List.replicate m.regs.toNat Vl.nil) 0 (args.take n)) (size (args.take n)) v):=by show _=_;rw [stores_takeP hlt,hv.out]
   have hsum:Hid (size (args.take (n+1))=size (args.take n)+width v):=by show _=_;rw [size_take args n hlt,hv.out]
   obtain ⟨vk,vn⟩:=v
   have c9:=SL.out.c9
   have hcb:=SL.out.cbw
   have hlbw:=SL.out.lbw
   have ln:(stores (List.replicate m.regs.toNat Vl.nil) 0 (args.take n)).length=m.regs.toNat:=by rw [(hst.out n hn).2];simp
   simp only [ln] at c9
   have STP:=Lib.hid (fun (w':World) (hB:Blk w' P.lb (vcells (stores (List.replicate m.regs.toNat Vl.nil) 0 (args.take n)))) (hb:P.lb < w'.heap.size)=>storeP hB hb (hst.out n hn).1.pair (size (args.take n)) ⟨vk,vn⟩ (by rw [ln];exact hfit) (by rw [ln];omega))
   rw [ln] at STP
   have FB:=Lib.hid SL.out.loc
   have hne1:P.cb≠P.lb:=by omega
   have hwl:wr.heap.size≠P.lb:=by omega
   have LN:=Lib.hid ln
   have HFIT:=Lib.hid hfit
   clear hel z0 z1 ln hfit hv
   go_wp2_with fail
   refine Drawn.hd (fun w'=>w'.cell? ⟨P.cb,9,none⟩=some (.slice (some ⟨P.lb,0,none⟩) m.regs.toNat m.regs.toNat)∧w'.cell? ⟨wr.heap.size,0,none⟩=some (.int .i64 vk)∧w'.cell? ⟨wr.heap.size,1,none⟩=some (.int .i64 vn)) (h:=fun hHeld=>?_)
   refine Drawn.T 0 (some 21) (h:=?_)
   refine Drawn.T 1 (some 22) (h:=?_)
   refine Drawn.T 2 (some 23) (h:=?_)
   refine Drawn.T 3 (some 24) (h:=?_)
   refine Drawn.T 4 (some 25) (h:=?_)
   refine Drawn.T 5 (some 26) (h:=?_)
   refine Drawn.cl 6 (fun K hK=>?_)
   go_simp
   go_at_call 37
   refine (STP.out _ (FB.out.next (Kp.of_below (B:=wr.heap.size) (X:=fun _=>False) (by exact Rd.byB) (Nat.le_refl _)) (fun e=>e)) (by simp;omega)).mono ?_
   rintro e w3 ⟨rfl,B3,K3⟩
   have y9:=K3.cell (c:=P.cb) (o:=9) (v:=.slice (some ⟨P.lb,0,none⟩) m.regs.toNat m.regs.toNat) (by go_simp) hne1
   have y70:=K3.cell (c:=wr.heap.size) (o:=0) (v:=.int .i64 vk) (by go_simp) hwl
   have y71:=K3.cell (c:=wr.heap.size) (o:=1) (v:=.int .i64 vn) (by go_simp) hwl
   have K4:=Lib.hid ((Kp.of_below (w:=wr) (B:=wr.heap.size) (X:=(· = P.lb)) (by exact Rd.byB) (Nat.le_refl _)).trans K3 (fun _ e=>.inl e))
   have B4:=Lib.hid B3
   have l71:=cell_lt y70
   clear K3 B3 y0 y1 c9
   go_wp2_with fail
   refine Drawn.bk hK (hS:=by (try dsimp only);exact ⟨y9,y70,y71⟩) (h:=fun hHeld=>?_)
   clear hK K
   refine wpAnyH_done (by kernel_rfl) ?_ _
   go_wp2_with fail
   go_at_call 38
   refine (slotsP ⟨vk,vn⟩ _).mono ?_
   rintro e w4 ⟨rfl,hb4⟩
   have hb4':Below w3.heap.size w3 w4:=Below.trans (by exact Rd.byB) (hb4.mono Rd.byL)
   have K5:=Lib.hid (K4.out.trans (Kp.of_below (X:=(· = P.lb)) hb4' (Nat.le_refl _)) (fun _ e=>.inl e))
   have B5:=Lib.hid (B4.out.next (Kp.of_below (X:=fun _=>False) hb4' (Nat.le_refl _)) (fun e=>e))
   go_wp2_with fail
   go_roundw
   case rel =>
    refine ⟨n+1,by go_num,?_,hlt,Lib.hid (KL.out.trans K5.out (fun _ e=>.inl e)),?_⟩
    ·rw [hsum.out]
     have hfi:=HFIT.out
     have h2:wrap64 ((size (args.take n):Int)+(width ⟨vk,vn⟩:Nat))=((size (args.take n)+width ⟨vk,vn⟩:Nat):Int):=by rw [← Int.natCast_add];exact wrap64_id (by unfold Ok;omega)
     first | (simp only [Num.wrap_i64];rw [h2]) | rw [h2]
    ·rw [hstep.out]
     exact Lib.hid (SL.out.newLoc (by simp [store_len]) K5.out B5.out)
   case measure=>first | (simp [intOf];done) | (simp [intOf];omega)
  ·obtain rfl:n=args.length:=by omega
   rw [List.take_length] at SL
   have hn1:¬ (args.length:Int) < args.length:=by omega
   have hwl:w.heap.size≠P.lb:=by omega
   have k0:=KL.out.frz d0 HW0 hwl
   have k1:=KL.out.frz d1 HW0 hwl
   have k2:=KL.out.frz d2 HW0 hwl
   have j0:=KL.out.cell e0 hwl
   have j1:=KL.out.cell e1 hwl
   have j2:=KL.out.cell e2 hwl
   have hbf:Below w.heap.size w wr:=HBW.out.trans (KL.out.below (by omega) (fun k e=>by omega))
   have hwr:=cell_lt j0
   have nfr:¬ Hpr.fo E L P (.slice none 0 0) w.heap.size:=fun hk=>by
    rcases hk with q | q | q | q
    ·have:=own_lo HH.out q;omega
    ·omega
    ·omega
    ·simp [Value.ownBlock] at q
   have SF:=SL
   clear SL d0 d1 d2 e0 e1 e2
   go_wp2_with fail
   refine bodyPost_ret (v:=frV P.cb) (by unfold frV;simp [results,Try.results36,go_sem] <;> go_simp) rfl ?_
   refine ⟨P,rfl,by exact Rd.byB,?_,by omega,by omega⟩
   exact ((SF.out.res (by omega) nfr _ _).res (by omega) nfr _ _).res (by omega) nfr _ _
end
end Hpr
namespace Hpr
open Num Rd D Run Mem HierW Hpw
section
variable {E:Ev}{w w' w1 w2:World}{L L' L1:Lay}{h h' h1 h2:Hp}{d:Nat}{P:PS}{m m2:Me}{fr fr' fr1:Rf}{vs vs1:Value}
set_option maxRecDepth 100000 in
theorem invokeP (H:PH E w L h d) (X:Nat→Prop){va:Value}(args:List Vl){vp vc vh:Value}(hVM:VMe w E.B (.agg #[vp,.int .i64 m.ret.kind,.int .i64 m.ret.cls,.int .i64 m.stack,.int .i64 m.locals,.int .i64 m.regs,vc,vh]) m) (ha:VS w X va args) (r:Res Vl)
  (hC:∀ (W:World) (b3 b4 b5:Nat),Below w.heap.size w W→w.heap.size≤b3→w.heap.size≤b4→w.heap.size≤b5→W.cell? ⟨b3,0,none⟩=some (.pointer (some ⟨E.hb,0,none⟩))→W.cell? ⟨b5,0,none⟩=some va →
   Blk W b4 [vp,.int .i64 m.ret.kind,.int .i64 m.ret.cls,.int .i64 m.stack,.int .i64 m.locals,.int .i64 m.regs,vc,vh] →
   Calls Try.prog 35 #[.pointer (some ⟨E.hb,0,none⟩),.agg #[vp,.int .i64 m.ret.kind,.int .i64 m.ret.cls,.int .i64 m.stack,.int .i64 m.locals,.int .i64 m.regs,vc,vh],va,.func (.func 36) #[] #[.pointer (some ⟨b3,0,none⟩),.pointer (some ⟨b4,0,none⟩),.pointer (some ⟨b5,0,none⟩)]] W (InvR E L d W r)) :
  Calls Try.prog 18 #[.pointer (some ⟨E.hb,0,none⟩),.agg #[vp,.int .i64 m.ret.kind,.int .i64 m.ret.cls,.int .i64 m.stack,.int .i64 m.locals,.int .i64 m.regs,vc,vh],va] w (InvR E L d w r):=by
 have HH:=Lib.hid H
 obtain ⟨vp',vc',vh',hmv',oks,sps,sco,shs⟩:=hVM
 obtain ⟨rfl,rfl,rfl⟩:vp=vp'∧vc=vc'∧vh=vh':=by
  simp at hmv'
  exact ⟨hmv'.1,hmv'.2.1,hmv'.2.2⟩
 obtain ⟨pa,pcap,rfl,p1,p2,_⟩:=id sps
 obtain ⟨ca,ccap,rfl,p3,p4,_⟩:=id sco
 obtain ⟨ha',hcap,rfl,p5,p6,_⟩:=id shs
 obtain ⟨ax,acap,rfl,a1,a2⟩:=ha.len
 have hmf:∀ (fn:Fn) (first cap:Array Value) (w:World),(Instr.makeFunc fn first cap).run Try.prog w=.ok (.func fn first cap) w:=fun _ _ _ _=>rfl
 have HC:=Lib.hid hC
 have hold:=Lib.hid (fun (k:Nat) (hk:own E L k)=>(own_lo H hk).2)
 clear H hC ha hmv' sps sco shs
 go_enter Try.func18,Try.ntmps18
 go_wp2_with fail
 go_at_call 35
 refine (HC.out _ _ _ _ (by exact Rd.byB) (by omega) (by omega) (by omega) (by go_simp) (by go_simp) (blk8 (by go_simp) (by go_simp) (by go_simp) (by go_simp) (by go_simp) (by go_simp) (by go_simp) (by go_simp) (by go_simp) (by go_simp) (by go_simp) (by go_simp) (by go_simp) (by go_simp) (by go_simp) (by go_simp))).mono ?_
 rintro e w2 R
 have nr:¬ own E L (w.heap.size+1+1+1):=fun hk=>by have:=hold.out _ hk;omega
 cases r with
 | thrown o h2 =>
  obtain ⟨⟨older,hol,rfl⟩,A⟩:=R
  refine And.intro rfl ?_
  exact ⟨⟨older,hol,rfl⟩,A.before (by exact Rd.byB)⟩
 | stop c h2 =>
  obtain ⟨⟨older,hol,rfl⟩,A⟩:=R
  refine And.intro rfl ?_
  exact ⟨⟨older,hol,rfl⟩,A.before (by exact Rd.byB)⟩
 | ok v h2 =>
  obtain ⟨vk,vn⟩:=v
  obtain ⟨rfl,A⟩:=R
  have x0:=A.cell (b:=w.heap.size+1+1+1) (o:=0) (v:=.int .i64 0) (by go_simp) nr
  have x1:=A.cell (b:=w.heap.size+1+1+1) (o:=1) (v:=.int .i64 0) (by go_simp) nr
  have f0:=A.frz (b:=w.heap.size+1+1+1) (o:=0) (x:=false) (by simp) (by go_simp) nr
  have f1:=A.frz (b:=w.heap.size+1+1+1) (o:=1) (x:=false) (by simp) (by go_simp) nr
  have hlt:=cell_lt x0
  unfold vl
  replace A:=Lib.hid A
  go_wp2_with fail
  refine bodyPost_ret (v:=.agg #[.int .i64 vk,.int .i64 vn]) (by simp [results,Try.results18,go_sem] <;> go_simp) rfl ?_
  exact ⟨rfl,A.out.res2 HH.out (by exact Rd.byB) (by omega) (by simp) _ _⟩
end
end Hpr
namespace Hpr
open Num Rd D Run Mem HierW Hpw
section
variable {E:Ev}{w w' w0 w1 w2 w6 w9:World}{L L' L1 L4:Lay}{h h' h0 h1 h2:Hp}{d d0 b1:Nat}{P:PS}{m:Me}{fr fr' fr1:Rf}{vs vs1:Value}
theorem Lft.ofS (K:Kp (own E L) w w9) (g1:w.heap.size≤P.cb) (g2:w.heap.size≤P.lb) (A:LftS E L P d (.slice none 0 0) w9 w6 h):Lft E L d w w6 h:=by
 have hs:=K.size
 obtain ⟨L4,K4,N4,H4⟩:=A
 refine ⟨L4,K.trans K4 (fun y hy=>?_),fun k hk=>(N4 k hk).imp id (fun q=>by omega),H4⟩
 rcases hy with e | e | e | e
 ·exact .inl e
 ·subst e;exact .inr g1
 ·subst e;exact .inr g2
 ·cases e
theorem Lft.ofS2 (H:PH E w L h0 d0) (K:Kp (own E L) w w9) (g1:w.heap.size≤P.cb) (g2:w.heap.size≤P.lb) (A:LftS E L P d (.slice none 0 0) w9 w6 h){b:Nat}(h1:w.heap.size≤b) (h2:b < w9.heap.size) (x y:Value):Lft E L d w ((w6.setCell ⟨b,0,none⟩ x).setCell ⟨b,1,none⟩ y) h:=by
 have hs:=K.size
 have hEB:=H.base
 obtain ⟨L4,K4,N4,H4⟩:=A
 have nb:¬ own E L4 b:=fun hk=>by
  rcases N4 b hk with q | q
  ·have:=own_lo H q;omega
  ·omega
 have K3:Kp (fun k=>k=b) w6 ((w6.setCell ⟨b,0,none⟩ x).setCell ⟨b,1,none⟩ y):=((Kp.refl (fun k=>k=b) w6).setCell (p:=⟨b,0,none⟩) (.inl rfl) x).setCell (p:=⟨b,1,none⟩) (.inl rfl) y
 obtain ⟨L5,K5,N5,H5⟩:=Lft.ofS K g1 g2 ⟨L4,K4,N4,H4⟩
 have K6:Kp (own E L) w w6:=K.trans K4 (fun y hy=>by
  rcases hy with e | e | e | e
  ·exact .inl e
  ·subst e;exact .inr g1
  ·subst e;exact .inr g2
  ·cases e)
 exact ⟨L4,(K6.setCell (p:=⟨b,0,none⟩) (.inr h1) x).setCell (p:=⟨b,1,none⟩) (.inr h1) y,fun k hk=>(N4 k hk).imp id (fun q=>by omega),H4.keep K3 (fun k e=>by subst e;exact ⟨by omega,nb⟩)⟩
theorem notFo (H:PH E w L h0 d0) (g1:b1≤P.cb) (g2:b1≤P.lb){b:Nat}(h1:w.heap.size≤b) (h2:b < b1):¬ Hpr.fo E L P (.slice none 0 0) b:=fun hk=>by
 rcases hk with e | e | e | e
 ·have:=own_lo H e;omega
 ·omega
 ·omega
 ·cases e
end
end Hpr
namespace Run
open D Num
theorem outS_ok {f:Fi}{input:List Int}{fuel g d:Nat}{m:Me}{fr:Rf}{h:Hp}(K:MachOk RM RfOk f input fuel) (hm:m∈f.methods) (HO:HpOk f.classes input fuel h) (hf:RfOk m h.objs.length fr) :
  (∃ c h',outS RM f input fuel g d m fr h=.stop c h')∨(h.steps < fuel∧OutOk RfOk f input fuel m { h with steps:=h.steps+1 } (outS RM f input fuel g d m fr h)):=by
 unfold outS
 by_cases q:fuel≤h.steps
 ·rw [if_pos q];exact .inl ⟨_,_,rfl⟩
 ·rw [if_neg q]
  cases hi:m.code[RM.at_ fr]? with
  | none=>exact .inl ⟨_,_,rfl⟩
  | some i =>
   have HO1:HpOk f.classes input fuel { h with steps:=h.steps+1 }:=⟨HO.many,HO.obs,HO.out,Nat.le_succ_of_le HO.outs,HO.used,by show h.steps+1≤fuel;omega⟩
   have hs:=K.step m hm i (List.mem_of_getElem? hi) fr _ HO1 (by show h.out.length < h.steps+1;have:=HO.outs;omega) hf
   exact .inr ⟨by omega,outA_ok K hm hs⟩
end Run
namespace Hpr
open Num Rd D Run Mem HierW Hpw
section
variable {E:Ev}{w w' w1 w2:World}{L L' L1:Lay}{h h' h1 h2:Hp}{d:Nat}{P:PS}{m m2:Me}{fr fr' fr1:Rf}{vs vs1:Value}
set_option maxRecDepth 100000 in
theorem callRun (hm:Hier.may E.f.classes=true) (H:PH E w L h d) (X:Nat→Prop){va:Value}(args:List Vl){vp vc vh:Value}(hVM:VMe w E.B (.agg #[vp,.int .i64 m.ret.kind,.int .i64 m.ret.cls,.int .i64 m.stack,.int .i64 m.locals,.int .i64 m.regs,vc,vh]) m) (ha:VS w X va args) (hlen:args.length=m.params.length) (h4:args.length≤4) (hv:∀ v∈args,VtOk h.objs.length v) (hc:allOf E.f.classes h args m.params=true) (hd:d < 20) (hX:∀ j,own E L j→X j) (hml:m.regs < 91) (hsz:(size args:Int)≤m.regs) (b3 b4 b5:Nat) (hb3:¬ own E L b3) (hb4:¬ own E L b4) (hb5:¬ own E L b5) (c3:w.cell? ⟨b3,0,none⟩=some (.pointer (some ⟨E.hb,0,none⟩))) (c5:w.cell? ⟨b5,0,none⟩=some va) (B4:Blk w b4 [vp,.int .i64 m.ret.kind,.int .i64 m.ret.cls,.int .i64 m.stack,.int .i64 m.locals,.int .i64 m.regs,vc,vh]) (r:Res Vl) (HO:HpOk E.f.classes E.input E.fuel h) (HS0:RfOk m h.objs.length (renter m args)) (g:Nat) (hr:loop RM E.f E.input E.fuel g (d+1) m (renter m args) h=r) (hg:E.fuel < g+h.steps) (FS:FiR E.f) (hmm:m∈E.f.methods) (hfu:E.fuel≤60000) (hin:E.input.length≤1000) (KM:MachOk RM RfOk E.f E.input E.fuel) (HIN:Hid (∀ (g:Nat) (h1:Hp),E.fuel < g+h1.steps→InvOk E (d+1) g h1)) :
  Calls Try.prog 35 #[.pointer (some ⟨E.hb,0,none⟩),.agg #[vp,.int .i64 m.ret.kind,.int .i64 m.ret.cls,.int .i64 m.stack,.int .i64 m.locals,.int .i64 m.regs,vc,vh],va,.func (.func 36) #[] #[.pointer (some ⟨b3,0,none⟩),.pointer (some ⟨b4,0,none⟩),.pointer (some ⟨b5,0,none⟩)]] w (InvR E L d w r):=by
 have HH:=Lib.hid H
 have hd1:d≤1000:=by omega
 have HVM:=Lib.hid hVM
 have HB4:=Lib.hid B4
 have HC3:=Lib.hid c3
 have HC5:=Lib.hid c5
 clear c3 c5 B4
 have HRR:=Lib.hid hr
 clear hr
 obtain ⟨vp',vc',vh',hmv',oks,sps,sco,shs⟩:=hVM
 obtain ⟨rfl,rfl,rfl⟩:vp=vp'∧vc=vc'∧vh=vh':=by
  simp at hmv'
  exact ⟨hmv'.1,hmv'.2.1,hmv'.2.2⟩
 obtain ⟨pa,pcap,rfl,p1,p2,pel⟩:=id sps
 obtain ⟨ca,ccap,rfl,p3,p4,_⟩:=id sco
 obtain ⟨ha',hcap,rfl,p5,p6,_⟩:=id shs
 have HA:=Lib.hid ha
 obtain ⟨ax,acap,rfl,a1,a2⟩:=ha.len
 have PEL:=Lib.hid pel
 have hlq:((args.length:Int)==(m.params.length:Int))=true:=by rw [hlen];simp
 have hEB:E.B≤w.heap.size:=by have:=H.base;omega
 clear H ha hmv' sps sco shs pel
 go_enter_defers Try.func35,Try.ntmps35
 go_wp2_with fail
 refine (mustT _).mono ?_
 rintro e w2 ⟨rfl,rfl⟩
 go_wp2_with fail
 generalize hWW:World.alloc _ (.cells #[.int .i64 0,.int .i64 0] 48)=W
 replace hWW:=Lib.hid hWW
 have e0:W.cell? ⟨w.heap.size,0,none⟩=some (.pointer (some ⟨E.hb,0,none⟩)):=by rw [← hWW.out];go_simp
 have HB:=Lib.hid (show Below w.heap.size w W from by rw [← hWW.out];exact Rd.byB)
 have hsW:w.heap.size+2 < W.heap.size:=by rw [← hWW.out];simp
 have X0:=Lib.hid (show Blk W w.heap.size [.pointer (some ⟨E.hb,0,none⟩)] from by rw [← hWW.out];exact ((Blk.made w [.pointer (some ⟨E.hb,0,none⟩)] _).alloc _).alloc _)
 have X1:=Lib.hid (show Blk W (w.heap.size+1) [.slice pa m.params.length pcap,.int .i64 m.ret.kind,.int .i64 m.ret.cls,.int .i64 m.stack,.int .i64 m.locals,.int .i64 m.regs,.slice ca m.code.length ccap,.slice ha' m.handlers.length hcap] from by rw [← hWW.out];exact (Blk.made1 w _ [.slice pa m.params.length pcap,.int .i64 m.ret.kind,.int .i64 m.ret.cls,.int .i64 m.stack,.int .i64 m.locals,.int .i64 m.regs,.slice ca m.code.length ccap,.slice ha' m.handlers.length hcap] _).alloc _)
 have X2:=Lib.hid (show Blk W (w.heap.size+2) [.int .i64 0,.int .i64 0] from by rw [← hWW.out];exact Blk.made2 w _ _ [.int .i64 0,.int .i64 0] _)
 clear hWW
 have HC:=Lib.hid hc
 clear hc
 go_loopw [28] (fun i wr=>∃ n:Nat,i=.int .i64 n∧n≤args.length∧Hid (Below W.heap.size W wr)∧Hid (allOf E.f.classes h args m.params=allOf E.f.classes h (args.drop n) (m.params.drop n))) (fun i _=>args.length - (intOf i).toNat)
 case atStart=>exact ⟨0,rfl,Nat.zero_le _,Lib.hid (Below.refl _ _),Lib.hid rfl⟩
 case round =>
  obtain ⟨n,rfl,hn,BW,HD⟩:=hrel
  by_cases hlt:n < args.length
  ·have hltp:n < m.params.length:=by omega
   have hni:(n:Int) < m.params.length:=by omega
   have hni2:(n:Int) < args.length:=by omega
   obtain ⟨pb,po,rfl,hpb,hpe⟩:=PEL.out n hltp
   obtain ⟨ab,ao,acap',heq,hc1,hc2,hab,hnx,hel⟩:=HA.out.form (by omega)
   simp only [Value.slice.injEq] at heq
   obtain ⟨rfl,_,rfl⟩:=heq
   obtain ⟨z0,z1⟩:=hel n hlt
   obtain ⟨v,hvv⟩:=at_of hlt
   obtain ⟨t,htt⟩:=at_of hltp
   rw [hvv.out] at z0 z1
   rw [htt.out] at hpe
   obtain ⟨y0,y1,_,_⟩:=hpe
   have hv3:v.kind=3→v.n < h.objs.length:=fun e=>by
    have hmem:v∈args:=by rw [← hvv.out];exact List.getElem_mem hlt
    exact ((hv v hmem).1.2.2.2 e).2
   have HBr:=Lib.hid (HB.out.trans (BW.out.mono (by omega)))
   have x0:=kept HBr.out (by omega) z0
   have x1:=kept HBr.out (by omega) z1
   have t0:=kept HBr.out (by omega) y0
   have t1:=kept HBr.out (by omega) y1
   have e0':=kept BW.out (by omega) e0
   have q0:=cell_lt x0
   have q1:=cell_lt t0
   have q2:=cell_lt e0'
   obtain ⟨tk,tc⟩:=t
   obtain ⟨vk,vn⟩:=v
   clear z0 z1 y0 y1 hel e0
   simp only at t0 t1 x0 x1
   go_wp2_with fail
   refine wp_region_noPanic ?_
   refine Drawn.hd (fun w'=>w'.cell? ⟨w.heap.size,0,none⟩=some (.pointer (some ⟨E.hb,0,none⟩))∧w'.cell? ⟨ab,ao+n*2,none⟩=some (.int .i64 vk)∧w'.cell? ⟨ab,ao+n*2+1,none⟩=some (.int .i64 vn)∧w'.cell? ⟨wr.heap.size,0,none⟩=some (.int .i64 tk)∧w'.cell? ⟨wr.heap.size,1,none⟩=some (.int .i64 tc)) (h:=fun hHeld=>?_)
   refine Drawn.tk 0 (some 33) rfl rfl (by assumption) ?_
   try simp only [Act.put,List.setIfInBounds_toArray,List.set_cons_zero,List.set_cons_succ]
   refine Drawn.tk 1 (some 34) rfl rfl (by assumption) ?_
   try simp only [Act.put,List.setIfInBounds_toArray,List.set_cons_zero,List.set_cons_succ]
   refine Drawn.tk 2 (some 35) rfl rfl (by assumption) ?_
   try simp only [Act.put,List.setIfInBounds_toArray,List.set_cons_zero,List.set_cons_succ]
   refine Drawn.tk 3 (some 36) rfl rfl (by assumption) ?_
   try simp only [Act.put,List.setIfInBounds_toArray,List.set_cons_zero,List.set_cons_succ]
   refine Drawn.tk 4 (some 37) rfl rfl (by assumption) ?_
   try simp only [Act.put,List.setIfInBounds_toArray,List.set_cons_zero,List.set_cons_succ]
   refine Drawn.tk 5 (some 38) rfl rfl (by assumption) ?_
   try simp only [Act.put,List.setIfInBounds_toArray,List.set_cons_zero,List.set_cons_succ]
   refine Drawn.cl 6 (fun K hK=>?_)
   go_simp
   refine (of E L h d ⟨vk,vn⟩ ⟨tk,tc⟩ _ (HH.out.below (w':=(wr.alloc (.cells #[.int .i64 tk,.int .i64 tc] 52)).drew) (by have hb:=HBr.out;exact Rd.byB)) hm hv3).mono ?_
   rintro e w3 ⟨rfl,hb3⟩
   obtain ⟨p,hp⟩:∃ p,Hid (ofT E.f.classes h ⟨vk,vn⟩ ⟨tk,tc⟩=p):=⟨_,Lib.hid rfl⟩
   rw [hp.out]
   have kk:∀ (b o:Nat) (u:Value),World.cell? _ ⟨b,o,none⟩=some u→w3.cell? ⟨b,o,none⟩=some u:=fun b o u hc=>kept hb3 (cell_lt hc) hc
   have k0:=kk w.heap.size 0 (.pointer (some ⟨E.hb,0,none⟩)) (by go_simp)
   have k1:=kk ab (ao+n*2) (.int .i64 vk) (by go_simp)
   have k2:=kk ab (ao+n*2+1) (.int .i64 vn) (by go_simp)
   have k3:=kk wr.heap.size 0 (.int .i64 tk) (by go_simp)
   have k4:=kk wr.heap.size 1 (.int .i64 tc) (by go_simp)
   have HB3:=Lib.hid (show Below wr.heap.size wr w3 from Below.trans (by exact Rd.byB) (hb3.mono Rd.byL))
   clear kk hb3
   go_wp2_with fail
   refine Drawn.bk hK (hS:=by (try dsimp only);exact ⟨k0,k1,k2,k3,k4⟩) (h:=fun hHeld=>?_)
   clear hK K
   refine Drawn.cl 7 (fun K hK=>?_)
   go_simp
   cases p with
   | false =>
    exfalso
    have h1:=HD.out
    rw [HC.out,List.drop_eq_getElem_cons hlt,List.drop_eq_getElem_cons hltp,hvv.out,htt.out] at h1
    simp [allOf,hp.out] at h1
   | true =>
    refine (mustT _).mono ?_
    rintro e w4 ⟨rfl,rfl⟩
    go_wp2_with fail
    refine Drawn.bk hK (hS:=by (try dsimp only);exact ⟨k0,k1,k2,k3,k4⟩) (h:=fun hHeld=>?_)
    clear hK K
    refine wpAnyH_done (by kernel_rfl) ?_ _
    refine NoPanic.normal ?_
    go_wp2_with fail
    go_roundw
    case rel =>
     refine ⟨n+1,by go_num,hlt,Lib.hid (BW.out.trans (HB3.out.mono BW.out.size)),?_⟩
     show _=_
     rw [HD.out,List.drop_eq_getElem_cons hlt,List.drop_eq_getElem_cons hltp,hvv.out,htt.out]
     simp [allOf,hp.out]
    case measure=>first | (simp [intOf];done) | (simp [intOf];omega)
  ·obtain rfl:n=args.length:=by omega
   have hn2:¬ ((args.length:Int) < m.params.length):=by omega
   have hn3:¬ (args.length < m.params.length):=by omega
   have HBr:=Lib.hid (HB.out.trans (BW.out.mono (by omega)))
   have c10:=(HH.out.below HBr.out).c10
   have e0':=kept BW.out (by omega) e0
   have hdd:decide ((20:Int)≤d)=false:=by simp;omega
   have f10:=(HH.out.below HBr.out).fz 10 (by decide)
   have hhb:=(HH.out.below HBr.out).hbw
   have hwd:IntKind.i64.wrap ((d:Int)+1)=((d+1:Nat):Int):=by rw [Num.wrap_i64,wrap64_id (by unfold Ok;omega)];omega
   have hwd2:wrap64 ((d:Int)+1)=((d+1:Nat):Int):=by rw [wrap64_id (by unfold Ok;omega)];omega
   have hmf:∀ (fn:Fn) (first cap:Array Value) (w:World),(Instr.makeFunc fn first cap).run Try.prog w=.ok (.func fn first cap) w:=fun _ _ _ _=>rfl
   clear e0
   go_wp2_with fail
   have hbE:=(HH.out).base
   have KW:=Lib.hid (show Kp (· = E.hb) w (wr.setCell ⟨E.hb,10,none⟩ (.int .i64 ((d:Int)+1))) from (Kp.of_below (X:=(· = E.hb)) HBr.out (Nat.le_refl _)).setCell (p:=⟨E.hb,10,none⟩) (.inl rfl) _)
   have HD1:=Lib.hid (show PH E (wr.setCell ⟨E.hb,10,none⟩ (.int .i64 ((d:Int)+1))) L h (d+1) from by
    have:=(HH.out.below HBr.out).deep (d+1)
    rw [show ((d+1:Nat):Int)=(d:Int)+1 from by omega] at this
    exact this)
   have ne3:b3≠E.hb:=fun e=>hb3 (.inl e)
   have ne4:b4≠E.hb:=fun e=>hb4 (.inl e)
   have ne5:b5≠E.hb:=fun e=>hb5 (.inl e)
   refine (beginP HD1.out X args (HVM.out.mono (KW.out.below hEB (fun k e=>by rw [e];exact hbE.1)) (Nat.le_refl _)) (HA.out.next KW.out (fun b _ e=>by rw [e];exact hX _ (.inl rfl)) (fun _ _ e=>e)) h4 hml hsz hv b3 b4 b5 (KW.out.cell HC3.out ne3) (KW.out.cell HC5.out ne5) _ _ _ rfl (HB4.out.next KW.out ne4)).mono ?_
   rintro e w5 ⟨P,rfl,hb5,S5,g1,g2⟩
   unfold frV
   have e0w:=kept hb5 (by have:=cell_lt e0';simp;omega) (show World.cell? (wr.setCell ⟨E.hb,10,none⟩ (.int .i64 ((d:Int)+1))) ⟨w.heap.size,0,none⟩=some (.pointer (some ⟨E.hb,0,none⟩)) from by go_simp)
   replace S5:=Lib.hid S5
   replace hb5:=Lib.hid hb5
   go_wp2_with fail
   generalize hW9:World.alloc w5 _=W9
   replace hW9:=Lib.hid hW9
   have t0:W9.cell? ⟨w5.heap.size,0,none⟩=some (.func (.func 39) #[.pointer (some ⟨P.cb,0,none⟩)] #[]):=by rw [← hW9.out];go_simp
   have t1:W9.cell? ⟨w5.heap.size,1,none⟩=some (.func (.func 40) #[.pointer (some ⟨P.cb,0,none⟩)] #[]):=by rw [← hW9.out];go_simp
   have t2:W9.cell? ⟨w5.heap.size,2,none⟩=some (.func (.func 41) #[.pointer (some ⟨P.cb,0,none⟩)] #[]):=by rw [← hW9.out];go_simp
   have hb9:Below w5.heap.size w5 W9:=by rw [← hW9.out];exact Rd.byB
   have S9:=Lib.hid (S5.out.below hb9)
   have e09:=kept hb9 (cell_lt e0w) e0w
   clear hW9
   have K9:=Lib.hid (show Kp (own E L) w W9 from ((KW.out.mono (fun k e=>.inl e)).trans (Kp.of_below (X:=fun _=>False) hb5.out (Nat.le_refl _)) (fun _ e=>e.elim)).trans (Kp.of_below (X:=fun _=>False) hb9 (Nat.le_refl _)) (fun _ e=>e.elim))
   have hbig:W.heap.size≤(wr.setCell ⟨E.hb,10,none⟩ (.int .i64 ((d:Int)+1))).heap.size:=by simp;exact BW.out.size
   have hlow:=Lib.hid (fun (b:Nat) (cs:List Value) (l1:w.heap.size≤b) (l2:b < W.heap.size) (hB:Blk W b cs)=>(show Blk W9 b cs∧¬ Hpr.fo E L P (.slice none 0 0) b from
    ⟨((((hB.next (Kp.of_below (X:=fun _=>False) BW.out (Nat.le_refl _)) (fun e=>e)).far (b2:=E.hb) (o2:=10) (by have:=HH.out.hbw;omega) _).next (Kp.of_below (X:=fun _=>False) hb5.out (Nat.le_refl _)) (fun e=>e)).next (Kp.of_below (X:=fun _=>False) hb9 (Nat.le_refl _)) (fun e=>e)),notFo HH.out g1 g2 l1 (by omega)⟩))
   have gw:w.heap.size≤P.cb∧w.heap.size≤P.lb:=by omega
   have hs9:w.heap.size+2 < W9.heap.size:=by have q1:=hb5.out.size;have q2:=hb9.size;omega
   go_loopw [15] (fun _ wr2=>∃ L2 h2 fr vs2 g2,Hid (Gr E L P (.slice none 0 0) W9 L2 vs2 wr2)∧Hid (ST E wr2 L2 P m (d+1) h2 fr vs2)∧Hid (HpOk E.f.classes E.input E.fuel h2)∧Hid (RfOk m h2.objs.length fr)∧Hid (loop RM E.f E.input E.fuel g2 (d+1) m fr h2=r)∧E.fuel < g2+h2.steps) (fun _ wr2=>E.fuel - (match wr2.cell? ⟨E.hb,7,none⟩ with | some (.int _ n)=>n.toNat | _=>0))
   case atStart=>exact ⟨L,h,renter m args,.slice none 0 0,g,Lib.hid ⟨Kp.refl _ _,fun _ e=>.inl e,fun _ e=>.inl e⟩,S9,Lib.hid HO,Lib.hid HS0,HRR,hg⟩
   case round =>
    obtain ⟨L2,h2,fr,vs2,g2,G2,S2,HO2,SO2,HR2,hg2⟩:=hrel
    obtain ⟨g3,rfl⟩:∃ g3,g2=g3+1:=⟨g2 - 1,by have:=HO2.out.steps;omega⟩
    have nfF:=S5.out.fo_new (Nat.le_refl _)
    have lF:=cell_lt t0
    have y0:=G2.out.cell nfF t0
    have y1:=G2.out.cell nfF t1
    have y2:=G2.out.cell nfF t2
    have nfF2:=G2.out.nf lF nfF
    obtain ⟨ou,hou⟩:∃ x,Hid (outS RM E.f E.input E.fuel g3 (d+1) m fr h2=x):=⟨_,Lib.hid rfl⟩
    have hdo:∀ (W L3:_) (vs3:Value),ST E W L3 P m (d+1) h2 fr vs3→Calls Try.prog 39 #[.pointer (some ⟨P.cb,0,none⟩)] W (DoR E L3 P m (d+1) vs3 fr W ou):=fun W L3 vs3 hS=>by
     rw [← hou.out]
     exact doP FS hmm hS HO2.out SO2.out hfu hin g3 (HIN.out g3 (stepped h2) (by show E.fuel < g3+(h2.steps+1);omega))
    have HDO:=Lib.hid hdo
    have SS2:=Lib.hid S2.out
    clear hdo S2 t0 t1 t2
    have lF2:=cell_lt y0
    go_wp2_with fail
    refine (tryP (w0:=wr) (b11:=w5.heap.size) (b12:=wr.heap.size) (b13:=wr.heap.size+1) SS2.out (by exact Rd.byB) ⟨Nat.le_refl _,by simp;omega⟩ ⟨by omega,by simp⟩ (by omega) (by go_simp) (by go_simp) (by go_simp) (by go_simp) (by go_simp) (by go_simp) (by go_simp) ou (fun W hb=>HDO.out W _ _ (SS2.out.below (Below.trans (by exact Rd.byB) (hb.mono Rd.byL))))).mono ?_
    rintro e w6 R
    cases ou with
    | go fr' h' =>
     obtain ⟨rfl,z12,A⟩:=R
     have hok:h2.steps < E.fuel∧OutOk RfOk E.f E.input E.fuel m { h2 with steps:=h2.steps+1 } (.go fr' h'):=by
      rcases outS_ok (g:=g3) (d:=d+1) KM hmm HO2.out SO2.out with ⟨c,h9,e9⟩ | q
      ·rw [hou.out] at e9;cases e9
      ·rw [hou.out] at q;exact q
     obtain ⟨hq1,⟨hq2,_,hq3⟩,hq4⟩:=hok
     have hrn:loop RM E.f E.input E.fuel g3 (d+1) m fr' h'=r:=by
      have e:=HR2.out
      rw [loop_out rm_same,hou.out] at e
      exact e
     have c7a:=SS2.out.H.c7
     obtain ⟨L4,v4,G4,S4⟩:=A.opn
     have c7b:=S4.H.c7
     have hq3':h2.steps+1≤h'.steps:=hq3
     have HX1:=Lib.hid (show Gr E L P (.slice none 0 0) W9 L4 v4 w6 from G2.out.trans G4)
     have HX2:=Lib.hid S4
     have HX3:=Lib.hid hrn
     have HX4:=Lib.hid hq2
     have HX5:=Lib.hid hq4
     clear A G4 S4 hrn hq2 hq4 hq3
     go_wp2_with fail
     refine ⟨⟨L4,h',fr',v4,g3,HX1,HX2,HX4,HX5,HX3,by omega⟩,?_⟩
     rw [c7a,c7b]
     simp only [Int.toNat_natCast]
     omega
    | back v h' =>
     obtain ⟨rfl,z12,z130,z131,st,A⟩:=R
     have hrn:r=.ok v h':=by
      have e:=HR2.out
      rw [loop_out rm_same,hou.out] at e
      exact e.symm
     obtain ⟨vk,vn⟩:=v
     simp only at z130 z131
     have A9:=Lib.hid (G2.out.comp A)
     obtain ⟨L4,v4,G4,S4⟩:=A9.out.opn
     obtain ⟨q0,n0⟩:=hlow.out _ _ (by omega) (by omega) X0.out
     obtain ⟨q2,n2⟩:=hlow.out _ _ (by omega) (by omega) X2.out
     have b0c:=((q0.next G4.kp n0) 0 (by simp)).1
     have r0:=((q2.next G4.kp n2) 0 (by simp)).1
     have r1:=((q2.next G4.kp n2) 1 (by simp)).1
     have f0:=((q2.next G4.kp n2) 0 (by simp)).2
     have f1:=((q2.next G4.kp n2) 1 (by simp)).2
     simp only [List.getElem_cons_zero,List.getElem_cons_succ] at b0c r0 r1
     have A10:=Lib.hid (Lft.ofS2 HH.out K9.out gw.1 gw.2 A9.out.stop (b:=w.heap.size+1+1) (by omega) (by omega) (.int .i64 vk) (.int .i64 vn))
     clear A G4 S4 q0 q2 n0 n2
     have l0:=cell_lt b0c
     have l2:=cell_lt r0
     have nh:w.heap.size+1+1≠E.hb:=by have:=HH.out.hbw;omega
     have nh2:=nh.symm
     go_wp2_with fail
     obtain ⟨L5,K5,N5,H5⟩:=A10.out
     refine leaves_cons (f:=67) (args:=#[.pointer (some ⟨w.heap.size,0,none⟩)]) (by simp) (by simp [go_sem]) ?_
     refine (leaveP w.heap.size _ H5 hd1 (by go_simp)).mono ?_
     rintro e u' w'' ⟨rfl,rfl,rfl⟩
     simp [Leaves,settle,results,Try.results35,go_sem,r0,r1,l2,nh,nh2]
     have hret:=Lib.hid (show InvR E L d w r (Ending.returned (.agg #[.int .i64 vk,.int .i64 vn])) ((((w6.setCell ⟨w.heap.size+1+1,0,none⟩ (.int .i64 vk)).setCell ⟨w.heap.size+1+1,1,none⟩ (.int .i64 vn)).setCell ⟨E.hb,10,none⟩ (.int .i64 d))) from by
      rw [hrn]
      exact ⟨rfl,Lft.deep ⟨L5,K5,N5,H5⟩ d⟩)
     exact hret.out
    | thrown o h' =>
     obtain ⟨rfl,z12,st,L4,v4,G4a,S4a,nb12⟩:=R
     have hok:h2.steps < E.fuel∧OutOk RfOk E.f E.input E.fuel m { h2 with steps:=h2.steps+1 } (.thrown o h'):=by
      rcases outS_ok (g:=g3) (d:=d+1) KM hmm HO2.out SO2.out with ⟨c,h9,e9⟩ | q
      ·rw [hou.out] at e9;cases e9
      ·rw [hou.out] at q;exact q
     obtain ⟨hq1,⟨hq2,hqo,hq3⟩,hq4⟩:=hok
     have hq3':h2.steps+1≤h'.steps:=hq3
     have c7a:=SS2.out.H.c7
     have GX:=Lib.hid (show Gr E L P (.slice none 0 0) W9 L4 v4 w6 from G2.out.trans G4a)
     obtain ⟨q0,n0⟩:=hlow.out _ _ (by omega) (by omega) X0.out
     obtain ⟨q1,n1⟩:=hlow.out _ _ (by omega) (by omega) X1.out
     have b0c:=((q0.next GX.out.kp n0) 0 (by simp)).1
     have mX:=q1.next GX.out.kp n1
     have m0:=(mX 0 (by simp)).1
     have m1:=(mX 1 (by simp)).1
     have m2:=(mX 2 (by simp)).1
     have m3:=(mX 3 (by simp)).1
     have m4:=(mX 4 (by simp)).1
     have m5:=(mX 5 (by simp)).1
     have m6:=(mX 6 (by simp)).1
     have m7:=(mX 7 (by simp)).1
     simp only [List.getElem_cons_zero,List.getElem_cons_succ] at b0c m0 m1 m2 m3 m4 m5 m6 m7
     have y1':=G4a.cell nfF2 y1
     have y2':=G4a.cell nfF2 y2
     have SX:=Lib.hid (show ST E w6 L4 P m (d+1) h' ⟨fr.regs,fr.at_,Vl.nil,Vl.nil⟩ v4 from S4a)
     have shX:=Lib.hid (show Sl 4 EHd w6 E.B (.slice ha' m.handlers.length hcap) m.handlers from by
      obtain ⟨L5,K5,_,_⟩:=Lft.ofS K9.out gw.1 gw.2 (GX.out.lft S4a).stop
      obtain ⟨vp9,vc9,vh9,e9,_,_,_,shs9⟩:=HVM.out
      simp at e9
      obtain ⟨_,_,rfl⟩:=e9
      exact shs9.mono mHd (K5.below hEB (fun k hk=>(own_lo HH.out hk).1)) (Nat.le_refl _))
     obtain ⟨x,hx⟩:∃ x,Hid (handler E.f.classes m fr.at_ (obj h' o).cls=x):=⟨_,Lib.hid rfl⟩
     have l0:=cell_lt b0c
     have l1:=cell_lt m0
     have l5:=cell_lt y1'
     have l12:=cell_lt z12
     clear q0 q1 n0 n1 mX G4a S4a
     cases x with
     | none =>
      have hrr:r=.thrown o h':=by
       have ea:after RM E.f m fr o h'=.thrown:=by
        unfold after
        rw [show RM.at_ fr=fr.at_ from rfl,hx.out]
       have e:=HR2.out
       rw [loop_out rm_same,hou.out] at e
       simp only [ea] at e
       exact e.symm
      go_wp2_with fail
      refine wp_region_noPanic ?_
      refine Drawn.hd (fun w'=>w'.cell? ⟨w.heap.size,0,none⟩=some (.pointer (some ⟨E.hb,0,none⟩))∧w'.cell? ⟨w.heap.size+1,0,none⟩=some (.slice pa m.params.length pcap)∧w'.cell? ⟨w.heap.size+1,1,none⟩=some (.int .i64 m.ret.kind)∧w'.cell? ⟨w.heap.size+1,2,none⟩=some (.int .i64 m.ret.cls)∧w'.cell? ⟨w.heap.size+1,3,none⟩=some (.int .i64 m.stack)∧w'.cell? ⟨w.heap.size+1,4,none⟩=some (.int .i64 m.locals)∧w'.cell? ⟨w.heap.size+1,5,none⟩=some (.int .i64 m.regs)∧w'.cell? ⟨w.heap.size+1,6,none⟩=some (.slice ca m.code.length ccap)∧w'.cell? ⟨w.heap.size+1,7,none⟩=some (.slice ha' m.handlers.length hcap)∧w'.cell? ⟨w5.heap.size,1,none⟩=some (.func (.func 40) #[.pointer (some ⟨P.cb,0,none⟩)] #[])) (h:=fun hHeld=>?_)
      refine Drawn.T 0 (some 66) (h:=?_)
      refine Drawn.T 1 (some 67) (h:=?_)
      refine Drawn.T 2 (some 68) (h:=?_)
      refine Drawn.T 3 (some 69) (h:=?_)
      refine Drawn.T 5 (some 71) (h:=?_)
      refine Drawn.cl 4 (fun K hK=>?_)
      go_simp
      refine (atP (SX.out.below (w':=w6.drew) (by exact Rd.byB))).mono ?_
      rintro e w7 ⟨rfl,rfl⟩
      go_wp2_with fail
      refine Drawn.bk hK (h:=fun hHeld=>?_)
      clear hK K
      refine Drawn.cl 6 (fun K hK=>?_)
      go_simp
      refine (caughtP (SX.out.below (w':=w6.drew) (by exact Rd.byB)).H hq4 FS.may m (shX.out.mono mHd (by exact Rd.byB) (Nat.le_refl _)) fr.at_ (.tuple #[.int .i64 0,.bool false]) (by rw [hx.out];rfl)).mono ?_
      rintro e w8 ⟨rfl,hb8⟩
      have kk:∀ (b o:Nat) (u:Value),World.cell? _ ⟨b,o,none⟩=some u→w8.cell? ⟨b,o,none⟩=some u:=fun b o u hc=>kept hb8 (cell_lt hc) hc
      have v0:=kk w.heap.size 0 _ b0c
      have v10:=kk (w.heap.size+1) 0 _ m0
      have v11:=kk (w.heap.size+1) 1 _ m1
      have v12:=kk (w.heap.size+1) 2 _ m2
      have v13:=kk (w.heap.size+1) 3 _ m3
      have v14:=kk (w.heap.size+1) 4 _ m4
      have v15:=kk (w.heap.size+1) 5 _ m5
      have v16:=kk (w.heap.size+1) 6 _ m6
      have v17:=kk (w.heap.size+1) 7 _ m7
      have va:=kk w5.heap.size 1 _ y1'
      have vb:=kk w5.heap.size 2 _ y2'
      have zb:=kk wr.heap.size 0 _ z12
      have HB8:=Lib.hid (show Below w6.heap.size w6 w8 from Below.trans (by exact Rd.byB) (hb8.mono Rd.byL))
      clear kk hb8
      go_wp2_with fail
      refine Drawn.bk hK (hS:=by (try dsimp only);exact ⟨v0,v10,v11,v12,v13,v14,v15,v16,v17,va⟩) (h:=fun hHeld=>?_)
      clear hK K
      refine Drawn.T 7 (some 65) (h:=?_)
      refine Drawn.T 8 (some 73) (h:=?_)
      refine Drawn.T 9 (some 74) (h:=?_)
      refine Drawn.T 10 (some 16) (h:=?_)
      refine Drawn.T 11 (some 17) (h:=?_)
      refine wpAnyH_done (by kernel_rfl) ?_ _
      refine NoPanic.normal ?_
      go_wp2_with fail
      obtain ⟨L5,K5,N5,H5⟩:=Lft.ofS K9.out gw.1 gw.2 ((GX.out.lft SX.out).below HB8.out).stop
      refine leaves_cons (f:=67) (args:=#[.pointer (some ⟨w.heap.size,0,none⟩)]) (by simp) (by simp [go_sem]) ?_
      refine (leaveP w.heap.size _ H5 hd1 v0).mono ?_
      rintro e u' w'' ⟨rfl,rfl,rfl⟩
      have hret:=Lib.hid (show InvR E L d w r (.panicked [{ v:=thrownV o,recovered:=false }]) (w8.setCell ⟨E.hb,10,none⟩ (.int .i64 d)) from by
       rw [hrr]
       exact ⟨Pan.one _,Lft.deep ⟨L5,K5,N5,H5⟩ d⟩)
      exact hret.out
     | some hd =>
      have hhd:=(FS.mes m hmm).hds.2 hd (List.mem_of_find?_eq_some hx.out)
      obtain ⟨lo,hi,go,hcl⟩:=hd
      obtain ⟨ga,rfl⟩:∃ ga:Nat,go=(ga:Int):=by
       simp only [Form.hd,Bool.and_eq_true,decide_eq_true_eq,rng_iff] at hhd
       exact ⟨go.toNat,by omega⟩
      clear hhd
      go_wp2_with fail
      refine wp_region_noPanic ?_
      refine Drawn.hd (fun w'=>w'.cell? ⟨w.heap.size,0,none⟩=some (.pointer (some ⟨E.hb,0,none⟩))∧w'.cell? ⟨w.heap.size+1,0,none⟩=some (.slice pa m.params.length pcap)∧w'.cell? ⟨w.heap.size+1,1,none⟩=some (.int .i64 m.ret.kind)∧w'.cell? ⟨w.heap.size+1,2,none⟩=some (.int .i64 m.ret.cls)∧w'.cell? ⟨w.heap.size+1,3,none⟩=some (.int .i64 m.stack)∧w'.cell? ⟨w.heap.size+1,4,none⟩=some (.int .i64 m.locals)∧w'.cell? ⟨w.heap.size+1,5,none⟩=some (.int .i64 m.regs)∧w'.cell? ⟨w.heap.size+1,6,none⟩=some (.slice ca m.code.length ccap)∧w'.cell? ⟨w.heap.size+1,7,none⟩=some (.slice ha' m.handlers.length hcap)∧w'.cell? ⟨w5.heap.size,1,none⟩=some (.func (.func 40) #[.pointer (some ⟨P.cb,0,none⟩)] #[])) (h:=fun hHeld=>?_)
      refine Drawn.T 0 (some 66) (h:=?_)
      refine Drawn.T 1 (some 67) (h:=?_)
      refine Drawn.T 2 (some 68) (h:=?_)
      refine Drawn.T 3 (some 69) (h:=?_)
      refine Drawn.T 5 (some 71) (h:=?_)
      refine Drawn.cl 4 (fun K hK=>?_)
      go_simp
      refine (atP (SX.out.below (w':=w6.drew) (by exact Rd.byB))).mono ?_
      rintro e w7 ⟨rfl,rfl⟩
      go_wp2_with fail
      refine Drawn.bk hK (h:=fun hHeld=>?_)
      clear hK K
      refine Drawn.cl 6 (fun K hK=>?_)
      go_simp
      refine (caughtP (SX.out.below (w':=w6.drew) (by exact Rd.byB)).H hq4 FS.may m (shX.out.mono mHd (by exact Rd.byB) (Nat.le_refl _)) fr.at_ (.tuple #[.int .i64 ga,.bool true]) (by rw [hx.out];rfl)).mono ?_
      rintro e w8 ⟨rfl,hb8⟩
      have kk:∀ (b o:Nat) (u:Value),World.cell? _ ⟨b,o,none⟩=some u→w8.cell? ⟨b,o,none⟩=some u:=fun b o u hc=>kept hb8 (cell_lt hc) hc
      have v0:=kk w.heap.size 0 _ b0c
      have v10:=kk (w.heap.size+1) 0 _ m0
      have v11:=kk (w.heap.size+1) 1 _ m1
      have v12:=kk (w.heap.size+1) 2 _ m2
      have v13:=kk (w.heap.size+1) 3 _ m3
      have v14:=kk (w.heap.size+1) 4 _ m4
      have v15:=kk (w.heap.size+1) 5 _ m5
      have v16:=kk (w.heap.size+1) 6 _ m6
      have v17:=kk (w.heap.size+1) 7 _ m7
      have va:=kk w5.heap.size 1 _ y1'
      have vb:=kk w5.heap.size 2 _ y2'
      have zb:=kk wr.heap.size 0 _ z12
      have HB8:=Lib.hid (show Below w6.heap.size w6 w8 from Below.trans (by exact Rd.byB) (hb8.mono Rd.byL))
      clear kk hb8
      go_wp2_with fail
      refine Drawn.bk hK (hS:=by (try dsimp only);exact ⟨v0,v10,v11,v12,v13,v14,v15,v16,v17,va⟩) (h:=fun hHeld=>?_)
      clear hK K
      refine Drawn.T 7 (some 65) (h:=?_)
      refine Drawn.T 8 (some 73) (h:=?_)
      refine Drawn.T 9 (some 74) (h:=?_)
      refine Drawn.T 10 (some 16) (h:=?_)
      refine Drawn.T 11 (some 17) (h:=?_)
      refine wpAnyH_done (by kernel_rfl) ?_ _
      refine NoPanic.normal ?_
      go_wp2_with fail
      refine (catchP (SX.out.below HB8.out) ga o).mono ?_
      rintro e w9 ⟨rfl,A0⟩
      have A:LftF E L4 P m (d+1) v4 w8 w9 h' ⟨fr.regs,ga,Vl.nil,⟨3,o⟩⟩:=A0
      clear A0
      have z:=A.box zb nb12
      have lz:=cell_lt z
      obtain ⟨L6,v6,G6,S6⟩:=A.opn
      have c7b:=S6.H.c7
      have hcg:RM.caught m fr ga o=some ⟨fr.regs,ga,Vl.nil,⟨3,o⟩⟩:=rfl
      have ea:after RM E.f m fr o h'=.go ⟨fr.regs,ga,Vl.nil,⟨3,o⟩⟩:=by
       unfold after
       rw [show RM.at_ fr=fr.at_ from rfl,hx.out]
       simp only [Int.toNat_natCast]
       rw [hcg]
      have hrr:loop RM E.f E.input E.fuel g3 (d+1) m ⟨fr.regs,ga,Vl.nil,⟨3,o⟩⟩ h'=r:=by
       have e:=HR2.out
       rw [loop_out rm_same,hou.out] at e
       simp only [ea] at e
       exact e
      have HX1:=Lib.hid (show Gr E L P (.slice none 0 0) W9 L6 v6 w9 from (GX.out.trans (Gr.of_below HB8.out)).trans G6)
      have HX2:=Lib.hid S6
      have HX3:=Lib.hid hrr
      have HX4:=Lib.hid hq2
      have HX5:=Lib.hid (show RfOk m h'.objs.length ⟨fr.regs,ga,Vl.nil,⟨3,o⟩⟩ from KM.caught m hmm _ o ga fr _ hq4 hq2.many (KM.mono m _ _ fr hqo SO2.out) hcg)
      clear A G6 S6 hrr hq2 ea hcg hq3
      go_wp2_with fail
      refine ⟨⟨L6,h',_,v6,g3,HX1,HX2,HX4,HX5,HX3,by omega⟩,?_⟩
      rw [c7a,c7b]
      simp only [Int.toNat_natCast]
      omega
    | stop c h' =>
     obtain ⟨⟨older,hol,rfl⟩,A⟩:=R
     have hrn:r=.stop c h':=by
      have e:=HR2.out
      rw [loop_out rm_same,hou.out] at e
      exact e.symm
     have A9:=G2.out.compS A
     obtain ⟨q0,n0⟩:=hlow.out _ _ (by omega) (by omega) X0.out
     obtain ⟨L4,K4,N4,H4⟩:=id A9
     have b0c:=((q0.next K4 n0) 0 (by simp)).1
     simp only [List.getElem_cons_zero] at b0c
     have A10:=Lib.hid (Lft.ofS K9.out gw.1 gw.2 A9)
     clear A A9 q0 n0 K4 N4 H4
     go_wp2_with fail
     obtain ⟨L5,K5,N5,H5⟩:=A10.out
     refine leaves_cons (f:=67) (args:=#[.pointer (some ⟨w.heap.size,0,none⟩)]) (by simp) (by simp [go_sem]) ?_
     refine (leaveP w.heap.size _ H5 hd1 b0c).mono ?_
     rintro e u' w'' ⟨rfl,rfl,rfl⟩
     have hret:=Lib.hid (show InvR E L d w r (.panicked ({ v:=stopV c,recovered:=false } :: older)) (w6.setCell ⟨E.hb,10,none⟩ (.int .i64 d)) from by
      rw [hrn]
      exact ⟨⟨older,hol,rfl⟩,Lft.deep ⟨L5,K5,N5,H5⟩ d⟩)
     exact hret.out
end
end Hpr
namespace Hpr
open Num Rd D Run Mem HierW Hpw
section
variable {E:Ev}
theorem invOk (FS:FiR E.f) (KM:MachOk RM RfOk E.f E.input E.fuel) (hfu:E.fuel≤60000) (hin:E.input.length≤1000):∀ (n d:Nat),d+n=20→∀ (g:Nat) (h:Hp),E.fuel < g+h.steps→InvOk E d g h:=by
 intro n
 induction n with
 | zero =>
  intro d hd g h hg k args h1 hk HO hs hv hl L W mv va X H hmv hva hX
  have M:=FS.mes _ (meAt_mem hk)
  have hEB:E.B≤W.heap.size:=by have:=H.base;omega
  have h4:args.length≤4:=by have:=M.params.1;omega
  obtain ⟨vp,vc,vh,rfl,hrest⟩:=id hmv
  refine invokeP H X args hmv hva _ (fun W2 b3 b4 b5 hb l3 l4 l5 c3 c5 B4=>?_)
  have hva2:=hva.next (X':=X) (Kp.of_below (X:=fun _=>False) hb (Nat.le_refl _)) (fun _ _ e=>e.elim) (fun _ _ e=>e)
  have hmv2:=hmv.mono (hb.mono hEB) (Nat.le_refl _)
  cases hall:allOf E.f.classes h1 args (meAt E.f k).params with
  | false =>
   have e:call RM E.f E.input E.fuel g d (meAt E.f k) args h1=.stop 6 h1:=by unfold call;rw [if_pos hall]
   rw [e]
   exact callBad FS.may (H.below hb) X args hmv2 hva2 hl h4 hv hall _
  | true =>
   have e:call RM E.f E.input E.fuel g d (meAt E.f k) args h1=.stop 5 h1:=by unfold call;rw [if_neg (by rw [hall];simp),if_pos (by omega)]
   rw [e]
   exact callDeep FS.may (H.below hb) X args hmv2 hva2 hl h4 hv hall (by omega) _
 | succ n ih =>
  intro d hd g h hg k args h1 hk HO hs hv hl L W mv va X H hmv hva hX
  have hmem:=meAt_mem hk
  have M:=FS.mes _ hmem
  have hEB:E.B≤W.heap.size:=by have:=H.base;omega
  have h4:args.length≤4:=by have:=M.params.1;omega
  obtain ⟨vp,vc,vh,rfl,hrest⟩:=id hmv
  refine invokeP H X args hmv hva _ (fun W2 b3 b4 b5 hb l3 l4 l5 c3 c5 B4=>?_)
  have hva2:=hva.next (X':=X) (Kp.of_below (X:=fun _=>False) hb (Nat.le_refl _)) (fun _ _ e=>e.elim) (fun _ _ e=>e)
  have hmv2:=hmv.mono (hb.mono hEB) (Nat.le_refl _)
  have nown:∀ b,W.heap.size≤b→¬ own E L b:=fun b hb hk=>by have:=own_lo H hk;omega
  cases hall:allOf E.f.classes h1 args (meAt E.f k).params with
  | false =>
   have e:call RM E.f E.input E.fuel g d (meAt E.f k) args h1=.stop 6 h1:=by unfold call;rw [if_pos hall]
   rw [e]
   exact callBad FS.may (H.below hb) X args hmv2 hva2 hl h4 hv hall _
  | true =>
   have e:call RM E.f E.input E.fuel g d (meAt E.f k) args h1=loop RM E.f E.input E.fuel g (d+1) (meAt E.f k) (RM.enter (meAt E.f k) args) h1:=by unfold call;rw [if_neg (by rw [hall];simp),if_neg (by omega)]
   have hsz:(size args:Int)≤(meAt E.f k).regs:=by
    have:=size_slots args _ hl (fun i hi=>allOf_kind args _ hall i hi (by omega))
    have:=M.regs.2.1
    omega
   rw [e]
   exact callRun FS.may (H.below hb) X args hmv2 hva2 hl h4 hv hall (by omega) hX M.regs.2.2 hsz b3 b4 b5 (nown _ l3) (nown _ l4) (nown _ l5) c3 c5 B4 _ HO (KM.enter _ hmem _ args hv hl (fun i hi=>allOf_kind args _ hall i hi (by rw [← hl];exact hi))) g rfl (by omega) FS hmem hfu hin KM (Lib.hid (fun g2 h2 hg2=>ih (d+1) (by omega) g2 h2 hg2))
end
end Hpr
namespace Hpw
open Num Rd D Run Mem HierW
section
variable {E:Ev}{w w' w0 w1 w2 W:World}{L L' L1:Lay}{h h' h1 h2:Hp}{d:Nat}
def shc (E:Ev) (L:Lay) (h:Hp) (d:Nat) (x y z:Int):List Value:=[E.vc,E.vm,.int .i64 x,.int .i64 y,.int .i64 z,L.vo,.int .i64 h.used,.int .i64 h.steps,L.vb,E.vi,.int .i64 d,.int .i64 E.fuel]
set_option maxRecDepth 100000 in
theorem asS1 (c:Int) (w:World):(Instr.typeAssert (.iface 82 (.agg #[.int .i64 c])) 20 82 true).run Try.prog w=.ok (.tuple #[.agg #[.int .i64 c],.bool true]) w:=by kernel_rfl
set_option maxRecDepth 100000 in
theorem asS2 (o:Int) (w:World):(Instr.typeAssert (.iface 84 (.agg #[.int .i64 o])) 20 82 true).run Try.prog w=.ok (.tuple #[.agg #[.int .i64 0],.bool false]) w:=by kernel_rfl
theorem runsIdle (p:Addr) (w:World):CallsD Try.prog 34 #[.pointer (some p)] .returning w fun e u' w'=>e=.returned (.tuple #[])∧u'=.returning∧w'=w:=by
 refine callsD_of_wpS Try.func34 rfl fun c₀ cs hu=>?_
 apply wpS_seq
 apply wpS_region
 simp [wpOpsS,go_sem,recoverD,hu,Try.ntmps34,Exit.thenS]
 rw [show (Array.replicate 38 undef:Array Value)=#[undef,undef,undef,undef,undef,undef,undef,undef,undef,undef,undef,undef,undef,undef,undef,undef,undef,undef,undef,undef,undef,undef,undef,undef,undef,undef,undef,undef,undef,undef,undef,undef,undef,undef,undef,undef,undef,undef] from rfl]
 simp only [List.setIfInBounds_toArray,List.set_cons_succ,List.set_cons_zero,List.append_toArray,List.cons_append,List.nil_append]
 refine wpS_of_wp ?_
 go_wp2
 all_goals (cases c₀;simp_all [bodyPostS,results,Try.results34])
set_option maxRecDepth 100000 in
theorem runsStop (H:PH E w L h d) (b0:Nat) (c:Int) (older:List PanicEntry) (c0:w.cell? ⟨b0,0,none⟩=some (.pointer (some ⟨E.hb,0,none⟩))) :
  CallsD Try.prog 34 #[.pointer (some ⟨b0,0,none⟩)] (.panicking ({ v:=stopV c,recovered:=false } :: older)) w fun e u' w' =>
   e=.returned (.tuple #[])∧u'=.panicking ({ v:=stopV c,recovered:=true } :: older)∧Kp (fun k=>k=E.hb) w w'∧Blk w' E.hb (shc E L h d c 0 0):=by
 have hta:=asS1 c
 have c2:=(H.cells 2 (by simp)).1
 have f2:=(H.cells 2 (by simp)).2
 simp only [List.getElem_cons_zero,List.getElem_cons_succ] at c2
 have hb0:=cell_lt c0
 have hhb:=H.hbw
 have HH:=Lib.hid H
 clear H
 unfold stopV
 refine callsD_of_wpS Try.func34 rfl fun c₀ cs hu=>?_
 apply wpS_seq
 apply wpS_region
 simp [wpOpsS,go_sem,recoverD,hu,Try.ntmps34,Exit.thenS]
 rw [show (Array.replicate 38 undef:Array Value)=#[undef,undef,undef,undef,undef,undef,undef,undef,undef,undef,undef,undef,undef,undef,undef,undef,undef,undef,undef,undef,undef,undef,undef,undef,undef,undef,undef,undef,undef,undef,undef,undef,undef,undef,undef,undef,undef,undef] from rfl]
 simp only [List.setIfInBounds_toArray,List.set_cons_succ,List.set_cons_zero,List.append_toArray,List.cons_append,List.nil_append]
 refine wpS_of_wp ?_
 go_wp2
 simp [bodyPostS,results,Try.results34]
 refine ⟨((Kp.refl (fun k=>k=E.hb) w).setCell (p:=⟨E.hb,2,none⟩) (.inl rfl) _).alloc _,?_⟩
 exact (HH.out.cells.set 2 (by simp) (.int .i64 c)).alloc _
set_option maxRecDepth 100000 in
theorem runsThrown (H:PH E w L h d) (b0 o:Nat) (ho:o < h.objs.length) (older:List PanicEntry) (c0:w.cell? ⟨b0,0,none⟩=some (.pointer (some ⟨E.hb,0,none⟩))) :
  CallsD Try.prog 34 #[.pointer (some ⟨b0,0,none⟩)] (.panicking ({ v:=thrownV o,recovered:=false } :: older)) w fun e u' w' =>
   e=.returned (.tuple #[])∧u'=.panicking ({ v:=thrownV o,recovered:=true } :: older)∧Kp (fun k=>k=E.hb) w w'∧Blk w' E.hb (shc E L h d 2 0 (obj h o).cls):=by
 have hta:=asS2 o
 have hta2:=assertT o
 obtain ⟨g,cap,hvb,q1,q2,hg,hgne,o1,_⟩:=H.ob (n:=o) (by omega) (by omega)
 have c2:=(H.cells 2 (by simp)).1
 have f2:=(H.cells 2 (by simp)).2
 have c4:=(H.cells 4 (by simp)).1
 have f4:=(H.cells 4 (by simp)).2
 have c8:=H.c8
 simp only [List.getElem_cons_zero,List.getElem_cons_succ] at c2 c4
 rw [hvb] at c8
 rw [Int.toNat_natCast] at o1
 have hb0:=cell_lt c0
 have hhb:=H.hbw
 have hoi:(o:Int) < h.objs.length:=by omega
 have HH:=Lib.hid H
 have HVB:=Lib.hid hvb
 clear H hvb
 unfold thrownV
 refine callsD_of_wpS Try.func34 rfl fun c₀ cs hu=>?_
 apply wpS_seq
 apply wpS_region
 simp [wpOpsS,go_sem,recoverD,hu,Try.ntmps34,Exit.thenS]
 rw [show (Array.replicate 38 undef:Array Value)=#[undef,undef,undef,undef,undef,undef,undef,undef,undef,undef,undef,undef,undef,undef,undef,undef,undef,undef,undef,undef,undef,undef,undef,undef,undef,undef,undef,undef,undef,undef,undef,undef,undef,undef,undef,undef,undef,undef] from rfl]
 simp only [List.setIfInBounds_toArray,List.set_cons_succ,List.set_cons_zero,List.append_toArray,List.cons_append,List.nil_append]
 refine wpS_of_wp ?_
 go_wp2
 go_region
 go_wp2
 simp [bodyPostS,results,Try.results34]
 have B:=HH.out.cells
 refine ⟨((((Kp.refl (fun k=>k=E.hb) w).setCell (p:=⟨E.hb,2,none⟩) (.inl rfl) _).setCell (p:=⟨E.hb,4,none⟩) (.inl rfl) _).alloc _).drew,?_⟩
 exact (((B.set 2 (by simp) (.int .i64 2)).set 4 (by simp) (.int .i64 (obj h o).cls)).alloc _).drew
def RunsR (E:Ev) (L:Lay) (w:World) (s:Sh) (e:Ending) (w':World):Prop :=
 e=.returned (.tuple #[])∧Kp (own E L) w w'∧∃ vo,Blk w' E.hb [E.vc,E.vm,.int .i64 s.fin,.int .i64 s.value,.int .i64 s.cls,vo,.int .i64 s.used,.int .i64 s.steps]∧w'.ownsRow E.B 2 1 vo s.out.length (s.out.map (.int .i64 ·))
theorem runsR_of {w2:World}{x y z:Int}(K1:Kp (own E L) w w1) (H1:PH E w1 L1 h 0) (K2:Kp (fun k=>k=E.hb) w1 w2) (B2:Blk w2 E.hb (shc E L1 h 0 x y z)):RunsR E L w ⟨x,y,z,h.out,h.used,h.steps⟩ (.returned (.tuple #[])) w2:=by
 refine ⟨rfl,K1.trans K2 (fun y hy=>by subst hy;exact .inl (.inl rfl)),L1.vo,fun j hj=>?_,row_keep H1.out K2 (fun g hg e=>by subst e;exact H1.apart.1 hg)⟩
 match j,hj with
 | 0,_=>exact B2 0 (by simp [shc])
 | 1,_=>exact B2 1 (by simp [shc])
 | 2,_=>exact B2 2 (by simp [shc])
 | 3,_=>exact B2 3 (by simp [shc])
 | 4,_=>exact B2 4 (by simp [shc])
 | 5,_=>exact B2 5 (by simp [shc])
 | 6,_=>exact B2 6 (by simp [shc])
 | 7,_=>exact B2 7 (by simp [shc])
 | n+8,hj=>exact absurd hj (by simp)
end
end Hpw
namespace Hpw
open Num Rd D Run Mem HierW
section
variable {E:Ev}{w w' w0 w1 w2 W:World}{L L' L1:Lay}{h h' h1 h2:Hp}{d B:Nat}{f:Fi}
theorem keptf {B:Nat}{w w':World}{b o:Nat}{x:Bool}(hb:Below B w w') (hlt:b < B) (h:w.frozen? ⟨b,o,none⟩=x):w'.frozen? ⟨b,o,none⟩=x:=(World.frozen?_of_block (a:=⟨b,o,none⟩) (hb.block b hlt)).trans h
def ShV (w:World) (B:Nat) (s:Sh) (v:Value):Prop:=∃ vo,v=.agg #[.int .i64 s.fin,.int .i64 s.value,.int .i64 s.cls,vo,.int .i64 s.used,.int .i64 s.steps]∧w.ownsRow B 2 1 vo s.out.length (s.out.map (.int .i64 ·))
def RunA (w:World) (s:Sh) (c:Int) (e:Ending) (w':World):Prop:=∃ v,e=.returned (.tuple #[v,.int .i64 c])∧ShV w' w.heap.size s v∧Below w.heap.size w w'
theorem begR {W w2:World}{m:Me}{args input:List Int}{fuel:Int}{vc vm vi:Value}{e:Ending}(hno:m.params.any (fun t=>decide (t.kind=3))=false) (h:BegR W f m args input fuel vc vm vi e w2) :
  ∃ (E:Ev) (vl:Value),e=.returned (.tuple #[.pointer (some ⟨E.hb,0,none⟩),vl,.int .i64 0])∧(E.f=f∧E.input=input∧E.fuel=fuel.toNat∧E.B=W.heap.size∧E.vm=vm)∧PH E w2 L0 h0 0∧VS w2 (own E L0) vl (List.zipWith argOf m.params args)∧Below W.heap.size W w2:=by
 unfold BegR at h
 rw [if_neg (by rw [hno];simp)] at h
 obtain ⟨hb,vl,rfl,H,V,hbl⟩:=h
 refine ⟨_,vl,rfl,⟨rfl,rfl,rfl,rfl,rfl⟩,H,V.mono (fun b _ hx=>?_),hbl⟩
 rcases hx with e | e | e | e
 ·exact e
 ·cases e
 ·cases e
 ·exact absurd e (by simp [L0])
theorem fiH0 {input:List Int}{fuel:Nat}:HpOk f.classes input fuel h0:=⟨Nat.zero_le _,(fun o ho=>by cases ho),(fun x hx=>by cases hx),Nat.le_refl _,Nat.zero_le _,Nat.zero_le _⟩
theorem argOf_vt {nc:Int}{t:Ty}{n:Int}(ht:Hier.ty nc t=true) (h3:t.kind≠3) (hn:Ok n):VtOk 0 (argOf t n):=by
 unfold Hier.ty at ht
 unfold argOf
 split at ht
 ·rename_i e
  by_cases e1:t.kind=1
  ·rw [if_pos e1]
   exact ⟨⟨wrap32_ok n,by simp,by simp,by simp⟩,by simp,by simp⟩
  ·rw [if_neg e1]
   refine ⟨⟨hn,?_,?_,?_⟩,?_,?_⟩ <;> simp only <;> omega
 ·exact absurd ht (by simp [h3])
end
end Hpw
namespace Hpr
open Num Rd D Run Mem HierW Hpw
section
variable {E:Ev}{w w' w1 w2:World}{L L' L1:Lay}{h h' h1 h2:Hp}{d:Nat}
set_option maxRecDepth 100000 in
theorem firstP (H:PH E w L h d) (k:Nat) (hk:k < E.f.methods.length) (b0 b1 b2 b3:Nat) (va:Value) (r:Res Vl) (c0:w.cell? ⟨b0,0,none⟩=some (.pointer (some ⟨E.hb,0,none⟩))) (c1:w.cell? ⟨b1,1,none⟩=some E.vm) (c2:w.cell? ⟨b2,0,none⟩=some (.int .i64 k)) (c3:w.cell? ⟨b3,0,none⟩=some va)
  (hC:∀ (W:World) (mv:Value),Below w.heap.size w W→VMe W E.B mv (meAt E.f k)→Calls Try.prog 18 #[.pointer (some ⟨E.hb,0,none⟩),mv,va] W (InvR E L d W r)) :
  Calls Try.prog 17 #[.pointer (some ⟨b0,0,none⟩),.pointer (some ⟨b1,0,none⟩),.pointer (some ⟨b2,0,none⟩),.pointer (some ⟨b3,0,none⟩)] w (InvR E L d w r):=by
 have HH:=Lib.hid H
 have HC:=Lib.hid hC
 obtain ⟨ma,mcap,hvm,q1,q2,hel⟩:=H.mes
 obtain ⟨mb,mo,hma,hmb,vp,vco,vh,m0,m1,m2,m3,m4,m5,m6,m7,mok,hp,hco,hh⟩:=hel k hk
 subst hma
 have em:E.f.methods[k]=meAt E.f k:=by unfold meAt;rw [List.getD_eq_getElem?_getD,List.getElem?_eq_getElem hk];rfl
 rw [em] at m1 m2 m3 m4 m5 mok hp hco hh
 rw [hvm] at c1
 have hEB:E.B≤w.heap.size:=by have:=H.base;omega
 have VM:=Lib.hid (show VMe w E.B (.agg #[vp,.int .i64 (meAt E.f k).ret.kind,.int .i64 (meAt E.f k).ret.cls,.int .i64 (meAt E.f k).stack,.int .i64 (meAt E.f k).locals,.int .i64 (meAt E.f k).regs,vco,vh]) (meAt E.f k) from ⟨_,_,_,rfl,mok,hp,hco,hh⟩)
 obtain ⟨pa,pcap,rfl,_⟩:=id hp
 obtain ⟨ca,ccap,rfl,_⟩:=id hco
 obtain ⟨xa,xcap,rfl,_⟩:=id hh
 have hk':(k:Int) < E.f.methods.length:=by omega
 have l0:=cell_lt c0
 have l1:=cell_lt c1
 have l2:=cell_lt c2
 have l3:=cell_lt c3
 have l4:=cell_lt m0
 clear H hC hp hco hh mok hel hvm
 obtain ⟨me,hme⟩:∃ me,Hid (meAt E.f k=me):=⟨_,Lib.hid rfl⟩
 go_enter Try.func17,Try.ntmps17
 rw [hme.out] at VM HC m0 m1 m2 m3 m4 m5 m6 m7
 clear hme em
 go_wp2_with fail
 generalize hW1:w.alloc (.cells #[.int .i64 0,.int .i64 0] 48)=W1
 replace hW1:=Lib.hid hW1
 have HB1:=Lib.hid (show Below w.heap.size w W1 from by rw [← hW1.out];exact Rd.byB)
 have x0:W1.cell? ⟨w.heap.size,0,none⟩=some (.int .i64 0):=by rw [← hW1.out];go_simp
 have x1:W1.cell? ⟨w.heap.size,1,none⟩=some (.int .i64 0):=by rw [← hW1.out];go_simp
 have f0:W1.frozen? ⟨w.heap.size,0,none⟩=false:=by rw [← hW1.out];go_simp
 have f1:W1.frozen? ⟨w.heap.size,1,none⟩=false:=by rw [← hW1.out];go_simp
 replace c0:=kept HB1.out l0 c0
 replace c1:=kept HB1.out l1 c1
 replace c2:=kept HB1.out l2 c2
 replace c3:=kept HB1.out l3 c3
 replace m0:=kept HB1.out l4 m0
 replace m1:=kept HB1.out l4 m1
 replace m2:=kept HB1.out l4 m2
 replace m3:=kept HB1.out l4 m3
 replace m4:=kept HB1.out l4 m4
 replace m5:=kept HB1.out l4 m5
 replace m6:=kept HB1.out l4 m6
 replace m7:=kept HB1.out l4 m7
 have hw1:=HB1.out.size
 have hlt1:=cell_lt x0
 replace l0:=cell_lt c0
 replace l1:=cell_lt c1
 replace l2:=cell_lt c2
 replace l3:=cell_lt c3
 replace l4:=cell_lt m0
 go_still_tail 7,(by kernel_rfl)
 go_wp2_with fail
 go_at_call 18
 have HB2:=Lib.hid (show Below w.heap.size w W1.drew from HB1.out.trans (by exact Rd.byB))
 refine (HC.out _ _ HB2.out (VM.out.mono (Below.mono HB2.out hEB) (Nat.le_refl _))).mono ?_
 rintro e w5 R
 have nr:¬ own E L w.heap.size:=fun hk=>by have:=(own_lo HH.out hk).2;omega
 cases r with
 | thrown o h2 =>
  obtain ⟨⟨older,hol,rfl⟩,A⟩:=R
  refine And.intro rfl ?_
  exact ⟨⟨older,hol,rfl⟩,A.before HB2.out⟩
 | stop c h2 =>
  obtain ⟨⟨older,hol,rfl⟩,A⟩:=R
  refine And.intro rfl ?_
  exact ⟨⟨older,hol,rfl⟩,A.before HB2.out⟩
 | ok v h2 =>
  obtain ⟨vk,vn⟩:=v
  obtain ⟨rfl,A⟩:=R
  have y0:=A.cell (b:=w.heap.size) (o:=0) (v:=.int .i64 0) (by go_simp) nr
  have y1:=A.cell (b:=w.heap.size) (o:=1) (v:=.int .i64 0) (by go_simp) nr
  have g0:=A.frz (b:=w.heap.size) (o:=0) (x:=false) (by exact hlt1) (by go_simp) nr
  have g1:=A.frz (b:=w.heap.size) (o:=1) (x:=false) (by exact hlt1) (by go_simp) nr
  have hlt:=cell_lt y0
  unfold vl
  replace A:=Lib.hid A
  go_wp2_with fail
  refine bodyPost_ret (v:=.agg #[.int .i64 vk,.int .i64 vn]) (by simp [results,Try.results17,go_sem] <;> go_simp) rfl ?_
  exact ⟨rfl,A.out.res2 HH.out HB2.out (by omega) hlt1 _ _⟩
set_option maxRecDepth 100000 in
theorem runsP (H:PH E w L h 0) (p0 p1 p2 p3:Value) (r:Res Vl) (hcall:Calls Try.prog 17 #[p0,p1,p2,p3] (w.alloc (.cells #[.pointer (some ⟨E.hb,0,none⟩)] 42)) (InvR E L 0 (w.alloc (.cells #[.pointer (some ⟨E.hb,0,none⟩)] 42)) r)) (hth:∀ o h',r=.thrown o h'→o < h'.objs.length) :
  Calls Try.prog 16 #[.pointer (some ⟨E.hb,0,none⟩),.func (.func 17) #[] #[p0,p1,p2,p3]] w (RunsR E L w (shown r)):=by
 have HH:=Lib.hid H
 have HC:=Lib.hid hcall
 have nr:¬ own E L w.heap.size:=fun hk=>by have:=(own_lo H hk).2;omega
 have hmf:∀ (fn:Fn) (first cap:Array Value) (w:World),(Instr.makeFunc fn first cap).run Try.prog w=.ok (.func fn first cap) w:=fun _ _ _ _=>rfl
 clear H hcall
 go_enter_defers Try.func16,Try.ntmps16
 go_wp2_with fail
 refine HC.out.mono ?_
 rintro e w2 R
 cases r with
 | thrown o h2 =>
  obtain ⟨⟨older,hol,rfl⟩,A⟩:=R
  have ho:=hth o h2 rfl
  have b0:=A.cell (b:=w.heap.size) (o:=0) (v:=.pointer (some ⟨E.hb,0,none⟩)) (by go_simp) nr
  obtain ⟨L1,K1,N1,H1⟩:=A.before (w:=w) (by exact Rd.byB)
  have hdw:=drop_all older hol
  go_wp2_with fail
  refine leaves_cons (f:=34) (args:=#[.pointer (some ⟨w.heap.size,0,none⟩)]) (by simp) (by simp [go_sem]) ?_
  refine (runsThrown H1 w.heap.size o ho older b0).mono ?_
  rintro e u' w'' ⟨rfl,rfl,K2,B2⟩
  simp [Leaves,settle,hdw,results,Try.results16,go_sem]
  exact runsR_of K1 H1 K2 B2
 | stop c h2 =>
  obtain ⟨⟨older,hol,rfl⟩,A⟩:=R
  have b0:=A.cell (b:=w.heap.size) (o:=0) (v:=.pointer (some ⟨E.hb,0,none⟩)) (by go_simp) nr
  obtain ⟨L1,K1,N1,H1⟩:=A.before (w:=w) (by exact Rd.byB)
  have hdw:=drop_all older hol
  go_wp2_with fail
  refine leaves_cons (f:=34) (args:=#[.pointer (some ⟨w.heap.size,0,none⟩)]) (by simp) (by simp [go_sem]) ?_
  refine (runsStop H1 w.heap.size c older b0).mono ?_
  rintro e u' w'' ⟨rfl,rfl,K2,B2⟩
  simp [Leaves,settle,hdw,results,Try.results16,go_sem]
  exact runsR_of K1 H1 K2 B2
 | ok v h2 =>
  obtain ⟨vk,vn⟩:=v
  obtain ⟨rfl,A⟩:=R
  have b0:=A.cell (b:=w.heap.size) (o:=0) (v:=.pointer (some ⟨E.hb,0,none⟩)) (by go_simp) nr
  obtain ⟨L1,K1,N1,H1⟩:=A.before (w:=w) (by exact Rd.byB)
  have c2:=(H1.cells 2 (by simp)).1
  have f2:=(H1.cells 2 (by simp)).2
  have c3:=(H1.cells 3 (by simp)).1
  have f3:=(H1.cells 3 (by simp)).2
  simp only [List.getElem_cons_zero,List.getElem_cons_succ] at c2 c3
  have hhb:=H1.hbw
  have hlt:=cell_lt b0
  have nb:w.heap.size≠E.hb:=by have:=HH.out.hbw;omega
  have nb2:=nb.symm
  unfold vl
  have H1h:=Lib.hid H1
  clear H1 A
  by_cases q1:vk=1
  ·subst q1
   go_wp2_with fail
   refine leaves_cons (f:=34) (args:=#[.pointer (some ⟨w.heap.size,0,none⟩)]) (by simp) (by simp [go_sem]) ?_
   refine (runsIdle _ _).mono ?_
   rintro e u' w'' ⟨rfl,rfl,rfl⟩
   simp [Leaves,settle,results,Try.results16,go_sem]
   have hsh:shown (.ok ⟨1,vn⟩ h2)=⟨1,vn,0,h2.out,h2.used,h2.steps⟩:=by simp [shown]
   rw [hsh]
   refine runsR_of K1 H1h.out ((((Kp.refl (fun k=>k=E.hb) w2).setCell (p:=⟨E.hb,2,none⟩) (.inl rfl) _).setCell (p:=⟨E.hb,3,none⟩) (.inl rfl) _).alloc _) ?_
   exact ((H1h.out.cells.set 2 (by simp) (.int .i64 1)).set 3 (by simp) (.int .i64 vn)).alloc _
  by_cases q2:vk=2
  ·subst q2
   go_wp2_with fail
   refine leaves_cons (f:=34) (args:=#[.pointer (some ⟨w.heap.size,0,none⟩)]) (by simp) (by simp [go_sem]) ?_
   refine (runsIdle _ _).mono ?_
   rintro e u' w'' ⟨rfl,rfl,rfl⟩
   simp [Leaves,settle,results,Try.results16,go_sem]
   have hsh:shown (.ok ⟨2,vn⟩ h2)=⟨1,vn,0,h2.out,h2.used,h2.steps⟩:=by simp [shown]
   rw [hsh]
   refine runsR_of K1 H1h.out ((((Kp.refl (fun k=>k=E.hb) w2).setCell (p:=⟨E.hb,2,none⟩) (.inl rfl) _).setCell (p:=⟨E.hb,3,none⟩) (.inl rfl) _).alloc _) ?_
   exact ((H1h.out.cells.set 2 (by simp) (.int .i64 1)).set 3 (by simp) (.int .i64 vn)).alloc _
  ·have q1b:(vk==1)=false:=by simpa using q1
   have q2b:(vk==2)=false:=by simpa using q2
   go_wp2_with fail
   refine leaves_cons (f:=34) (args:=#[.pointer (some ⟨w.heap.size,0,none⟩)]) (by simp) (by simp [go_sem]) ?_
   refine (runsIdle _ _).mono ?_
   rintro e u' w'' ⟨rfl,rfl,rfl⟩
   simp [Leaves,settle,results,Try.results16,go_sem]
   have hsh:shown (.ok ⟨vk,vn⟩ h2)=⟨1,0,0,h2.out,h2.used,h2.steps⟩:=by simp [shown,q1,q2]
   rw [hsh]
   refine runsR_of K1 H1h.out (((Kp.refl (fun k=>k=E.hb) w2).setCell (p:=⟨E.hb,2,none⟩) (.inl rfl) _).alloc _) ?_
   exact (H1h.out.cells.set 2 (by simp) (.int .i64 1)).alloc _
end
end Hpr
namespace FormW
open Num Rd D HierW
theorem sin (n lo hi:Int) (w:World):Calls Try.prog 59 #[.int .i64 n,.int .i64 lo,.int .i64 hi] w fun e w'=>e=.returned (.bool (Form.rng n lo hi))∧w=w':=by
 go_enter Try.func59,Try.ntmps59
 go_wp2
 all_goals go_ret
 all_goals go_tidy
 all_goals refine ⟨ret_bool ?_,rfl⟩
 all_goals simp_all [Form.rng]
 all_goals (intros;omega)
theorem name_world {G:World→Prop}{w:World}(R:World→Prop) (hR:R w) (h:∀ W,R W→G W):G w:=h w hR
def Ts (w:World) (v:Value) (l:List Ty):Prop:=Sl 2 ETy w w.heap.size v l
theorem Ts.next {w w':World}{v:Value}{l:List Ty}(h:Ts w v l) (hb:Below w.heap.size w w'):Ts w' v l:=Sl.mono mTy h hb hb.size
theorem lt_cell {W:World}{b o:Nat}{v:Value}(h:W.cell? ⟨b,o,none⟩=some v):b < W.heap.size:=by
 unfold World.cell? at h
 split at h
 ·rename_i hx
  exact (Array.getElem?_eq_some_iff.1 hx).1
 ·cases h
theorem Ts.one {w:World}{b:Nat}{k c:Int}(h1:w.cell? ⟨b,0,none⟩=some (.int .i64 k)) (h2:w.cell? ⟨b,1,none⟩=some (.int .i64 c)) (o1:Ok k) (o2:Ok c):Ts w (.slice (some ⟨b,0,none⟩) 1 1) [⟨k,c⟩]:=by
 refine ⟨some ⟨b,0,none⟩,1,rfl,by simp,by omega,fun i hi=>?_⟩
 obtain rfl:i=0:=by simpa using hi
 exact ⟨b,0,rfl,lt_cell h1,h1,h2,o1,o2⟩
theorem slots_end {l:List Ty}{k:Nat}(h:¬ k < l.length) (hk:k≤l.length):Form.slots (l.take k)=Form.slots l:=by
 rw [List.take_of_length_le (by omega)]
theorem slots (v:Value) (l:List Ty) (w:World) (h:Ts w v l) (hs:l.length≤1000000000):Calls Try.prog 32 #[v] w fun e w'=>e=.returned (.int .i64 (Form.slots l:Nat))∧Below w.heap.size w w':=by
 obtain ⟨a,cap,rfl,hlc,hcc,hel⟩:=h
 go_enter Try.func32,Try.ntmps32
 go_wp2
 go_loopw [3,8] (fun n i wr=>∃ k:Nat,k≤l.length∧i=.int .i64 k∧n=.int .i64 (Form.slots (l.take k):Nat)∧Below w.heap.size w wr) (fun _ i _=>l.length - (intOf i).toNat)
 case atStart=>exact ⟨0,by omega,rfl,rfl,Below.refl _ _⟩
 case round =>
  obtain ⟨k,hk,rfl,rfl,hbw⟩:=hrel
  have hbs:=hbw.size
  have hle:=Form.slots_le (l.take k)
  have hlt':(l.take k).length≤k:=List.length_take_le _ _
  by_cases hlt:k < l.length
  ·obtain ⟨b,o,rfl,hb,he⟩:=hel k hlt
   have hst:=Lib.hid (Form.slots_take hlt)
   obtain ⟨t,ht⟩:=at_of hlt
   rw [ht.out] at he hst
   obtain ⟨g1,g2,_,_⟩:=he
   have k1:=kept hbw hb g1
   have k2:=kept hbw hb g2
   obtain ⟨kd,c⟩:=t
   simp only at k1 k2
   obtain ⟨S,hS⟩:∃ S,Hid (Form.slots (l.take k)=S):=⟨_,rfl⟩
   rw [hS.out] at hst hle ⊢
   have hS2:(S:Int)≤2000000000:=by omega
   clear hel g1 g2 hlt'
   by_cases q:kd=2
   ·subst q
    go_wp2
    go_roundw
    case rel=>exact ⟨k+1,by omega,by go_num,by rw [hst.out];simp;omega,Rd.byB⟩
    case measure=>simp [intOf];omega
   ·have q':(kd==2)=false:=by simpa using q
    go_wp2
    go_roundw
    case rel=>exact ⟨k+1,by omega,by go_num,by rw [hst.out,if_neg q];simp,Rd.byB⟩
    case measure=>simp [intOf];omega
  ·have hst:=Lib.hid (slots_end hlt hk)
   clear hel
   go_wp2
   go_ret
   exact ⟨ret_int (by rw [hst.out]),hbw⟩
theorem slotsV (v:Value) (l:List Ty) (S:Nat) (w:World) (h:Ts w v l) (hs:l.length≤1000000000) (hS:Form.slots l=S):Calls Try.prog 32 #[v] w fun e w'=>e=.returned (.int .i64 S)∧Below w.heap.size w w':=by
 subst hS;exact slots v l w h hs
theorem slots_one (k c:Int):(Form.slots [⟨k,c⟩]:Int)=Form.wide k:=by
 simp only [Form.slots,Form.wide];split <;> rfl
theorem sinV (n lo hi:Int) (p:Bool) (w:World) (hp:Form.rng n lo hi=p):Calls Try.prog 59 #[.int .i64 n,.int .i64 lo,.int .i64 hi] w fun e w'=>e=.returned (.bool p)∧w=w':=by
 subst hp;exact sin n lo hi w
theorem ty_s1:Try.prog.underlying 52=some (.struct (Try.prog.fieldsOf 52)):=by kernel_rfl
theorem ty_s2:Try.prog.stoodInHeld 52=false:=by kernel_rfl
theorem ty_s3:Try.prog.eqGuardType Try.prog.depth 52=false:=by kernel_rfl
theorem ty_s4 : (Try.prog.fieldsOf 52).toList = [⟨"Kind", 3, 0, false, "", "", 0⟩, ⟨"Class", 3, 1, false, "", "", 8⟩] := by kernel_rfl
theorem run_eql_ty (k c k' c':Int) (w:World):(binOp .eql 52 (.agg #[.int .i64 k,.int .i64 c]) (.agg #[.int .i64 k',.int .i64 c'])).run Try.prog w=.ok (.bool (k==k' && c==c')) w:=by
 rw [run_eql_struct,run_equalIn_agg _ 9999 52 _ _ ty_s1 ty_s2,ty_s4]
 simp [Op.eqFields,Sem.run_bind,go_sem]
 by_cases h1:k=k' <;> by_cases h2:c=c' <;> simp [h1,h2]
theorem run_guard_ty (op:BinOp) (x y:Operand) (xs ys:Array Value) (w:World):(eqGuard op 52 x y (.agg xs) (.agg ys)).run Try.prog w=.ok () w:=run_eqGuard_agg w op 52 x y xs ys ty_s3
end FormW
structure Keep (B b:Nat) (w w':World):Prop where
 os:w'.os=w.os
 tape:w'.tape=w.tape
 output:w'.output=w.output
 size:w.heap.size≤w'.heap.size
 block:∀ k,k < B→k≠b→w'.heap[k]? = w.heap[k]?
namespace Keep
variable {B b:Nat}{w w' w'':World}
theorem refl (B b:Nat) (w:World):Keep B b w w:=⟨rfl,rfl,rfl,Nat.le_refl _,fun _ _ _=>rfl⟩
theorem trans (h:Keep B b w w') (k:Keep B b w' w''):Keep B b w w'' :=
 ⟨k.os.trans h.os,k.tape.trans h.tape,k.output.trans h.output,Nat.le_trans h.size k.size,fun i hi hn=>(k.block i hi hn).trans (h.block i hi hn)⟩
theorem mono {B':Nat}(h:Keep B b w w') (hB:B'≤B):Keep B' b w w':=⟨h.os,h.tape,h.output,h.size,fun k hk hn=>h.block k (Nat.lt_of_lt_of_le hk hB) hn⟩
theorem of_below (h:Below B w w'):Keep B b w w':=⟨h.os,h.tape,h.output,h.size,fun k hk _=>h.block k hk⟩
theorem below (h:Keep B b w w'){B':Nat}(h1:B'≤B) (h2:B'≤b):Below B' w w':=⟨h.os,h.tape,h.output,h.size,fun k hk=>h.block k (by omega) (by omega)⟩
theorem alloc (h:Keep B b w w') (hB:B≤w'.heap.size) (o:Obj):Keep B b w (w'.alloc o):=h.trans (of_below ((Below.refl _ _).alloc hB o))
theorem drew (h:Keep B b w w'):Keep B b w w'.drew:=⟨h.os,h.tape,h.output,h.size,h.block⟩
theorem drewN (h:Keep B b w w') (n:Nat):Keep B b w (w'.drewN n):=⟨h.os,h.tape,h.output,h.size,h.block⟩
theorem setCell (h:Keep B b w w'){p:Addr}(hp:p.block=b∨B≤p.block) (u:Value):Keep B b w (w'.setCell p u) :=
 h.trans ⟨rfl,rfl,rfl,by simp [World.setCell],fun k hk hn=>Below.heap_setCell _ _ _ _ (by rcases hp with hp | hp <;> omega)⟩
theorem cell (h:Keep B b w w'){c o:Nat}{v:Value}(h1:c < B) (h2:c≠b) (hc:w.cell? ⟨c,o,none⟩=some v):w'.cell? ⟨c,o,none⟩=some v :=
 (World.cell?_of_block (a:=⟨c,o,none⟩) (h.block c h1 h2)).trans hc
end Keep
namespace Look
open Num Rd D HierW FormW
def Lk (w:World) (b:Nat) (vc vm vp vcd vh:Value) (m:Me) (ok:Bool):Prop :=
 (w.cell? ⟨b,0,none⟩=some vc∧w.cell? ⟨b,1,none⟩=some vm) ∧
 (w.cell? ⟨b,2,none⟩=some vp∧w.cell? ⟨b,3,none⟩=some (.int .i64 m.ret.kind)∧w.cell? ⟨b,4,none⟩=some (.int .i64 m.ret.cls)∧w.cell? ⟨b,5,none⟩=some (.int .i64 m.stack) ∧
  w.cell? ⟨b,6,none⟩=some (.int .i64 m.locals)∧w.cell? ⟨b,7,none⟩=some (.int .i64 m.regs)∧w.cell? ⟨b,8,none⟩=some vcd∧w.cell? ⟨b,9,none⟩=some vh) ∧
 w.cell? ⟨b,10,none⟩=some (.bool ok)∧w.frozen? ⟨b,10,none⟩=false
theorem Lk.lt {w:World}{b:Nat}{vc vm vp vcd vh:Value}{m:Me}{ok:Bool}(h:Lk w b vc vm vp vcd vh m ok):b < w.heap.size:=lt_cell h.1.1
theorem Lk.next {w w':World}{b:Nat}{vc vm vp vcd vh:Value}{m:Me}{ok:Bool}(h:Lk w b vc vm vp vcd vh m ok){B:Nat}(hb:Below B w w') (hlt:b < B):Lk w' b vc vm vp vcd vh m ok:=by
 obtain ⟨⟨h0,h1⟩,⟨h2,h3,h4,h5,h6,h7,h8,h9⟩,h10,hf⟩:=h
 exact ⟨⟨kept hb hlt h0,kept hb hlt h1⟩,⟨kept hb hlt h2,kept hb hlt h3,kept hb hlt h4,kept hb hlt h5,kept hb hlt h6,kept hb hlt h7,kept hb hlt h8,kept hb hlt h9⟩,kept hb hlt h10,(hb.frozen (p:=⟨b,10,none⟩) hlt).trans hf⟩
theorem Lk.set {w:World}{b:Nat}{vc vm vp vcd vh:Value}{m:Me}{ok:Bool}(p:Bool) (h:Lk w b vc vm vp vcd vh m ok):Lk (w.setCell ⟨b,10,none⟩ (.bool p)) b vc vm vp vcd vh m p:=by
 obtain ⟨⟨h0,h1⟩,⟨h2,h3,h4,h5,h6,h7,h8,h9⟩,h10,hf⟩:=h
 refine ⟨⟨?_,?_⟩,⟨?_,?_,?_,?_,?_,?_,?_,?_⟩,?_,?_⟩
 all_goals go_simp
theorem lin (n lo hi:Int) (w:World):Calls Try.prog 30 #[.int .i64 n,.int .i64 lo,.int .i64 hi] w fun e w'=>e=.returned (.bool (Form.rng n lo hi))∧w=w':=by
 go_enter Try.func30,Try.ntmps30
 go_wp2
 all_goals go_ret
 all_goals go_tidy
 all_goals refine ⟨ret_bool ?_,rfl⟩
 all_goals simp_all [Form.rng]
 all_goals (intros;omega)
theorem linV (n lo hi:Int) (p:Bool) (w:World) (hp:Form.rng n lo hi=p):Calls Try.prog 30 #[.int .i64 n,.int .i64 lo,.int .i64 hi] w fun e w'=>e=.returned (.bool p)∧w=w':=by
 subst hp;exact lin n lo hi w
def After (w:World) (b:Nat) (vc vm vp vcd vh:Value) (m:Me) (ok:Bool) (w':World):Prop:=Lk w' b vc vm vp vcd vh m ok∧Keep w.heap.size b w w'
theorem must (b n:Nat) (p ok:Bool) (vc vm vp vcd vh:Value) (m:Me) (w:World) (h:Lk w b vc vm vp vcd vh m ok) (hp:w.cell? ⟨n,0,none⟩=some (.bool p)) :
  Calls Try.prog 60 #[.pointer (some ⟨b,0,none⟩),.slice (some ⟨n,0,none⟩) 1 1] w fun e w'=>e=.returned (.tuple #[])∧After w b vc vm vp vcd vh m (ok && p) w':=by
 have hlt:=h.lt
 have H:=Lib.hid h
 obtain ⟨_,_,h10,hf⟩:=h
 go_enter Try.func60,Try.ntmps60
 go_wp2
 go_loopw [8] (fun i wr=>(i=.int .i64 0∧wr=w)∨(i=.int .i64 1∧wr=w.setCell ⟨b,10,none⟩ (.bool (ok && p)))) (fun i _=>1 - (intOf i).toNat)
 case atStart=>exact .inl ⟨rfl,rfl⟩
 case round =>
  rcases hrel with ⟨rfl,rfl⟩ | ⟨rfl,rfl⟩
  ·cases ok
   ·go_wp2
    go_roundw
    case rel=>exact .inr ⟨rfl,by simp⟩
    case measure=>simp [intOf]
   ·go_wp2
    go_roundw
    case rel=>exact .inr ⟨rfl,by simp⟩
    case measure=>simp [intOf]
  ·go_wp2
   go_end0
   exact ⟨rfl,H.out.set _,(Keep.refl w.heap.size b w).setCell (p:=⟨b,10,none⟩) (.inl rfl) _⟩
theorem nought (b:Nat) (v:Value) (l:List Int) (ok:Bool) (vc vm vp vcd vh:Value) (m:Me) (w:World) (h:Lk w b vc vm vp vcd vh m ok)
  (hl:l.length≤8) (hv:∃ n cap,v=.slice (some ⟨n,0,none⟩) l.length cap∧n≠b∧l.length≤cap∧cap≤8∧∀ i (h:i < l.length),w.cell? ⟨n,i,none⟩=some (.int .i64 l[i])) :
  Calls Try.prog 62 #[.pointer (some ⟨b,0,none⟩),v] w fun e w'=>e=.returned (.tuple #[])∧After w b vc vm vp vcd vh m (ok && l.all fun n=>decide (n=0)) w':=by
 obtain ⟨n,cap,rfl,hne,hlc,hc8,hel⟩:=hv
 have hlt:=h.lt
 have H:=Lib.hid h
 clear h
 go_enter Try.func62,Try.ntmps62
 go_wp2
 go_loopw [8] (fun i wr=>∃ k:Nat,k≤l.length∧i=.int .i64 k∧Hid (Lk wr b vc vm vp vcd vh m (ok && (l.take k).all fun n=>decide (n=0)))∧Keep w.heap.size b w wr) (fun i _=>l.length - (intOf i).toNat)
 case atStart=>exact ⟨0,by omega,rfl,by show Lk _ _ _ _ _ _ _ _ _;simpa using H.out,Keep.refl _ _ _⟩
 case round =>
  obtain ⟨k,hk,rfl,hlk,hkp⟩:=hrel
  have hks:=hkp.size
  by_cases hlk2:k < l.length
  ·have g:=hel k hlk2
   have hnlt:=lt_cell g
   have g1:=hkp.cell hnlt hne g
   obtain ⟨x,hx⟩:=at_of hlk2
   rw [hx.out] at g1
   have hst:Hid ((l.take (k+1)).all (fun n=>decide (n=0))=((l.take k).all (fun n=>decide (n=0)) && decide (x=0))):=by
    show _=_
    rw [List.take_succ_eq_append_getElem hlk2,List.all_append,hx.out];simp
   obtain ⟨q,hq⟩:∃ q,Hid ((ok && (l.take k).all fun n=>decide (n=0))=q):=⟨_,rfl⟩
   rw [hq.out] at hlk
   clear g hel
   have hI:(k:Int) < l.length:=by omega
   go_wp2_with fail
   refine (must b _ (x==0) q vc vm vp vcd vh m _ (hlk.out.next (Below.alloc (Below.refl _ _) (Nat.le_refl _) _) hlk.out.lt) (by go_simp)).mono ?_
   rintro e w1 ⟨rfl,hA,hK⟩
   have hA2:=Lib.hid hA
   clear hA
   go_wp2_with fail
   go_roundw
   case rel =>
    refine ⟨k+1,by omega,by go_num,?_,hkp.trans ((Keep.alloc (Keep.refl _ _ _) (Nat.le_refl _) _).trans (hK.mono (by simp)) |>.mono hks)⟩
    rw [hst.out,← Bool.and_assoc,hq.out,show decide (x=0)=(x==0) by rfl]
    exact hA2.out
   case measure=>simp [intOf];omega
  ·have hge:¬ (k:Int) < l.length:=by omega
   have hst:=Lib.hid (List.take_of_length_le (l:=l) (i:=k) (by omega))
   clear hel
   go_wp2_with fail
   go_end0
   rw [hst.out] at hlk
   exact ⟨rfl,hlk.out,hkp⟩
theorem reg_wide (regs n kd:Int) (S:Nat) (h:Form.slots [⟨kd,0⟩]=S):Form.rng n 0 (regs+1 - S)=Rform.reg regs n kd:=by
 unfold Rform.reg;rw [← h,slots_one]
set_option maxRecDepth 100000 in
theorem reg (b:Nat) (kd:Int) (v:Value) (l:List Int) (ok:Bool) (vc vm vp vcd vh:Value) (m:Me) (w:World) (h:Lk w b vc vm vp vcd vh m ok) (hkd:Ok kd) (hr:0≤m.regs∧m.regs≤90)
  (hl:l.length≤8) (hv:∃ n cap,v=.slice (some ⟨n,0,none⟩) l.length cap∧n≠b∧l.length≤cap∧cap≤8∧∀ i (h:i < l.length),w.cell? ⟨n,i,none⟩=some (.int .i64 l[i])) :
  Calls Try.prog 61 #[.pointer (some ⟨b,0,none⟩),.int .i64 kd,v] w fun e w'=>e=.returned (.tuple #[])∧After w b vc vm vp vcd vh m (ok && l.all fun n=>Rform.reg m.regs n kd) w':=by
 obtain ⟨n,cap,rfl,hne,hlc,hc8,hel⟩:=hv
 obtain ⟨hr1,hr2⟩:=hr
 have hlt:=h.lt
 have H:=Lib.hid h
 clear h
 obtain ⟨S,hS⟩:∃ S,Hid (Form.slots [⟨kd,0⟩]=S):=⟨_,rfl⟩
 have hS2:(S:Int)≤2:=by have:=hS.out;have h:=slots_one kd 0;rw [← this,h];unfold Form.wide;split <;> omega
 go_enter Try.func61,Try.ntmps61
 go_wp2
 go_loopw [10] (fun i wr=>∃ k:Nat,k≤l.length∧i=.int .i64 k∧Hid (Lk wr b vc vm vp vcd vh m (ok && (l.take k).all fun n=>Rform.reg m.regs n kd))∧Keep w.heap.size b w wr) (fun i _=>l.length - (intOf i).toNat)
 case atStart=>exact ⟨0,by omega,rfl,by show Lk _ _ _ _ _ _ _ _ _;simpa using H.out,Keep.refl _ _ _⟩
 case round =>
  obtain ⟨k,hk,rfl,hlk,hkp⟩:=hrel
  have hks:=hkp.size
  by_cases hlk2:k < l.length
  ·have g:=hel k hlk2
   have hnlt:=lt_cell g
   have g1:=hkp.cell hnlt hne g
   obtain ⟨x,hx⟩:=at_of hlk2
   rw [hx.out] at g1
   have hst:Hid ((l.take (k+1)).all (fun n=>Rform.reg m.regs n kd)=((l.take k).all (fun n=>Rform.reg m.regs n kd) && Rform.reg m.regs x kd)):=by
    show _=_
    rw [List.take_succ_eq_append_getElem hlk2,List.all_append,hx.out];simp
   obtain ⟨q,hq⟩:∃ q,Hid ((ok && (l.take k).all fun n=>Rform.reg m.regs n kd)=q):=⟨_,rfl⟩
   rw [hq.out] at hlk
   clear g hel
   have hI:(k:Int) < l.length:=by omega
   have z7:=hlk.out.2.1.2.2.2.2.2.1
   have hblt:=hlk.out.lt
   have e1:IntKind.i64.wrap (m.regs+1)=m.regs+1:=by rw [Num.wrap_i64,wrap64_id ⟨by omega,by omega⟩]
   have e2:IntKind.i64.wrap (m.regs+1 - (S:Int))=m.regs+1 - (S:Int):=by rw [Num.wrap_i64,wrap64_id ⟨by omega,by omega⟩]
   have E1:=Lib.hid e1
   have E2:=Lib.hid e2
   clear e1 e2
   go_wp2_with fail
   have e1:=E1.out
   have e2:=E2.out
   clear E1 E2
   refine Drawn.hd (fun w'=>w'.cell? ⟨b,7,none⟩=some (.int .i64 m.regs)) (hS:=by (try dsimp only);first | exact z7 | go_keep) (h:=fun hHeld=>?_)
   refine Drawn.T 0 (some 14) (h:=?_)
   refine Drawn.T 1 (some 15) (h:=?_)
   refine Drawn.T 2 (some 16) (h:=?_)
   refine Drawn.T 3 (some 17) (h:=?_)
   refine Drawn.T 4 (some 18) (h:=?_)
   refine Drawn.T 5 (some 19) (h:=?_)
   refine Drawn.T 6 (some 20) (h:=?_)
   refine Drawn.T 7 (some 21) (h:=?_)
   refine Drawn.T 8 (some 22) (h:=?_)
   refine Drawn.T 9 (some 23) (h:=?_)
   refine Drawn.cl 10 (fun K hK=>?_)
   go_simp
   refine Drawn.bk hK (h:=fun hHeld=>?_)
   clear hK K
   refine Drawn.cl 11 (fun K hK=>?_)
   go_simp
   go_at_call 32
   refine (slotsV _ [⟨kd,0⟩] S _ (Ts.one (by go_simp) (by go_simp) hkd (by unfold Ok;omega)) (by simp) hS.out).mono ?_
   rintro e w2 ⟨rfl,hb2⟩
   have hb3:Below wr.heap.size wr w2:=Below.trans Rd.byB (hb2.mono (by simp))
   have hlk3:=Lib.hid (hlk.out.next hb3 hlk.out.lt)
   have hblt2:=hlk3.out.lt
   go_wp2_with fail
   refine Drawn.bk hK (hS:=by (try dsimp only);exact hlk3.out.2.1.2.2.2.2.2.1) (h:=fun hHeld=>?_)
   clear hK K
   refine Drawn.T 12 (some 26) (h:=?_)
   refine Drawn.cl 13 (fun K hK=>?_)
   go_simp
   go_at_call 30
   refine (lin _ _ _ _).mono ?_
   rintro e w4 ⟨rfl,rfl⟩
   go_wp2_with fail
   refine Drawn.bk hK (hS:=by (try dsimp only);exact hlk3.out.2.1.2.2.2.2.2.1) (h:=fun hHeld=>?_)
   clear hK K
   refine Drawn.cl 14 (fun K hK=>?_)
   go_simp
   refine Drawn.bk hK (h:=fun hHeld=>?_)
   clear hK K
   refine Drawn.cl 15 (fun K hK=>?_)
   go_simp
   refine (must b _ (Form.rng x 0 (m.regs+1 - S)) q vc vm vp vcd vh m _ (hlk3.out.next (Below.alloc (Below.refl _ _) (Nat.le_refl _) _) hlk3.out.lt) (by go_simp)).mono ?_
   rintro e w5 ⟨rfl,hA,hK5⟩
   have hA2:=Lib.hid hA
   clear hA
   go_wp2_with fail
   refine Drawn.bk hK (hS:=by (try dsimp only);exact hA2.out.2.1.2.2.2.2.2.1) (h:=fun hHeld=>?_)
   clear hK K
   refine wpAnyH_done (by kernel_rfl) ?_ _
   clear e1 e2
   go_wp2_with fail
   go_roundw
   case rel =>
    refine ⟨k+1,by omega,by go_num,?_,hkp.trans ((Keep.of_below hb3).trans ((Keep.alloc (Keep.refl _ _ _) (Nat.le_refl _) _).trans (hK5.mono (by simp)) |>.mono hb3.size) |>.mono hks)⟩
    rw [hst.out,← Bool.and_assoc,hq.out,← reg_wide m.regs x kd S hS.out]
    exact hA2.out
   case measure=>simp [intOf];omega
  ·have hge:¬ (k:Int) < l.length:=by omega
   have hst:=Lib.hid (List.take_of_length_le (l:=l) (i:=k) (by omega))
   clear hel
   go_wp2_with fail
   go_end0
   rw [hst.out] at hlk
   exact ⟨rfl,hlk.out,hkp⟩
theorem code_of {w:World}{b:Nat}{vc vm vp vcd vh:Value}{m:Me}{ok:Bool}(h:Lk w b vc vm vp vcd vh m ok):w.cell? ⟨b,8,none⟩=some vcd:=h.2.1.2.2.2.2.2.2.1
theorem at' (b:Nat) (n:Int) (ok:Bool) (vc vm vp vh:Value) (da:Option Addr) (dn dcap:Nat) (m:Me) (w:World) (h:Lk w b vc vm vp (.slice da dn dcap) vh m ok) (hd:dn≤dcap) (hd2:dcap≤9223372036854775807) :
  Calls Try.prog 63 #[.pointer (some ⟨b,0,none⟩),.int .i64 n] w fun e w'=>e=.returned (.tuple #[])∧After w b vc vm vp (.slice da dn dcap) vh m (ok && Form.rng n 0 dn) w':=by
 have hlt:=h.lt
 have H:=Lib.hid h
 have z8:=code_of h
 clear h
 go_enter Try.func63,Try.ntmps63
 go_wp2_with (go_at_call 30;refine (lin _ _ _ _).mono ?_;rintro e w1 ⟨rfl,rfl⟩)
 refine (must b _ (Form.rng n 0 dn) ok vc vm vp (.slice da dn dcap) vh m _ (H.out.next (Below.alloc (Below.refl _ _) (Nat.le_refl _) _) H.out.lt) (by go_simp)).mono ?_
 rintro e w5 ⟨rfl,hA,hK5⟩
 have hA2:=Lib.hid hA
 clear hA
 go_wp2_with fail
 go_end0
 exact ⟨rfl,hA2.out,(Keep.alloc (Keep.refl _ _ _) (Nat.le_refl _) _).trans (hK5.mono (by simp))⟩
theorem cls (b:Nat) (n:Int) (ok:Bool) (vm vp vcd vh:Value) (ca:Option Addr) (cn ccap:Nat) (m:Me) (w:World) (h:Lk w b (.slice ca cn ccap) vm vp vcd vh m ok) (hd:cn≤ccap) (hd2:ccap≤9223372036854775807) :
  Calls Try.prog 100 #[.pointer (some ⟨b,0,none⟩),.int .i64 n] w fun e w'=>e=.returned (.tuple #[])∧After w b (.slice ca cn ccap) vm vp vcd vh m (ok && Form.rng n 0 cn) w':=by
 have hlt:=h.lt
 have H:=Lib.hid h
 have z8:=h.1.1
 clear h
 go_enter Try.func100,Try.ntmps100
 go_wp2_with (go_at_call 30;refine (lin _ _ _ _).mono ?_;rintro e w1 ⟨rfl,rfl⟩)
 refine (must b _ (Form.rng n 0 cn) ok (.slice ca cn ccap) vm vp vcd vh m _ (H.out.next (Below.alloc (Below.refl _ _) (Nat.le_refl _) _) H.out.lt) (by go_simp)).mono ?_
 rintro e w5 ⟨rfl,hA,hK5⟩
 have hA2:=Lib.hid hA
 clear hA
 go_wp2_with fail
 go_end0
 exact ⟨rfl,hA2.out,(Keep.alloc (Keep.refl _ _ _) (Nat.le_refl _) _).trans (hK5.mono (by simp))⟩
end Look
namespace Look
open Num Rd D HierW FormW
variable {w:World}{lb:Nat}{vc vm vp vcd vh:Value}{m:Me}{ok:Bool}
theorem After.before {o:Obj}{q:Bool}{w':World}(h:After (w.alloc o) lb vc vm vp vcd vh m q w'):After w lb vc vm vp vcd vh m q w' :=
 ⟨h.1,(Keep.alloc (Keep.refl _ _ _) (Nat.le_refl _) _).trans (h.2.mono (by simp))⟩
theorem mustA {p:Bool}{T:TypeId}{nb:Nat}(hn:nb=w.heap.size) (h:Lk w lb vc vm vp vcd vh m ok):Calls Try.prog 60 #[.pointer (some ⟨lb,0,none⟩),.slice (some ⟨nb,0,none⟩) 1 1] (w.alloc (.cells #[.bool p] T))
  fun e w'=>e=.returned (.tuple #[])∧After w lb vc vm vp vcd vh m (ok && p) w':=by
 subst hn
 exact (must lb w.heap.size p ok vc vm vp vcd vh m _ (h.next (Below.alloc (Below.refl _ _) (Nat.le_refl _) _) h.lt) (by go_simp)).mono fun e w' ⟨h1,h2⟩=>⟨h1,h2.before⟩
theorem box1 {x:Int}{T:TypeId}{L:List Int}(hL:L=[x]) (hlt:lb < w.heap.size):∃ n cap,Value.slice (some ⟨w.heap.size,0,none⟩) 1 1=.slice (some ⟨n,0,none⟩) L.length cap∧n≠lb∧L.length≤cap∧cap≤8∧∀ i (h:i < L.length),(w.alloc (.cells #[.int .i64 x] T)).cell? ⟨n,i,none⟩=some (.int .i64 L[i]):=by
 subst hL
 refine ⟨w.heap.size,1,rfl,by omega,by simp,by omega,fun i h=>?_⟩
 obtain rfl:i=0:=by simpa using h
 go_simp
theorem box2 {x y:Int}{T:TypeId}{L:List Int}(hL:L=[x,y]) (hlt:lb < w.heap.size):∃ n cap,Value.slice (some ⟨w.heap.size,0,none⟩) 2 2=.slice (some ⟨n,0,none⟩) L.length cap∧n≠lb∧L.length≤cap∧cap≤8∧∀ i (h:i < L.length),(w.alloc (.cells #[.int .i64 x,.int .i64 y] T)).cell? ⟨n,i,none⟩=some (.int .i64 L[i]):=by
 subst hL
 refine ⟨w.heap.size,2,rfl,by omega,by simp,by omega,fun i h=>?_⟩
 have h2:i=0∨i=1:=by simp at h;omega
 rcases h2 with rfl | rfl <;> go_simp
theorem box3 {x y z:Int}{T:TypeId}{L:List Int}(hL:L=[x,y,z]) (hlt:lb < w.heap.size):∃ n cap,Value.slice (some ⟨w.heap.size,0,none⟩) 3 3=.slice (some ⟨n,0,none⟩) L.length cap∧n≠lb∧L.length≤cap∧cap≤8∧∀ i (h:i < L.length),(w.alloc (.cells #[.int .i64 x,.int .i64 y,.int .i64 z] T)).cell? ⟨n,i,none⟩=some (.int .i64 L[i]):=by
 subst hL
 refine ⟨w.heap.size,3,rfl,by omega,by simp,by omega,fun i h=>?_⟩
 have h2:i=0∨i=1∨i=2:=by simp at h;omega
 rcases h2 with rfl | rfl | rfl <;> go_simp
theorem nought1A {x:Int}{T:TypeId}{nb:Nat}(hn:nb=w.heap.size) (h:Lk w lb vc vm vp vcd vh m ok):Calls Try.prog 62 #[.pointer (some ⟨lb,0,none⟩),.slice (some ⟨nb,0,none⟩) 1 1] (w.alloc (.cells #[.int .i64 x] T))
  fun e w'=>e=.returned (.tuple #[])∧After w lb vc vm vp vcd vh m (ok && decide (x=0)) w':=by
 subst hn
 exact (nought lb _ [x] ok vc vm vp vcd vh m _ (h.next (Below.alloc (Below.refl _ _) (Nat.le_refl _) _) h.lt) (by simp) (box1 rfl h.lt)).mono fun e w' ⟨h1,h2⟩=>⟨h1,by simpa using h2.before⟩
theorem nought2A {x y:Int}{T:TypeId}{nb:Nat}(hn:nb=w.heap.size) (h:Lk w lb vc vm vp vcd vh m ok):Calls Try.prog 62 #[.pointer (some ⟨lb,0,none⟩),.slice (some ⟨nb,0,none⟩) 2 2] (w.alloc (.cells #[.int .i64 x,.int .i64 y] T))
  fun e w'=>e=.returned (.tuple #[])∧After w lb vc vm vp vcd vh m (ok && (decide (x=0) && decide (y=0))) w':=by
 subst hn
 exact (nought lb _ [x,y] ok vc vm vp vcd vh m _ (h.next (Below.alloc (Below.refl _ _) (Nat.le_refl _) _) h.lt) (by simp) (box2 rfl h.lt)).mono fun e w' ⟨h1,h2⟩=>⟨h1,by simpa using h2.before⟩
theorem reg1A {kd x:Int}{T:TypeId}{nb:Nat}(hn:nb=w.heap.size) (h:Lk w lb vc vm vp vcd vh m ok) (hkd:Ok kd) (hr:0≤m.regs∧m.regs≤90):Calls Try.prog 61 #[.pointer (some ⟨lb,0,none⟩),.int .i64 kd,.slice (some ⟨nb,0,none⟩) 1 1] (w.alloc (.cells #[.int .i64 x] T))
  fun e w'=>e=.returned (.tuple #[])∧After w lb vc vm vp vcd vh m (ok && Rform.reg m.regs x kd) w':=by
 subst hn
 exact (reg lb kd _ [x] ok vc vm vp vcd vh m _ (h.next (Below.alloc (Below.refl _ _) (Nat.le_refl _) _) h.lt) hkd hr (by simp) (box1 rfl h.lt)).mono fun e w' ⟨h1,h2⟩=>⟨h1,by simpa using h2.before⟩
theorem reg2A {kd x y:Int}{T:TypeId}{nb:Nat}(hn:nb=w.heap.size) (h:Lk w lb vc vm vp vcd vh m ok) (hkd:Ok kd) (hr:0≤m.regs∧m.regs≤90):Calls Try.prog 61 #[.pointer (some ⟨lb,0,none⟩),.int .i64 kd,.slice (some ⟨nb,0,none⟩) 2 2] (w.alloc (.cells #[.int .i64 x,.int .i64 y] T))
  fun e w'=>e=.returned (.tuple #[])∧After w lb vc vm vp vcd vh m (ok && (Rform.reg m.regs x kd && Rform.reg m.regs y kd)) w':=by
 subst hn
 exact (reg lb kd _ [x,y] ok vc vm vp vcd vh m _ (h.next (Below.alloc (Below.refl _ _) (Nat.le_refl _) _) h.lt) hkd hr (by simp) (box2 rfl h.lt)).mono fun e w' ⟨h1,h2⟩=>⟨h1,by simpa using h2.before⟩
theorem reg3A {kd x y z:Int}{T:TypeId}{nb:Nat}(hn:nb=w.heap.size) (h:Lk w lb vc vm vp vcd vh m ok) (hkd:Ok kd) (hr:0≤m.regs∧m.regs≤90):Calls Try.prog 61 #[.pointer (some ⟨lb,0,none⟩),.int .i64 kd,.slice (some ⟨nb,0,none⟩) 3 3] (w.alloc (.cells #[.int .i64 x,.int .i64 y,.int .i64 z] T))
  fun e w'=>e=.returned (.tuple #[])∧After w lb vc vm vp vcd vh m (ok && (Rform.reg m.regs x kd && (Rform.reg m.regs y kd && Rform.reg m.regs z kd))) w':=by
 subst hn
 exact (reg lb kd _ [x,y,z] ok vc vm vp vcd vh m _ (h.next (Below.alloc (Below.refl _ _) (Nat.le_refl _) _) h.lt) hkd hr (by simp) (box3 rfl h.lt)).mono fun e w' ⟨h1,h2⟩=>⟨h1,by simpa using h2.before⟩
theorem atA {n:Int}{da:Option Addr}{dn dcap:Nat}(h:Lk w lb vc vm vp (.slice da dn dcap) vh m ok) (hd:dn≤dcap) (hd2:dcap≤9223372036854775807):Calls Try.prog 63 #[.pointer (some ⟨lb,0,none⟩),.int .i64 n] w
  fun e w'=>e=.returned (.tuple #[])∧After w lb vc vm vp (.slice da dn dcap) vh m (ok && Form.rng n 0 dn) w':=at' lb n ok vc vm vp vh da dn dcap m w h hd hd2
theorem clsA {n:Int}{ca:Option Addr}{cn ccap:Nat}(h:Lk w lb (.slice ca cn ccap) vm vp vcd vh m ok) (hd:cn≤ccap) (hd2:ccap≤9223372036854775807):Calls Try.prog 100 #[.pointer (some ⟨lb,0,none⟩),.int .i64 n] w
  fun e w'=>e=.returned (.tuple #[])∧After w lb (.slice ca cn ccap) vm vp vcd vh m (ok && Form.rng n 0 cn) w':=cls lb n ok vm vp vcd vh ca cn ccap m w h hd hd2
theorem After.behind {q:Bool}{w':World}(h:After w.drew lb vc vm vp vcd vh m q w'):After w lb vc vm vp vcd vh m q w':=⟨h.1,(Keep.drew (Keep.refl w.heap.size lb w)).trans h.2⟩
theorem reg1D {kd x:Int}{T:TypeId}{nb:Nat}(hn:nb=w.heap.size) (h:Lk w lb vc vm vp vcd vh m ok) (hkd:Ok kd) (hr:0≤m.regs∧m.regs≤90):Calls Try.prog 61 #[.pointer (some ⟨lb,0,none⟩),.int .i64 kd,.slice (some ⟨nb,0,none⟩) 1 1] (w.alloc (.cells #[.int .i64 x] T)).drew
  fun e w'=>e=.returned (.tuple #[])∧After w lb vc vm vp vcd vh m (ok && Rform.reg m.regs x kd) w':=by
 have h2:=reg1A (w:=w.drew) (x:=x) (T:=T) hn (h.next (Below.drew (Below.refl _ _)) h.lt) hkd hr
 exact h2.mono fun e w' ⟨h1,h3⟩=>⟨h1,h3.behind⟩
theorem mustD {p:Bool}{T:TypeId}{nb:Nat}(hn:nb=w.heap.size) (h:Lk w lb vc vm vp vcd vh m ok):Calls Try.prog 60 #[.pointer (some ⟨lb,0,none⟩),.slice (some ⟨nb,0,none⟩) 1 1] (w.alloc (.cells #[.bool p] T)).drew
  fun e w'=>e=.returned (.tuple #[])∧After w lb vc vm vp vcd vh m (ok && p) w':=by
 have h2:=mustA (w:=w.drew) (p:=p) (T:=T) hn (h.next (Below.drew (Below.refl _ _)) h.lt)
 exact h2.mono fun e w' ⟨h1,h3⟩=>⟨h1,h3.behind⟩
end Look
end Go.Proofs.Ytncmhenfgbcihac
