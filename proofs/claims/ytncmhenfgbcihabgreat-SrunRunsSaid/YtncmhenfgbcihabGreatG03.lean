/- Parts of the proof: RhP, RhG, RhI, RhJ, RhR, Rw0, Vs, RhK, RhS, Rc, Stk. -/
import Derived.Test.YtncmhenfgbcihabGreatG02
import Derived.Test.YtncmhenfgbcihabGreatG01
set_option linter.unusedSimpArgs false
set_option linter.unusedVariables false
set_option maxHeartbeats 8000000
namespace Go.Proofs.YtncmhenfgbcihabGreat
open Go.RowKit
namespace Rhw
open Num Rd D Run Mem HierW Hpw
section
variable {E:Ev}{w w':World}{L L':RL}{h h':Hp}{d:Nat}{s:Sv}
set_option maxRecDepth 100000 in
theorem putType (H:RH E w L h d Sv.run) (hm:Hier.may E.f.classes=true) (r v:Vl) (c k:Nat) (hv:v.kind=3→v.n < h.objs.length) (hc:c < E.f.classes.length) (hk:k < (Hier.at' E.f.classes c).fields.length) (ht:ofT E.f.classes h v (ftype E.f.classes c k)=false) :
  Calls Tryz.prog 119 #[.pointer (some ⟨E.hb,0,none⟩),.agg #[.int .i64 r.kind,.int .i64 r.n],.int .i64 c,.int .i64 k,.agg #[.int .i64 v.kind,.int .i64 v.n]] w (Keeps E L h d (Sv.ends 6) w (.tuple #[])):=by
 have HH:=Lib.hid H
 have hhb:=H.rows.base.2
 have hp:=Lib.hid ht
 have b0:=H.c0
 obtain ⟨ca,ccap,hvc,c1,c2,hel⟩:=id H.rows.cls
 obtain ⟨cb,co,rfl,hcb,he⟩:=hel c hc
 obtain ⟨x,hx⟩:=at_of hc
 rw [hx.out] at he
 obtain ⟨_,_,fv,e2,hf⟩:=he
 have hfx:Hier.at' E.f.classes c=x:=at'_of hc hx.out
 rw [hfx] at hk
 obtain ⟨fa,fcap,rfl,c3,c4,hfe⟩:=hf
 obtain ⟨fb,fo,rfl,hfb,hfe2⟩:=hfe k hk
 obtain ⟨t,htt⟩:=at_of hk
 rw [htt.out] at hfe2
 obtain ⟨t1,t2,_,_⟩:=hfe2
 have hft:Hid (ftype E.f.classes c k=t):=by
  show _=_
  unfold ftype
  rw [Int.toNat_natCast,Int.toNat_natCast,hfx,List.getD_eq_getElem?_getD,List.getElem?_eq_getElem hk,htt.out];rfl
 rw [hft.out] at hp
 rw [hvc] at b0
 have hci:(c:Int) < E.f.classes.length:=by omega
 have hki:(k:Int) < x.fields.length:=by omega
 have hbs:E.B≤w.heap.size:=by have:=H.rows.base;omega
 have lcb:cb < w.heap.size:=by omega
 have lfb:fb < w.heap.size:=by omega
 have hcb2:cb≠E.hb:=by have:=H.rows.base.1;omega
 have hfb2:fb≠E.hb:=by have:=H.rows.base.1;omega
 clear H ht hvc hel hfx hfe
 go_enter Tryz.func119,Tryz.ntmps119
 go_wp2
 refine Drawn.hd (fun w'=>w'.cell? ⟨E.hb,0,none⟩=some (.slice (some ⟨cb,co,none⟩) E.f.classes.length ccap)∧w'.cell? ⟨cb,co+c*2+1,none⟩=some (.slice (some ⟨fb,fo,none⟩) x.fields.length fcap)∧w'.cell? ⟨fb,fo+k*2,none⟩=some (.int .i64 t.kind)∧w'.cell? ⟨fb,fo+k*2+1,none⟩=some (.int .i64 t.cls)∧w'.cell? ⟨w.heap.size+1,0,none⟩=some (.int .i64 v.kind)∧w'.cell? ⟨w.heap.size+1,1,none⟩=some (.int .i64 v.n)) (h:=fun hHeld=>?_)
 refine Drawn.T 0 (some 11) (h:=?_)
 refine Drawn.T 1 (some 12) (h:=?_)
 refine Drawn.T 2 (some 13) (h:=?_)
 refine Drawn.T 3 (some 14) (h:=?_)
 refine Drawn.T 4 (some 15) (h:=?_)
 refine Drawn.T 5 (some 16) (h:=?_)
 refine Drawn.T 6 (some 17) (h:=?_)
 refine Drawn.T 7 (some 18) (h:=?_)
 refine Drawn.T 8 (some 19) (h:=?_)
 refine Drawn.T 9 (some 20) (h:=?_)
 refine Drawn.T 10 (some 21) (h:=?_)
 refine Drawn.T 11 (some 22) (h:=?_)
 refine Drawn.T 12 (some 23) (h:=?_)
 refine Drawn.T 13 (some 24) (h:=?_)
 refine Drawn.T 14 (some 25) (h:=?_)
 refine Drawn.cl 15 (fun K hK=>?_)
 go_simp
 go_at_call 65
 refine (ofV (HH.out.below (by exact Rd.byB)) hm ⟨v.kind,v.n⟩ t _ hp.out hv).mono ?_
 rintro e w1 ⟨rfl,hb1⟩
 have kk:∀ (b o:Nat) (u:Value),World.cell? _ ⟨b,o,none⟩=some u→w1.cell? ⟨b,o,none⟩=some u:=fun b o u hc=>kept hb1 (cell_lt hc) hc
 have y0:=kk E.hb 0 (.slice (some ⟨cb,co,none⟩) E.f.classes.length ccap) (by go_simp)
 have y1:=kk cb (co+c*2+1) (.slice (some ⟨fb,fo,none⟩) x.fields.length fcap) (by go_simp)
 have y2:=kk fb (fo+k*2) (.int .i64 t.kind) (by go_simp)
 have y3:=kk fb (fo+k*2+1) (.int .i64 t.cls) (by go_simp)
 have y4:=kk (w.heap.size+1) 0 (.int .i64 v.kind) (by go_simp)
 have y5:=kk (w.heap.size+1) 1 (.int .i64 v.n) (by go_simp)
 have y6:=kk w.heap.size 0 (.int .i64 r.kind) (by go_simp)
 have y7:=kk w.heap.size 1 (.int .i64 r.n) (by go_simp)
 have HB1:=Lib.hid (show Below w.heap.size w w1 from Below.trans (by exact Rd.byB) (hb1.mono (by simp <;> omega)))
 have hz1:w.heap.size+1+1≤w1.heap.size:=by have:=hb1.size;simpa using this
 clear kk hb1
 go_wp2_with fail
 refine Drawn.bk hK (hS:=by (try dsimp only);exact ⟨y0,y1,y2,y3,y4,y5⟩) (h:=fun hHeld=>?_)
 clear hK K
 refine Drawn.cl 16 (fun K hK=>?_)
 go_simp
 go_at_call 63
 refine (mustF (HH.out.below HB1.out) rfl).mono ?_
 rintro e w2 ⟨rfl,rfl⟩
 have nb:∀ b,b < w1.heap.size→b≠E.hb→∀ o u,w1.cell? ⟨b,o,none⟩=some u→((w1.setCell ⟨E.hb,12,none⟩ (.bool true)).setCell ⟨E.hb,6,none⟩ (.int .i64 6)).cell? ⟨b,o,none⟩=some u:=fun b _ hne o u hc=>((Kp.setCell (Kp.setCell (Kp.refl (fun k=>k=E.hb) w1) (p:=⟨E.hb,12,none⟩) (.inl rfl) _) (p:=⟨E.hb,6,none⟩) (.inl rfl) _).cell hc hne)
 go_wp2_with fail
 refine Drawn.bk hK (hS:=by (try dsimp only);exact ⟨by go_simp,nb _ (by have:=HB1.out.size;omega) (by omega) _ _ y1,nb _ (by have:=HB1.out.size;omega) (by omega) _ _ y2,nb _ (by have:=HB1.out.size;omega) (by omega) _ _ y3,nb _ (by have:=HB1.out.size;omega) (by omega) _ _ y4,nb _ (by have:=HB1.out.size;omega) (by omega) _ _ y5⟩) (h:=fun hHeld=>?_)
 clear hK K
 refine Drawn.T 17 (some 28) (h:=?_)
 refine wpAnyH_done (by kernel_rfl) ?_ _
 go_wp2_with fail
 go_end0
 exact ⟨rfl,ended HH.out rfl 6 HB1.out⟩
set_option maxRecDepth 100000 in
theorem putStuck (H:RH E w L h d Sv.run) (hm:Hier.may E.f.classes=true) (r v:Vl) (c k:Nat) (hv:v.kind=3→v.n < h.objs.length) (hc:c < E.f.classes.length) (hk:k < (Hier.at' E.f.classes c).fields.length) (ht:ofT E.f.classes h v (ftype E.f.classes c k)=true) (hr:r.kind=3→r.n < h.objs.length) (ho:ofT E.f.classes h r ⟨3,c⟩=false) :
  Calls Tryz.prog 119 #[.pointer (some ⟨E.hb,0,none⟩),.agg #[.int .i64 r.kind,.int .i64 r.n],.int .i64 c,.int .i64 k,.agg #[.int .i64 v.kind,.int .i64 v.n]] w (Keeps E L h d (Sv.ends 6) w (.tuple #[])):=by
 have HH:=Lib.hid H
 have hhb:=H.rows.base.2
 have hp:=Lib.hid ht
 have b0:=H.c0
 obtain ⟨ca,ccap,hvc,c1,c2,hel⟩:=id H.rows.cls
 obtain ⟨cb,co,rfl,hcb,he⟩:=hel c hc
 obtain ⟨x,hx⟩:=at_of hc
 rw [hx.out] at he
 obtain ⟨_,_,fv,e2,hf⟩:=he
 have hfx:Hier.at' E.f.classes c=x:=at'_of hc hx.out
 rw [hfx] at hk
 obtain ⟨fa,fcap,rfl,c3,c4,hfe⟩:=hf
 obtain ⟨fb,fo,rfl,hfb,hfe2⟩:=hfe k hk
 obtain ⟨t,htt⟩:=at_of hk
 rw [htt.out] at hfe2
 obtain ⟨t1,t2,_,_⟩:=hfe2
 have hft:Hid (ftype E.f.classes c k=t):=by
  show _=_
  unfold ftype
  rw [Int.toNat_natCast,Int.toNat_natCast,hfx,List.getD_eq_getElem?_getD,List.getElem?_eq_getElem hk,htt.out];rfl
 rw [hft.out] at hp
 rw [hvc] at b0
 have hci:(c:Int) < E.f.classes.length:=by omega
 have hki:(k:Int) < x.fields.length:=by omega
 have hbs:E.B≤w.heap.size:=by have:=H.rows.base;omega
 have lcb:cb < w.heap.size:=by omega
 have lfb:fb < w.heap.size:=by omega
 replace ho:=Lib.hid ho
 clear H ht hvc hel hfx hfe
 go_enter Tryz.func119,Tryz.ntmps119
 go_wp2
 refine Drawn.hd (fun w'=>w'.cell? ⟨E.hb,0,none⟩=some (.slice (some ⟨cb,co,none⟩) E.f.classes.length ccap)∧w'.cell? ⟨cb,co+c*2+1,none⟩=some (.slice (some ⟨fb,fo,none⟩) x.fields.length fcap)∧w'.cell? ⟨fb,fo+k*2,none⟩=some (.int .i64 t.kind)∧w'.cell? ⟨fb,fo+k*2+1,none⟩=some (.int .i64 t.cls)∧w'.cell? ⟨w.heap.size+1,0,none⟩=some (.int .i64 v.kind)∧w'.cell? ⟨w.heap.size+1,1,none⟩=some (.int .i64 v.n)) (h:=fun hHeld=>?_)
 refine Drawn.T 0 (some 11) (h:=?_)
 refine Drawn.T 1 (some 12) (h:=?_)
 refine Drawn.T 2 (some 13) (h:=?_)
 refine Drawn.T 3 (some 14) (h:=?_)
 refine Drawn.T 4 (some 15) (h:=?_)
 refine Drawn.T 5 (some 16) (h:=?_)
 refine Drawn.T 6 (some 17) (h:=?_)
 refine Drawn.T 7 (some 18) (h:=?_)
 refine Drawn.T 8 (some 19) (h:=?_)
 refine Drawn.T 9 (some 20) (h:=?_)
 refine Drawn.T 10 (some 21) (h:=?_)
 refine Drawn.T 11 (some 22) (h:=?_)
 refine Drawn.T 12 (some 23) (h:=?_)
 refine Drawn.T 13 (some 24) (h:=?_)
 refine Drawn.T 14 (some 25) (h:=?_)
 refine Drawn.cl 15 (fun K hK=>?_)
 go_simp
 go_at_call 65
 refine (ofV (HH.out.below (by exact Rd.byB)) hm ⟨v.kind,v.n⟩ t _ hp.out hv).mono ?_
 rintro e w1 ⟨rfl,hb1⟩
 have kk:∀ (b o:Nat) (u:Value),World.cell? _ ⟨b,o,none⟩=some u→w1.cell? ⟨b,o,none⟩=some u:=fun b o u hc=>kept hb1 (cell_lt hc) hc
 have y0:=kk E.hb 0 (.slice (some ⟨cb,co,none⟩) E.f.classes.length ccap) (by go_simp)
 have y1:=kk cb (co+c*2+1) (.slice (some ⟨fb,fo,none⟩) x.fields.length fcap) (by go_simp)
 have y2:=kk fb (fo+k*2) (.int .i64 t.kind) (by go_simp)
 have y3:=kk fb (fo+k*2+1) (.int .i64 t.cls) (by go_simp)
 have y4:=kk (w.heap.size+1) 0 (.int .i64 v.kind) (by go_simp)
 have y5:=kk (w.heap.size+1) 1 (.int .i64 v.n) (by go_simp)
 have y6:=kk w.heap.size 0 (.int .i64 r.kind) (by go_simp)
 have y7:=kk w.heap.size 1 (.int .i64 r.n) (by go_simp)
 have HB1:=Lib.hid (show Below w.heap.size w w1 from Below.trans (by exact Rd.byB) (hb1.mono (by simp <;> omega)))
 have hz1:w.heap.size+1+1≤w1.heap.size:=by have:=hb1.size;simpa using this
 clear kk hb1
 go_wp2_with fail
 refine Drawn.bk hK (hS:=by (try dsimp only);exact ⟨y0,y1,y2,y3,y4,y5⟩) (h:=fun hHeld=>?_)
 clear hK K
 refine Drawn.cl 16 (fun K hK=>?_)
 go_simp
 go_at_call 63
 refine (mustT (HH.out.below HB1.out) rfl).mono ?_
 rintro e w2 ⟨rfl,rfl⟩
 go_wp2_with fail
 refine Drawn.bk hK (hS:=by (try dsimp only);exact ⟨y0,y1,y2,y3,y4,y5⟩) (h:=fun hHeld=>?_)
 clear hK K
 refine Drawn.T 17 (some 28) (h:=?_)
 refine wpAnyH_done (by kernel_rfl) ?_ _
 go_wp2_with (go_at_call 171;refine (findStuck (HH.out.below HB1.out) hm ⟨r.kind,r.n⟩ c k hr ho.out).mono ?_;rintro e w2 ⟨⟨v,rfl,rfl⟩,H2,K2⟩;replace H2:=Lib.hid H2;replace K2:=Lib.hid K2)
 go_end0
 exact ⟨rfl,H2.out,(kpB HB1.out).trans K2.out (fun _ hy=>.inl hy)⟩
set_option maxRecDepth 100000 in
theorem putFull (H:RH E w L h d Sv.run) (hm:Hier.may E.f.classes=true) (r v:Vl) (c k:Nat) (hv:v.kind=3→v.n < h.objs.length) (hc:c < E.f.classes.length) (hk:k < (Hier.at' E.f.classes c).fields.length) (ht:ofT E.f.classes h v (ftype E.f.classes c k)=true) (hn:r.n < 0) (ho:ofT E.f.classes h r ⟨3,c⟩=true) (q:100≤h.objs.length) :
  Calls Tryz.prog 119 #[.pointer (some ⟨E.hb,0,none⟩),.agg #[.int .i64 r.kind,.int .i64 r.n],.int .i64 c,.int .i64 k,.agg #[.int .i64 v.kind,.int .i64 v.n]] w (Keeps E L h d (Sv.ends 4) w (.tuple #[])):=by
 have HH:=Lib.hid H
 have hhb:=H.rows.base.2
 have hp:=Lib.hid ht
 have b0:=H.c0
 obtain ⟨ca,ccap,hvc,c1,c2,hel⟩:=id H.rows.cls
 obtain ⟨cb,co,rfl,hcb,he⟩:=hel c hc
 obtain ⟨x,hx⟩:=at_of hc
 rw [hx.out] at he
 obtain ⟨_,_,fv,e2,hf⟩:=he
 have hfx:Hier.at' E.f.classes c=x:=at'_of hc hx.out
 rw [hfx] at hk
 obtain ⟨fa,fcap,rfl,c3,c4,hfe⟩:=hf
 obtain ⟨fb,fo,rfl,hfb,hfe2⟩:=hfe k hk
 obtain ⟨t,htt⟩:=at_of hk
 rw [htt.out] at hfe2
 obtain ⟨t1,t2,_,_⟩:=hfe2
 have hft:Hid (ftype E.f.classes c k=t):=by
  show _=_
  unfold ftype
  rw [Int.toNat_natCast,Int.toNat_natCast,hfx,List.getD_eq_getElem?_getD,List.getElem?_eq_getElem hk,htt.out];rfl
 rw [hft.out] at hp
 rw [hvc] at b0
 have hci:(c:Int) < E.f.classes.length:=by omega
 have hki:(k:Int) < x.fields.length:=by omega
 have hbs:E.B≤w.heap.size:=by have:=H.rows.base;omega
 have lcb:cb < w.heap.size:=by omega
 have lfb:fb < w.heap.size:=by omega
 replace ho:=Lib.hid ho
 clear H ht hvc hel hfx hfe
 go_enter Tryz.func119,Tryz.ntmps119
 go_wp2
 refine Drawn.hd (fun w'=>w'.cell? ⟨E.hb,0,none⟩=some (.slice (some ⟨cb,co,none⟩) E.f.classes.length ccap)∧w'.cell? ⟨cb,co+c*2+1,none⟩=some (.slice (some ⟨fb,fo,none⟩) x.fields.length fcap)∧w'.cell? ⟨fb,fo+k*2,none⟩=some (.int .i64 t.kind)∧w'.cell? ⟨fb,fo+k*2+1,none⟩=some (.int .i64 t.cls)∧w'.cell? ⟨w.heap.size+1,0,none⟩=some (.int .i64 v.kind)∧w'.cell? ⟨w.heap.size+1,1,none⟩=some (.int .i64 v.n)) (h:=fun hHeld=>?_)
 refine Drawn.T 0 (some 11) (h:=?_)
 refine Drawn.T 1 (some 12) (h:=?_)
 refine Drawn.T 2 (some 13) (h:=?_)
 refine Drawn.T 3 (some 14) (h:=?_)
 refine Drawn.T 4 (some 15) (h:=?_)
 refine Drawn.T 5 (some 16) (h:=?_)
 refine Drawn.T 6 (some 17) (h:=?_)
 refine Drawn.T 7 (some 18) (h:=?_)
 refine Drawn.T 8 (some 19) (h:=?_)
 refine Drawn.T 9 (some 20) (h:=?_)
 refine Drawn.T 10 (some 21) (h:=?_)
 refine Drawn.T 11 (some 22) (h:=?_)
 refine Drawn.T 12 (some 23) (h:=?_)
 refine Drawn.T 13 (some 24) (h:=?_)
 refine Drawn.T 14 (some 25) (h:=?_)
 refine Drawn.cl 15 (fun K hK=>?_)
 go_simp
 go_at_call 65
 refine (ofV (HH.out.below (by exact Rd.byB)) hm ⟨v.kind,v.n⟩ t _ hp.out hv).mono ?_
 rintro e w1 ⟨rfl,hb1⟩
 have kk:∀ (b o:Nat) (u:Value),World.cell? _ ⟨b,o,none⟩=some u→w1.cell? ⟨b,o,none⟩=some u:=fun b o u hc=>kept hb1 (cell_lt hc) hc
 have y0:=kk E.hb 0 (.slice (some ⟨cb,co,none⟩) E.f.classes.length ccap) (by go_simp)
 have y1:=kk cb (co+c*2+1) (.slice (some ⟨fb,fo,none⟩) x.fields.length fcap) (by go_simp)
 have y2:=kk fb (fo+k*2) (.int .i64 t.kind) (by go_simp)
 have y3:=kk fb (fo+k*2+1) (.int .i64 t.cls) (by go_simp)
 have y4:=kk (w.heap.size+1) 0 (.int .i64 v.kind) (by go_simp)
 have y5:=kk (w.heap.size+1) 1 (.int .i64 v.n) (by go_simp)
 have y6:=kk w.heap.size 0 (.int .i64 r.kind) (by go_simp)
 have y7:=kk w.heap.size 1 (.int .i64 r.n) (by go_simp)
 have HB1:=Lib.hid (show Below w.heap.size w w1 from Below.trans (by exact Rd.byB) (hb1.mono (by simp <;> omega)))
 have hz1:w.heap.size+1+1≤w1.heap.size:=by have:=hb1.size;simpa using this
 clear kk hb1
 go_wp2_with fail
 refine Drawn.bk hK (hS:=by (try dsimp only);exact ⟨y0,y1,y2,y3,y4,y5⟩) (h:=fun hHeld=>?_)
 clear hK K
 refine Drawn.cl 16 (fun K hK=>?_)
 go_simp
 go_at_call 63
 refine (mustT (HH.out.below HB1.out) rfl).mono ?_
 rintro e w2 ⟨rfl,rfl⟩
 go_wp2_with fail
 refine Drawn.bk hK (hS:=by (try dsimp only);exact ⟨y0,y1,y2,y3,y4,y5⟩) (h:=fun hHeld=>?_)
 clear hK K
 refine Drawn.T 17 (some 28) (h:=?_)
 refine wpAnyH_done (by kernel_rfl) ?_ _
 go_wp2_with (go_at_call 171;refine (findFull (HH.out.below HB1.out) hm ⟨r.kind,r.n⟩ c k hn ho.out q).mono ?_;rintro e w2 ⟨⟨v,rfl,rfl⟩,H2,K2⟩;replace H2:=Lib.hid H2;replace K2:=Lib.hid K2)
 go_end0
 exact ⟨rfl,H2.out,(kpB HB1.out).trans K2.out (fun _ hy=>.inl hy)⟩
set_option maxRecDepth 100000 in
theorem putNull (H:RH E w L h d Sv.run) (hm:Hier.may E.f.classes=true) (r v:Vl) (c k:Nat) (hv:v.kind=3→v.n < h.objs.length) (hc:c < E.f.classes.length) (hk:k < (Hier.at' E.f.classes c).fields.length) (ht:ofT E.f.classes h v (ftype E.f.classes c k)=true) (hn:r.n < 0) (ho:ofT E.f.classes h r ⟨3,c⟩=true) (q:h.objs.length < 100) :
  Calls Tryz.prog 119 #[.pointer (some ⟨E.hb,0,none⟩),.agg #[.int .i64 r.kind,.int .i64 r.n],.int .i64 c,.int .i64 k,.agg #[.int .i64 v.kind,.int .i64 v.n]] w (Gives E L (more h ⟨1,fresh E.f.classes 1⟩) d (Sv.thr h.objs.length) w (.tuple #[])):=by
 have HH:=Lib.hid H
 have hhb:=H.rows.base.2
 have hp:=Lib.hid ht
 have b0:=H.c0
 obtain ⟨ca,ccap,hvc,c1,c2,hel⟩:=id H.rows.cls
 obtain ⟨cb,co,rfl,hcb,he⟩:=hel c hc
 obtain ⟨x,hx⟩:=at_of hc
 rw [hx.out] at he
 obtain ⟨_,_,fv,e2,hf⟩:=he
 have hfx:Hier.at' E.f.classes c=x:=at'_of hc hx.out
 rw [hfx] at hk
 obtain ⟨fa,fcap,rfl,c3,c4,hfe⟩:=hf
 obtain ⟨fb,fo,rfl,hfb,hfe2⟩:=hfe k hk
 obtain ⟨t,htt⟩:=at_of hk
 rw [htt.out] at hfe2
 obtain ⟨t1,t2,_,_⟩:=hfe2
 have hft:Hid (ftype E.f.classes c k=t):=by
  show _=_
  unfold ftype
  rw [Int.toNat_natCast,Int.toNat_natCast,hfx,List.getD_eq_getElem?_getD,List.getElem?_eq_getElem hk,htt.out];rfl
 rw [hft.out] at hp
 rw [hvc] at b0
 have hci:(c:Int) < E.f.classes.length:=by omega
 have hki:(k:Int) < x.fields.length:=by omega
 have hbs:E.B≤w.heap.size:=by have:=H.rows.base;omega
 have lcb:cb < w.heap.size:=by omega
 have lfb:fb < w.heap.size:=by omega
 replace ho:=Lib.hid ho
 clear H ht hvc hel hfx hfe
 go_enter Tryz.func119,Tryz.ntmps119
 go_wp2
 refine Drawn.hd (fun w'=>w'.cell? ⟨E.hb,0,none⟩=some (.slice (some ⟨cb,co,none⟩) E.f.classes.length ccap)∧w'.cell? ⟨cb,co+c*2+1,none⟩=some (.slice (some ⟨fb,fo,none⟩) x.fields.length fcap)∧w'.cell? ⟨fb,fo+k*2,none⟩=some (.int .i64 t.kind)∧w'.cell? ⟨fb,fo+k*2+1,none⟩=some (.int .i64 t.cls)∧w'.cell? ⟨w.heap.size+1,0,none⟩=some (.int .i64 v.kind)∧w'.cell? ⟨w.heap.size+1,1,none⟩=some (.int .i64 v.n)) (h:=fun hHeld=>?_)
 refine Drawn.T 0 (some 11) (h:=?_)
 refine Drawn.T 1 (some 12) (h:=?_)
 refine Drawn.T 2 (some 13) (h:=?_)
 refine Drawn.T 3 (some 14) (h:=?_)
 refine Drawn.T 4 (some 15) (h:=?_)
 refine Drawn.T 5 (some 16) (h:=?_)
 refine Drawn.T 6 (some 17) (h:=?_)
 refine Drawn.T 7 (some 18) (h:=?_)
 refine Drawn.T 8 (some 19) (h:=?_)
 refine Drawn.T 9 (some 20) (h:=?_)
 refine Drawn.T 10 (some 21) (h:=?_)
 refine Drawn.T 11 (some 22) (h:=?_)
 refine Drawn.T 12 (some 23) (h:=?_)
 refine Drawn.T 13 (some 24) (h:=?_)
 refine Drawn.T 14 (some 25) (h:=?_)
 refine Drawn.cl 15 (fun K hK=>?_)
 go_simp
 go_at_call 65
 refine (ofV (HH.out.below (by exact Rd.byB)) hm ⟨v.kind,v.n⟩ t _ hp.out hv).mono ?_
 rintro e w1 ⟨rfl,hb1⟩
 have kk:∀ (b o:Nat) (u:Value),World.cell? _ ⟨b,o,none⟩=some u→w1.cell? ⟨b,o,none⟩=some u:=fun b o u hc=>kept hb1 (cell_lt hc) hc
 have y0:=kk E.hb 0 (.slice (some ⟨cb,co,none⟩) E.f.classes.length ccap) (by go_simp)
 have y1:=kk cb (co+c*2+1) (.slice (some ⟨fb,fo,none⟩) x.fields.length fcap) (by go_simp)
 have y2:=kk fb (fo+k*2) (.int .i64 t.kind) (by go_simp)
 have y3:=kk fb (fo+k*2+1) (.int .i64 t.cls) (by go_simp)
 have y4:=kk (w.heap.size+1) 0 (.int .i64 v.kind) (by go_simp)
 have y5:=kk (w.heap.size+1) 1 (.int .i64 v.n) (by go_simp)
 have y6:=kk w.heap.size 0 (.int .i64 r.kind) (by go_simp)
 have y7:=kk w.heap.size 1 (.int .i64 r.n) (by go_simp)
 have HB1:=Lib.hid (show Below w.heap.size w w1 from Below.trans (by exact Rd.byB) (hb1.mono (by simp <;> omega)))
 have hz1:w.heap.size+1+1≤w1.heap.size:=by have:=hb1.size;simpa using this
 clear kk hb1
 go_wp2_with fail
 refine Drawn.bk hK (hS:=by (try dsimp only);exact ⟨y0,y1,y2,y3,y4,y5⟩) (h:=fun hHeld=>?_)
 clear hK K
 refine Drawn.cl 16 (fun K hK=>?_)
 go_simp
 go_at_call 63
 refine (mustT (HH.out.below HB1.out) rfl).mono ?_
 rintro e w2 ⟨rfl,rfl⟩
 go_wp2_with fail
 refine Drawn.bk hK (hS:=by (try dsimp only);exact ⟨y0,y1,y2,y3,y4,y5⟩) (h:=fun hHeld=>?_)
 clear hK K
 refine Drawn.T 17 (some 28) (h:=?_)
 refine wpAnyH_done (by kernel_rfl) ?_ _
 go_wp2_with (go_at_call 171;refine (findNull (HH.out.below HB1.out) hm ⟨r.kind,r.n⟩ c k hn ho.out q).mono ?_;rintro e w2 ⟨rfl,L2,H2,K2,N2⟩;replace H2:=Lib.hid H2;replace K2:=Lib.hid K2;replace N2:=Lib.hid N2)
 go_end0
 exact ⟨rfl,L2,H2.out,(kpB HB1.out).trans K2.out (fun _ hy=>.inl hy),fun k hk=>(N2.out k hk).imp_right (fun h=>Nat.le_trans HB1.out.size h)⟩
set_option maxRecDepth 100000 in
theorem putNo (H:RH E w L h d Sv.run) (hm:Hier.may E.f.classes=true) (r v:Vl) (c k:Nat) (hv:v.kind=3→v.n < h.objs.length) (hc:c < E.f.classes.length) (hk:k < (Hier.at' E.f.classes c).fields.length) (ht:ofT E.f.classes h v (ftype E.f.classes c k)=true) (h0:0≤r.n) (h1:r.n < h.objs.length) (ho:ofT E.f.classes h r ⟨3,c⟩=true) (h72:(obj h r.n).held.length≤72) (hj:¬ idx (obj h r.n).held (c,k) < (obj h r.n).held.length) :
  Calls Tryz.prog 119 #[.pointer (some ⟨E.hb,0,none⟩),.agg #[.int .i64 r.kind,.int .i64 r.n],.int .i64 c,.int .i64 k,.agg #[.int .i64 v.kind,.int .i64 v.n]] w (Keeps E L h d Sv.run w (.tuple #[])):=by
 have HH:=Lib.hid H
 have hhb:=H.rows.base.2
 have hp:=Lib.hid ht
 have b0:=H.c0
 obtain ⟨ca,ccap,hvc,c1,c2,hel⟩:=id H.rows.cls
 obtain ⟨cb,co,rfl,hcb,he⟩:=hel c hc
 obtain ⟨x,hx⟩:=at_of hc
 rw [hx.out] at he
 obtain ⟨_,_,fv,e2,hf⟩:=he
 have hfx:Hier.at' E.f.classes c=x:=at'_of hc hx.out
 rw [hfx] at hk
 obtain ⟨fa,fcap,rfl,c3,c4,hfe⟩:=hf
 obtain ⟨fb,fo,rfl,hfb,hfe2⟩:=hfe k hk
 obtain ⟨t,htt⟩:=at_of hk
 rw [htt.out] at hfe2
 obtain ⟨t1,t2,_,_⟩:=hfe2
 have hft:Hid (ftype E.f.classes c k=t):=by
  show _=_
  unfold ftype
  rw [Int.toNat_natCast,Int.toNat_natCast,hfx,List.getD_eq_getElem?_getD,List.getElem?_eq_getElem hk,htt.out];rfl
 rw [hft.out] at hp
 rw [hvc] at b0
 have hci:(c:Int) < E.f.classes.length:=by omega
 have hki:(k:Int) < x.fields.length:=by omega
 have hbs:E.B≤w.heap.size:=by have:=H.rows.base;omega
 have lcb:cb < w.heap.size:=by omega
 have lfb:fb < w.heap.size:=by omega
 replace ho:=Lib.hid ho
 have hJ:Hid (at_ (obj h r.n).held (c,k) = -1):=by show _=_;unfold at_;rw [if_neg hj]
 clear hj
 clear H ht hvc hel hfx hfe
 go_enter Tryz.func119,Tryz.ntmps119
 go_wp2
 refine Drawn.hd (fun w'=>w'.cell? ⟨E.hb,0,none⟩=some (.slice (some ⟨cb,co,none⟩) E.f.classes.length ccap)∧w'.cell? ⟨cb,co+c*2+1,none⟩=some (.slice (some ⟨fb,fo,none⟩) x.fields.length fcap)∧w'.cell? ⟨fb,fo+k*2,none⟩=some (.int .i64 t.kind)∧w'.cell? ⟨fb,fo+k*2+1,none⟩=some (.int .i64 t.cls)∧w'.cell? ⟨w.heap.size+1,0,none⟩=some (.int .i64 v.kind)∧w'.cell? ⟨w.heap.size+1,1,none⟩=some (.int .i64 v.n)) (h:=fun hHeld=>?_)
 refine Drawn.T 0 (some 11) (h:=?_)
 refine Drawn.T 1 (some 12) (h:=?_)
 refine Drawn.T 2 (some 13) (h:=?_)
 refine Drawn.T 3 (some 14) (h:=?_)
 refine Drawn.T 4 (some 15) (h:=?_)
 refine Drawn.T 5 (some 16) (h:=?_)
 refine Drawn.T 6 (some 17) (h:=?_)
 refine Drawn.T 7 (some 18) (h:=?_)
 refine Drawn.T 8 (some 19) (h:=?_)
 refine Drawn.T 9 (some 20) (h:=?_)
 refine Drawn.T 10 (some 21) (h:=?_)
 refine Drawn.T 11 (some 22) (h:=?_)
 refine Drawn.T 12 (some 23) (h:=?_)
 refine Drawn.T 13 (some 24) (h:=?_)
 refine Drawn.T 14 (some 25) (h:=?_)
 refine Drawn.cl 15 (fun K hK=>?_)
 go_simp
 go_at_call 65
 refine (ofV (HH.out.below (by exact Rd.byB)) hm ⟨v.kind,v.n⟩ t _ hp.out hv).mono ?_
 rintro e w1 ⟨rfl,hb1⟩
 have kk:∀ (b o:Nat) (u:Value),World.cell? _ ⟨b,o,none⟩=some u→w1.cell? ⟨b,o,none⟩=some u:=fun b o u hc=>kept hb1 (cell_lt hc) hc
 have y0:=kk E.hb 0 (.slice (some ⟨cb,co,none⟩) E.f.classes.length ccap) (by go_simp)
 have y1:=kk cb (co+c*2+1) (.slice (some ⟨fb,fo,none⟩) x.fields.length fcap) (by go_simp)
 have y2:=kk fb (fo+k*2) (.int .i64 t.kind) (by go_simp)
 have y3:=kk fb (fo+k*2+1) (.int .i64 t.cls) (by go_simp)
 have y4:=kk (w.heap.size+1) 0 (.int .i64 v.kind) (by go_simp)
 have y5:=kk (w.heap.size+1) 1 (.int .i64 v.n) (by go_simp)
 have y6:=kk w.heap.size 0 (.int .i64 r.kind) (by go_simp)
 have y7:=kk w.heap.size 1 (.int .i64 r.n) (by go_simp)
 have HB1:=Lib.hid (show Below w.heap.size w w1 from Below.trans (by exact Rd.byB) (hb1.mono (by simp <;> omega)))
 have hz1:w.heap.size+1+1≤w1.heap.size:=by have:=hb1.size;simpa using this
 clear kk hb1
 go_wp2_with fail
 refine Drawn.bk hK (hS:=by (try dsimp only);exact ⟨y0,y1,y2,y3,y4,y5⟩) (h:=fun hHeld=>?_)
 clear hK K
 refine Drawn.cl 16 (fun K hK=>?_)
 go_simp
 go_at_call 63
 refine (mustT (HH.out.below HB1.out) rfl).mono ?_
 rintro e w2 ⟨rfl,rfl⟩
 go_wp2_with fail
 refine Drawn.bk hK (hS:=by (try dsimp only);exact ⟨y0,y1,y2,y3,y4,y5⟩) (h:=fun hHeld=>?_)
 clear hK K
 refine Drawn.T 17 (some 28) (h:=?_)
 refine wpAnyH_done (by kernel_rfl) ?_ _
 go_wp2_with (go_at_call 171;refine (findAtV (HH.out.below HB1.out) hm ⟨r.kind,r.n⟩ c k h0 h1 ho.out h72 hJ.out).mono ?_;rintro e w2 ⟨rfl,hb2⟩;replace hb2:=Lib.hid hb2)
 go_end0
 exact ⟨rfl,(HH.out.below HB1.out).below hb2.out,kb (kpB HB1.out) hb2.out⟩
set_option maxRecDepth 100000 in
theorem putAt (H:RH E w L h d Sv.run) (hm:Hier.may E.f.classes=true) (r v:Vl) (c k:Nat) (hv:v.kind=3→v.n < h.objs.length) (hc:c < E.f.classes.length) (hk:k < (Hier.at' E.f.classes c).fields.length) (ht:ofT E.f.classes h v (ftype E.f.classes c k)=true) (h0:0≤r.n) (h1:r.n < h.objs.length) (ho:ofT E.f.classes h r ⟨3,c⟩=true) (h72:(obj h r.n).held.length≤72) (hj:idx (obj h r.n).held (c,k) < (obj h r.n).held.length) :
  Calls Tryz.prog 119 #[.pointer (some ⟨E.hb,0,none⟩),.agg #[.int .i64 r.kind,.int .i64 r.n],.int .i64 c,.int .i64 k,.agg #[.int .i64 v.kind,.int .i64 v.n]] w (Keeps E L (setOb h r.n ((obj h r.n).held.set (idx (obj h r.n).held ((c:Int),(k:Int))) (((c:Int),(k:Int)),v))) d Sv.run w (.tuple #[])):=by
 have HH:=Lib.hid H
 have hhb:=H.rows.base.2
 have hp:=Lib.hid ht
 have b0:=H.c0
 obtain ⟨ca,ccap,hvc,c1,c2,hel⟩:=id H.rows.cls
 obtain ⟨cb,co,rfl,hcb,he⟩:=hel c hc
 obtain ⟨x,hx⟩:=at_of hc
 rw [hx.out] at he
 obtain ⟨_,_,fv,e2,hf⟩:=he
 have hfx:Hier.at' E.f.classes c=x:=at'_of hc hx.out
 rw [hfx] at hk
 obtain ⟨fa,fcap,rfl,c3,c4,hfe⟩:=hf
 obtain ⟨fb,fo,rfl,hfb,hfe2⟩:=hfe k hk
 obtain ⟨t,htt⟩:=at_of hk
 rw [htt.out] at hfe2
 obtain ⟨t1,t2,_,_⟩:=hfe2
 have hft:Hid (ftype E.f.classes c k=t):=by
  show _=_
  unfold ftype
  rw [Int.toNat_natCast,Int.toNat_natCast,hfx,List.getD_eq_getElem?_getD,List.getElem?_eq_getElem hk,htt.out];rfl
 rw [hft.out] at hp
 rw [hvc] at b0
 have hci:(c:Int) < E.f.classes.length:=by omega
 have hki:(k:Int) < x.fields.length:=by omega
 have hbs:E.B≤w.heap.size:=by have:=H.rows.base;omega
 have lcb:cb < w.heap.size:=by omega
 have lfb:fb < w.heap.size:=by omega
 replace ho:=Lib.hid ho
 obtain ⟨j,hjj⟩:∃ j,idx (obj h r.n).held (c,k)=j:=⟨_,rfl⟩
 have hkey:=Lib.hid (idx_key hj)
 rw [hjj] at hj ⊢
 have hkj:Hid (((obj h r.n).held[j]).1=((c:Int),(k:Int))):=by show _=_;rw [← hkey.out];congr 2;exact hjj.symm
 have hJ:Hid (at_ (obj h r.n).held (c,k)=j):=by show _=_;unfold at_;rw [hjj,if_pos hj]
 obtain ⟨g,cap,hvb,d1,d2,hg,hgne,_,o2⟩:=H.ob h0 h1
 have b2:=H.c2
 rw [hvb] at b2
 have hro:=H.held h0 h1
 obtain ⟨ha,hcap,hhv,e1,e3,_,hlt⟩:=row_form hro (by omega)
 rw [hhv] at o2 hro
 have HHV:=Lib.hid hhv
 obtain ⟨_,_,z2,z3⟩:=hcells_get _ j hj
 replace z2:=row_cell hro z2
 replace z3:=row_cell hro z3
 have f2:w.frozen? ⟨ha,j*4+2,none⟩=false:=row_free hro
 have f3:w.frozen? ⟨ha,j*4+3,none⟩=false:=row_free hro
 have hnk:r.n.toNat < h.objs.length:=by omega
 have hrow2:(obj h r.n).held.length≤hcap:=e1
 clear hkey hhv hvb hjj hro
 clear H ht hvc hel hfx hfe
 go_enter Tryz.func119,Tryz.ntmps119
 go_wp2
 refine Drawn.hd (fun w'=>w'.cell? ⟨E.hb,0,none⟩=some (.slice (some ⟨cb,co,none⟩) E.f.classes.length ccap)∧w'.cell? ⟨cb,co+c*2+1,none⟩=some (.slice (some ⟨fb,fo,none⟩) x.fields.length fcap)∧w'.cell? ⟨fb,fo+k*2,none⟩=some (.int .i64 t.kind)∧w'.cell? ⟨fb,fo+k*2+1,none⟩=some (.int .i64 t.cls)∧w'.cell? ⟨w.heap.size+1,0,none⟩=some (.int .i64 v.kind)∧w'.cell? ⟨w.heap.size+1,1,none⟩=some (.int .i64 v.n)) (h:=fun hHeld=>?_)
 refine Drawn.T 0 (some 11) (h:=?_)
 refine Drawn.T 1 (some 12) (h:=?_)
 refine Drawn.T 2 (some 13) (h:=?_)
 refine Drawn.T 3 (some 14) (h:=?_)
 refine Drawn.T 4 (some 15) (h:=?_)
 refine Drawn.T 5 (some 16) (h:=?_)
 refine Drawn.T 6 (some 17) (h:=?_)
 refine Drawn.T 7 (some 18) (h:=?_)
 refine Drawn.T 8 (some 19) (h:=?_)
 refine Drawn.T 9 (some 20) (h:=?_)
 refine Drawn.T 10 (some 21) (h:=?_)
 refine Drawn.T 11 (some 22) (h:=?_)
 refine Drawn.T 12 (some 23) (h:=?_)
 refine Drawn.T 13 (some 24) (h:=?_)
 refine Drawn.T 14 (some 25) (h:=?_)
 refine Drawn.cl 15 (fun K hK=>?_)
 go_simp
 go_at_call 65
 refine (ofV (HH.out.below (by exact Rd.byB)) hm ⟨v.kind,v.n⟩ t _ hp.out hv).mono ?_
 rintro e w1 ⟨rfl,hb1⟩
 have kk:∀ (b o:Nat) (u:Value),World.cell? _ ⟨b,o,none⟩=some u→w1.cell? ⟨b,o,none⟩=some u:=fun b o u hc=>kept hb1 (cell_lt hc) hc
 have y0:=kk E.hb 0 (.slice (some ⟨cb,co,none⟩) E.f.classes.length ccap) (by go_simp)
 have y1:=kk cb (co+c*2+1) (.slice (some ⟨fb,fo,none⟩) x.fields.length fcap) (by go_simp)
 have y2:=kk fb (fo+k*2) (.int .i64 t.kind) (by go_simp)
 have y3:=kk fb (fo+k*2+1) (.int .i64 t.cls) (by go_simp)
 have y4:=kk (w.heap.size+1) 0 (.int .i64 v.kind) (by go_simp)
 have y5:=kk (w.heap.size+1) 1 (.int .i64 v.n) (by go_simp)
 have y6:=kk w.heap.size 0 (.int .i64 r.kind) (by go_simp)
 have y7:=kk w.heap.size 1 (.int .i64 r.n) (by go_simp)
 have HB1:=Lib.hid (show Below w.heap.size w w1 from Below.trans (by exact Rd.byB) (hb1.mono (by simp <;> omega)))
 have hz1:w.heap.size+1+1≤w1.heap.size:=by have:=hb1.size;simpa using this
 clear kk hb1
 go_wp2_with fail
 refine Drawn.bk hK (hS:=by (try dsimp only);exact ⟨y0,y1,y2,y3,y4,y5⟩) (h:=fun hHeld=>?_)
 clear hK K
 refine Drawn.cl 16 (fun K hK=>?_)
 go_simp
 go_at_call 63
 refine (mustT (HH.out.below HB1.out) rfl).mono ?_
 rintro e w2 ⟨rfl,rfl⟩
 go_wp2_with fail
 refine Drawn.bk hK (hS:=by (try dsimp only);exact ⟨y0,y1,y2,y3,y4,y5⟩) (h:=fun hHeld=>?_)
 clear hK K
 refine Drawn.T 17 (some 28) (h:=?_)
 refine wpAnyH_done (by kernel_rfl) ?_ _
 go_wp2_with (go_at_call 171;refine (findAtV (HH.out.below HB1.out) hm ⟨r.kind,r.n⟩ c k h0 h1 ho.out h72 hJ.out).mono ?_;rintro e w2 ⟨rfl,hb2⟩;have q6:=kept hb2 (cell_lt y6) y6;have q7:=kept hb2 (cell_lt y7) y7;have q4:=kept hb2 (cell_lt y4) y4;have q5:=kept hb2 (cell_lt y5) y5;have hB2:=Lib.hid (show Below w.heap.size w w2 from HB1.out.trans (hb2.mono HB1.out.size));have q0:=kept hB2.out (cell_lt b2) b2;have q1:=kept hB2.out (cell_lt o2) o2;have q2:=kept hB2.out (cell_lt z2) z2;have q3:=kept hB2.out (cell_lt z3) z3;have g2:=(kpB (X:=fun _=>False) hB2.out).frz f2 (cell_lt z2) (fun e=>e);have g3:=(kpB (X:=fun _=>False) hB2.out).frz f3 (cell_lt z3) (fun e=>e);clear hb2)
 go_still_tail 13,(by kernel_rfl)
 go_wp2
 go_end0
 obtain ⟨A,K⟩:=RH.setHeld (HH.out.below hB2.out) h0 h1 HHV.out hj ((c:Int),(k:Int)) hkj.out v
 exact ⟨rfl,A.below (by exact Rd.byB),kb ((kpB hB2.out).trans K (fun _ hy=>.inl hy)) (by exact Rd.byB)⟩
end
end Rhw
namespace Rhw
open Num Rd D Run Mem HierW Hpw
section
variable {E:Ev}{w w':World}{L L':RL}{h h':Hp}{d:Nat}{s:Sv}
theorem throwStuck (H:RH E w L h d Sv.run) (v:Vl) (q:v.kind≠3) :
  Calls Tryz.prog 117 #[.pointer (some ⟨E.hb,0,none⟩),.agg #[.int .i64 v.kind,.int .i64 v.n]] w (Keeps E L h d (Sv.ends 6) w (.tuple #[])):=by
 have HH:=Lib.hid H
 have qb:(v.kind==3)=false:=by simpa using q
 clear H
 go_enter Tryz.func117,Tryz.ntmps117
 go_wp2_with (go_at_call 63;refine (mustF (HH.out.below (by exact Rd.byB)) rfl).mono ?_;rintro e w2 ⟨rfl,rfl⟩)
 go_end0
 exact ⟨rfl,ended HH.out rfl 6 (by exact Rd.byB)⟩
theorem throwFull (H:RH E w L h d Sv.run) (v:Vl) (q:v.kind=3) (hn:v.n < 0) (q2:100≤h.objs.length) :
  Calls Tryz.prog 117 #[.pointer (some ⟨E.hb,0,none⟩),.agg #[.int .i64 v.kind,.int .i64 v.n]] w (Keeps E L h d (Sv.ends 4) w (.tuple #[])):=by
 have HH:=Lib.hid H
 obtain ⟨kd,n⟩:=v
 simp only at q hn
 subst q
 clear H
 go_enter Tryz.func117,Tryz.ntmps117
 go_wp2_with (first | (go_at_call 63;refine (mustT (HH.out.below (by exact Rd.byB)) rfl).mono ?_;rintro e w2 ⟨rfl,rfl⟩) | (go_at_call 170;refine (raiseFull (HH.out.below (by exact Rd.byB)) _ q2).mono ?_;rintro e w2 ⟨⟨v,rfl,rfl⟩,H2,K2⟩;replace H2:=Lib.hid H2;replace K2:=Lib.hid K2))
 go_end0
 exact ⟨rfl,H2.out,(Kp.of_below (B:=w.heap.size) (by exact Rd.byB) (Nat.le_refl _)).trans K2.out (fun _ hy=>.inl hy)⟩
theorem throwNull (H:RH E w L h d Sv.run) (hm:Hier.may E.f.classes=true) (v:Vl) (q:v.kind=3) (hn:v.n < 0) (q2:h.objs.length < 100) :
  Calls Tryz.prog 117 #[.pointer (some ⟨E.hb,0,none⟩),.agg #[.int .i64 v.kind,.int .i64 v.n]] w (Gives E L (more h ⟨1,fresh E.f.classes 1⟩) d (Sv.thr h.objs.length) w (.tuple #[])):=by
 have HH:=Lib.hid H
 obtain ⟨kd,n⟩:=v
 simp only at q hn
 subst q
 clear H
 go_enter Tryz.func117,Tryz.ntmps117
 go_wp2_with (first | (go_at_call 63;refine (mustT (HH.out.below (by exact Rd.byB)) rfl).mono ?_;rintro e w2 ⟨rfl,rfl⟩) | (go_at_call 170;refine (raiseOk (HH.out.below (by exact Rd.byB)) hm _ q2).mono ?_;rintro e w2 ⟨rfl,L2,H2,K2,N2⟩;replace H2:=Lib.hid H2;replace K2:=Lib.hid K2;replace N2:=Lib.hid N2))
 go_end0
 exact ⟨rfl,L2,H2.out,(Kp.of_below (B:=w.heap.size) (by exact Rd.byB) (Nat.le_refl _)).trans K2.out (fun _ hy=>.inl hy),fun k hk=>(N2.out k hk).imp_right (fun h=>Nat.le_trans (by simp) h)⟩
theorem throwIt (H:RH E w L h d Sv.run) (v:Vl) (q:v.kind=3) (hn:0≤v.n) :
  Calls Tryz.prog 117 #[.pointer (some ⟨E.hb,0,none⟩),.agg #[.int .i64 v.kind,.int .i64 v.n]] w (Keeps E L h d (Sv.thr v.n.toNat) w (.tuple #[])):=by
 have HH:=Lib.hid H
 obtain ⟨kd,n⟩:=v
 simp only at q hn
 subst q
 have c13:=H.c13
 have f13:=H.fz 13 (by decide)
 have hhb:=H.rows.base.2
 clear H
 go_enter Tryz.func117,Tryz.ntmps117
 go_wp2_with (first | (go_at_call 63;refine (mustT (HH.out.below (by exact Rd.byB)) rfl).mono ?_;rintro e w2 ⟨rfl,rfl⟩))
 go_end0
 have hnn:((n.toNat:Nat):Int)=n:=by omega
 refine ⟨rfl,RH.below (RH.set HH.out 13 (by decide) _ rfl rfl ?_) (by exact Rd.byB),kb ((Kp.refl (own E L) w).setCell (p:=⟨E.hb,13,none⟩) (.inl (.inl rfl)) _) (by exact Rd.byB)⟩
 simp [cellsR,Sv.run,Sv.thr,hnn]
set_option maxRecDepth 100000 in
theorem reckonStuck (H:RH E w L h d Sv.run) (a b:Vl) (kind op:Int) (p q:Bool) (hp:(a.kind==kind)=p) (hq:(b.kind==kind)=q) (hpq:(p && q)=false) :
  Calls Tryz.prog 172 #[.pointer (some ⟨E.hb,0,none⟩),.agg #[.int .i64 a.kind,.int .i64 a.n],.agg #[.int .i64 b.kind,.int .i64 b.n],.int .i64 kind,.int .i64 op] w (Full E L h d 6 w IsV):=by
 have HH:=Lib.hid H
 clear H
 cases p
 all_goals cases q
 all_goals first | (exact absurd hpq (by decide)) | skip
 all_goals
  clear hpq
  go_enter Tryz.func172,Tryz.ntmps172
  go_wp2_with (go_at_call 63;refine (mustF (HH.out.below (by exact Rd.byB)) rfl).mono ?_;rintro e w2 ⟨rfl,rfl⟩)
  refine bodyPost_ret (v:=.agg #[.int .i64 0,.int .i64 0]) (by simp [results,Tryz.results172,go_sem] <;> go_simp) rfl ?_
  obtain ⟨e1,e2⟩:=ended HH.out rfl 6 (w1:=((w.alloc (.cells #[.int .i64 a.kind,.int .i64 a.n] 72)).alloc (.cells #[.int .i64 b.kind,.int .i64 b.n] 72)).alloc (.cells #[.int .i64 0,.int .i64 0] 72)) (by exact Rd.byB)
  exact ⟨⟨_,rfl,0,0,rfl⟩,e1.res2 (fresh_b HH.out (by omega)) _ _,kres2 e2 (by omega) _ _⟩
theorem rlongV (op a b:Int) (w:World) (ha:Ok a) (hb:Ok b) (r:Int) (g:Bool) (h:Num.long op a b=(r,g)):Calls Tryz.prog 197 #[.int .i64 op,.int .i64 a,.int .i64 b] w fun e w'=>e=.returned (.tuple #[.int .i64 r,.bool g])∧w=w':=by
 have:=NumW.rlong op a b w ha hb
 rw [h] at this;exact this
theorem rintV (op a b:Int) (w:World) (ha:Ok a) (hb:Ok b) (r:Int) (g:Bool) (h:Num.int op a b=(r,g)):Calls Tryz.prog 198 #[.int .i64 op,.int .i64 a,.int .i64 b] w fun e w'=>e=.returned (.tuple #[.int .i64 r,.bool g])∧w=w':=by
 have:=NumW.rint op a b w ha hb
 rw [h] at this;exact this
set_option maxRecDepth 100000 in
theorem reckonLongOk (H:RH E w L h d Sv.run) (a b:Vl) (kind op:Int) (hp:(a.kind==kind)=true) (hq:(b.kind==kind)=true) (hk:(kind==1)=false) (ha:Ok a.n) (hb:Ok b.n) (r:Int) (hr:Num.long op a.n b.n=(r,true)) :
  Calls Tryz.prog 172 #[.pointer (some ⟨E.hb,0,none⟩),.agg #[.int .i64 a.kind,.int .i64 a.n],.agg #[.int .i64 b.kind,.int .i64 b.n],.int .i64 kind,.int .i64 op] w (Keeps E L h d Sv.run w (.agg #[.int .i64 kind,.int .i64 r])):=by
 have HH:=Lib.hid H
 have hrr:=Lib.hid hr
 skip
 clear H hr
 go_enter Tryz.func172,Tryz.ntmps172
 go_wp2_with (first | (go_at_call 63;refine (mustT (HH.out.below (by exact Rd.byB)) rfl).mono ?_;rintro e w2 ⟨rfl,rfl⟩) | (go_at_call 197;refine (rlongV _ a.n b.n _ ha hb _ _ hrr.out).mono ?_;rintro e w2 ⟨rfl,rfl⟩))
 refine bodyPost_ret (v:=.agg #[.int .i64 kind,.int .i64 r]) (by simp [results,Tryz.results172,go_sem] <;> go_simp) rfl ?_
 exact ⟨rfl,HH.out.below (by exact Rd.byB),kpB (by exact Rd.byB)⟩
set_option maxRecDepth 100000 in
theorem reckonLongFull (H:RH E w L h d Sv.run) (a b:Vl) (kind op:Int) (hp:(a.kind==kind)=true) (hq:(b.kind==kind)=true) (hk:(kind==1)=false) (ha:Ok a.n) (hb:Ok b.n) (r:Int) (hr:Num.long op a.n b.n=(r,false)) (q:100≤h.objs.length) :
  Calls Tryz.prog 172 #[.pointer (some ⟨E.hb,0,none⟩),.agg #[.int .i64 a.kind,.int .i64 a.n],.agg #[.int .i64 b.kind,.int .i64 b.n],.int .i64 kind,.int .i64 op] w (Full E L h d 4 w IsV):=by
 have HH:=Lib.hid H
 have hrr:=Lib.hid hr
 skip
 clear H hr
 go_enter Tryz.func172,Tryz.ntmps172
 go_wp2_with (first | (go_at_call 63;refine (mustT (HH.out.below (by exact Rd.byB)) rfl).mono ?_;rintro e w2 ⟨rfl,rfl⟩) | (go_at_call 197;refine (rlongV _ a.n b.n _ ha hb _ _ hrr.out).mono ?_;rintro e w2 ⟨rfl,rfl⟩) | (go_at_call 170;refine (raiseFull (HH.out.below (by exact Rd.byB)) _ q).mono ?_;rintro e w2 ⟨⟨v,rfl,rfl⟩,H2,K2⟩;have r0':=K2.cell (c:=w.heap.size+1+1) (o:=0) (v:=.int .i64 0) (by go_simp) (fun hk=>(fresh_b HH.out (by omega)).2 hk);have r1':=K2.cell (c:=w.heap.size+1+1) (o:=1) (v:=.int .i64 0) (by go_simp) (fun hk=>(fresh_b HH.out (by omega)).2 hk);have f0':=K2.frz (c:=w.heap.size+1+1) (o:=0) (b:=false) (by go_simp) (by simp) (fun hk=>(fresh_b HH.out (by omega)).2 hk);have f1':=K2.frz (c:=w.heap.size+1+1) (o:=1) (b:=false) (by go_simp) (by simp) (fun hk=>(fresh_b HH.out (by omega)).2 hk);replace H2:=Lib.hid H2;replace K2:=Lib.hid K2))
 refine bodyPost_ret (v:=.agg #[.int .i64 kind,.int .i64 r]) (by simp [results,Tryz.results172,go_sem] <;> go_simp) rfl ?_
 exact ⟨⟨_,rfl,_,_,rfl⟩,H2.out.res2 (fresh_b HH.out (by omega)) _ _,kres2 ((kpB (by exact Rd.byB)).trans K2.out (fun _ hy=>.inl hy)) (by omega) _ _⟩
set_option maxRecDepth 100000 in
theorem reckonLongThr (H:RH E w L h d Sv.run) (hm:Hier.may E.f.classes=true) (a b:Vl) (kind op:Int) (hp:(a.kind==kind)=true) (hq:(b.kind==kind)=true) (hk:(kind==1)=false) (ha:Ok a.n) (hb:Ok b.n) (r:Int) (hr:Num.long op a.n b.n=(r,false)) (q:h.objs.length < 100) :
  Calls Tryz.prog 172 #[.pointer (some ⟨E.hb,0,none⟩),.agg #[.int .i64 a.kind,.int .i64 a.n],.agg #[.int .i64 b.kind,.int .i64 b.n],.int .i64 kind,.int .i64 op] w (Gives E L (more h ⟨2,fresh E.f.classes 2⟩) d (Sv.thr h.objs.length) w (.agg #[.int .i64 kind,.int .i64 r])):=by
 have HH:=Lib.hid H
 have hrr:=Lib.hid hr
 skip
 clear H hr
 go_enter Tryz.func172,Tryz.ntmps172
 go_wp2_with (first | (go_at_call 63;refine (mustT (HH.out.below (by exact Rd.byB)) rfl).mono ?_;rintro e w2 ⟨rfl,rfl⟩) | (go_at_call 197;refine (rlongV _ a.n b.n _ ha hb _ _ hrr.out).mono ?_;rintro e w2 ⟨rfl,rfl⟩) | (go_at_call 170;refine (raiseOk (HH.out.below (by exact Rd.byB)) hm _ q).mono ?_;rintro e w2 ⟨rfl,L2,H2,K2,N2⟩;replace N2:=Lib.hid N2;have r0':=K2.cell (c:=w.heap.size+1+1) (o:=0) (v:=.int .i64 0) (by go_simp) (fun hk=>(fresh_b HH.out (by omega)).2 hk);have r1':=K2.cell (c:=w.heap.size+1+1) (o:=1) (v:=.int .i64 0) (by go_simp) (fun hk=>(fresh_b HH.out (by omega)).2 hk);have f0':=K2.frz (c:=w.heap.size+1+1) (o:=0) (b:=false) (by go_simp) (by simp) (fun hk=>(fresh_b HH.out (by omega)).2 hk);have f1':=K2.frz (c:=w.heap.size+1+1) (o:=1) (b:=false) (by go_simp) (by simp) (fun hk=>(fresh_b HH.out (by omega)).2 hk);replace H2:=Lib.hid H2;replace K2:=Lib.hid K2))
 refine bodyPost_ret (v:=.agg #[.int .i64 kind,.int .i64 r]) (by simp [results,Tryz.results172,go_sem] <;> go_simp) rfl ?_
 exact ⟨rfl,L2,H2.out.res2 (mid_b HH.out N2.out (by omega) (by simp)) _ _,kres2 ((kpB (by exact Rd.byB)).trans K2.out (fun _ hy=>.inl hy)) (by omega) _ _,fun k hk=>(N2.out k hk).imp_right (fun h=>Nat.le_trans (by simp <;> omega) h)⟩
set_option maxRecDepth 100000 in
theorem reckonIntOk (H:RH E w L h d Sv.run) (a b:Vl) (kind op:Int) (hp:(a.kind==kind)=true) (hq:(b.kind==kind)=true) (hk:(kind==1)=true) (ha:Ok a.n) (hb:Ok b.n) (r:Int) (hr:Num.int op a.n b.n=(r,true)) :
  Calls Tryz.prog 172 #[.pointer (some ⟨E.hb,0,none⟩),.agg #[.int .i64 a.kind,.int .i64 a.n],.agg #[.int .i64 b.kind,.int .i64 b.n],.int .i64 kind,.int .i64 op] w (Keeps E L h d Sv.run w (.agg #[.int .i64 kind,.int .i64 r])):=by
 have HH:=Lib.hid H
 have hrr:=Lib.hid hr
 obtain ⟨r0,g0,hll⟩:∃ r0 g0,Hid (Num.long op a.n b.n=(r0,g0)):=⟨_,_,rfl⟩
 clear H hr
 go_enter Tryz.func172,Tryz.ntmps172
 go_wp2_with (first | (go_at_call 63;refine (mustT (HH.out.below (by exact Rd.byB)) rfl).mono ?_;rintro e w2 ⟨rfl,rfl⟩) | (go_at_call 197;refine (rlongV _ a.n b.n _ ha hb _ _ hll.out).mono ?_;rintro e w2 ⟨rfl,rfl⟩) | (go_at_call 198;refine (rintV _ a.n b.n _ ha hb _ _ hrr.out).mono ?_;rintro e w2 ⟨rfl,rfl⟩))
 refine bodyPost_ret (v:=.agg #[.int .i64 kind,.int .i64 r]) (by simp [results,Tryz.results172,go_sem] <;> go_simp) rfl ?_
 exact ⟨rfl,HH.out.below (by exact Rd.byB),kpB (by exact Rd.byB)⟩
set_option maxRecDepth 100000 in
theorem reckonIntFull (H:RH E w L h d Sv.run) (a b:Vl) (kind op:Int) (hp:(a.kind==kind)=true) (hq:(b.kind==kind)=true) (hk:(kind==1)=true) (ha:Ok a.n) (hb:Ok b.n) (r:Int) (hr:Num.int op a.n b.n=(r,false)) (q:100≤h.objs.length) :
  Calls Tryz.prog 172 #[.pointer (some ⟨E.hb,0,none⟩),.agg #[.int .i64 a.kind,.int .i64 a.n],.agg #[.int .i64 b.kind,.int .i64 b.n],.int .i64 kind,.int .i64 op] w (Full E L h d 4 w IsV):=by
 have HH:=Lib.hid H
 have hrr:=Lib.hid hr
 obtain ⟨r0,g0,hll⟩:∃ r0 g0,Hid (Num.long op a.n b.n=(r0,g0)):=⟨_,_,rfl⟩
 clear H hr
 go_enter Tryz.func172,Tryz.ntmps172
 go_wp2_with (first | (go_at_call 63;refine (mustT (HH.out.below (by exact Rd.byB)) rfl).mono ?_;rintro e w2 ⟨rfl,rfl⟩) | (go_at_call 197;refine (rlongV _ a.n b.n _ ha hb _ _ hll.out).mono ?_;rintro e w2 ⟨rfl,rfl⟩) | (go_at_call 198;refine (rintV _ a.n b.n _ ha hb _ _ hrr.out).mono ?_;rintro e w2 ⟨rfl,rfl⟩) | (go_at_call 170;refine (raiseFull (HH.out.below (by exact Rd.byB)) _ q).mono ?_;rintro e w2 ⟨⟨v,rfl,rfl⟩,H2,K2⟩;have r0':=K2.cell (c:=w.heap.size+1+1) (o:=0) (v:=.int .i64 0) (by go_simp) (fun hk=>(fresh_b HH.out (by omega)).2 hk);have r1':=K2.cell (c:=w.heap.size+1+1) (o:=1) (v:=.int .i64 0) (by go_simp) (fun hk=>(fresh_b HH.out (by omega)).2 hk);have f0':=K2.frz (c:=w.heap.size+1+1) (o:=0) (b:=false) (by go_simp) (by simp) (fun hk=>(fresh_b HH.out (by omega)).2 hk);have f1':=K2.frz (c:=w.heap.size+1+1) (o:=1) (b:=false) (by go_simp) (by simp) (fun hk=>(fresh_b HH.out (by omega)).2 hk);replace H2:=Lib.hid H2;replace K2:=Lib.hid K2))
 refine bodyPost_ret (v:=.agg #[.int .i64 kind,.int .i64 r]) (by simp [results,Tryz.results172,go_sem] <;> go_simp) rfl ?_
 exact ⟨⟨_,rfl,_,_,rfl⟩,H2.out.res2 (fresh_b HH.out (by omega)) _ _,kres2 ((kpB (by exact Rd.byB)).trans K2.out (fun _ hy=>.inl hy)) (by omega) _ _⟩
set_option maxRecDepth 100000 in
theorem reckonIntThr (H:RH E w L h d Sv.run) (hm:Hier.may E.f.classes=true) (a b:Vl) (kind op:Int) (hp:(a.kind==kind)=true) (hq:(b.kind==kind)=true) (hk:(kind==1)=true) (ha:Ok a.n) (hb:Ok b.n) (r:Int) (hr:Num.int op a.n b.n=(r,false)) (q:h.objs.length < 100) :
  Calls Tryz.prog 172 #[.pointer (some ⟨E.hb,0,none⟩),.agg #[.int .i64 a.kind,.int .i64 a.n],.agg #[.int .i64 b.kind,.int .i64 b.n],.int .i64 kind,.int .i64 op] w (Gives E L (more h ⟨2,fresh E.f.classes 2⟩) d (Sv.thr h.objs.length) w (.agg #[.int .i64 kind,.int .i64 r])):=by
 have HH:=Lib.hid H
 have hrr:=Lib.hid hr
 obtain ⟨r0,g0,hll⟩:∃ r0 g0,Hid (Num.long op a.n b.n=(r0,g0)):=⟨_,_,rfl⟩
 clear H hr
 go_enter Tryz.func172,Tryz.ntmps172
 go_wp2_with (first | (go_at_call 63;refine (mustT (HH.out.below (by exact Rd.byB)) rfl).mono ?_;rintro e w2 ⟨rfl,rfl⟩) | (go_at_call 197;refine (rlongV _ a.n b.n _ ha hb _ _ hll.out).mono ?_;rintro e w2 ⟨rfl,rfl⟩) | (go_at_call 198;refine (rintV _ a.n b.n _ ha hb _ _ hrr.out).mono ?_;rintro e w2 ⟨rfl,rfl⟩) | (go_at_call 170;refine (raiseOk (HH.out.below (by exact Rd.byB)) hm _ q).mono ?_;rintro e w2 ⟨rfl,L2,H2,K2,N2⟩;replace N2:=Lib.hid N2;have r0':=K2.cell (c:=w.heap.size+1+1) (o:=0) (v:=.int .i64 0) (by go_simp) (fun hk=>(fresh_b HH.out (by omega)).2 hk);have r1':=K2.cell (c:=w.heap.size+1+1) (o:=1) (v:=.int .i64 0) (by go_simp) (fun hk=>(fresh_b HH.out (by omega)).2 hk);have f0':=K2.frz (c:=w.heap.size+1+1) (o:=0) (b:=false) (by go_simp) (by simp) (fun hk=>(fresh_b HH.out (by omega)).2 hk);have f1':=K2.frz (c:=w.heap.size+1+1) (o:=1) (b:=false) (by go_simp) (by simp) (fun hk=>(fresh_b HH.out (by omega)).2 hk);replace H2:=Lib.hid H2;replace K2:=Lib.hid K2))
 refine bodyPost_ret (v:=.agg #[.int .i64 kind,.int .i64 r]) (by simp [results,Tryz.results172,go_sem] <;> go_simp) rfl ?_
 exact ⟨rfl,L2,H2.out.res2 (mid_b HH.out N2.out (by omega) (by simp)) _ _,kres2 ((kpB (by exact Rd.byB)).trans K2.out (fun _ hy=>.inl hy)) (by omega) _ _,fun k hk=>(N2.out k hk).imp_right (fun h=>Nat.le_trans (by simp <;> omega) h)⟩
end
end Rhw
namespace Rhw
open Num Rd D Run Mem HierW Hpw
section
variable {E:Ev}{w w':World}{L L':RL}{h h':Hp}{d:Nat}{s:Sv}
set_option maxRecDepth 100000 in
theorem isNull (H:RH E w L h d Sv.run) (v:Vl) (c:Int) (q:v.kind=3) (hn:v.n < 0) :
  Calls Tryz.prog 176 #[.pointer (some ⟨E.hb,0,none⟩),.agg #[.int .i64 v.kind,.int .i64 v.n],.int .i64 c] w (Keeps E L h d Sv.run w (.agg #[.int .i64 1,.int .i64 0])):=by
 have HH:=Lib.hid H
 obtain ⟨kd,n⟩:=v
 simp only at q hn
 subst q
 have hd:decide (0≤n)=false:=by simp;omega
 clear H
 go_enter Tryz.func176,Tryz.ntmps176
 go_wp2
 go_quiet ((go_at_call 63;exact quiet_eq (mustT (HH.out.below (below_drewN (by exact Rd.byB) _)) rfl)))
 go_wp2
 refine bodyPost_ret (v:=.agg #[.int .i64 1,.int .i64 0]) (by simp [results,Tryz.results176,go_sem] <;> go_simp) rfl ?_
 exact ⟨rfl,(HH.out.below (below_drewN (by exact Rd.byB) nq)).res2 (b:=w.heap.size+1) (fresh_b HH.out (by omega)) _ _,kres2 (b:=w.heap.size+1) (kpB (below_drewN (by exact Rd.byB) nq)) (by omega) _ _⟩
set_option maxRecDepth 100000 in
theorem isOf (H:RH E w L h d Sv.run) (hm:Hier.may E.f.classes=true) (v:Vl) (c:Int) (q:v.kind=3) (h0:0≤v.n) (h1:v.n < h.objs.length) (p:Bool) (hp:Hier.is E.f.classes (obj h v.n).cls c=p) :
  Calls Tryz.prog 176 #[.pointer (some ⟨E.hb,0,none⟩),.agg #[.int .i64 v.kind,.int .i64 v.n],.int .i64 c] w (Keeps E L h d Sv.run w (.agg #[.int .i64 1,.int .i64 (if p then 1 else 0)])):=by
 have HH:=Lib.hid H
 obtain ⟨kd,n⟩:=v
 simp only at q h0 h1 hp
 subst q
 have hd:decide (0≤n)=true:=by simpa using h0
 have hhb:=H.rows.base.2
 obtain ⟨g,cap,hvb,c1,c2,hg,hgne,o1,_⟩:=H.ob h0 h1
 obtain ⟨ca,ccap,hvc,HC⟩:=H.cls
 have b0:=H.c0
 have b2:=H.c2
 rw [hvb] at b2
 rw [hvc] at b0 HC
 replace HC:=Lib.hid HC
 have hwf:=Lib.hid (Hier.wf_of_may hm)
 replace hp:=Lib.hid hp
 clear H hvb hvc
 cases p
 ·go_enter Tryz.func176,Tryz.ntmps176
  go_wp2
  go_quiet ((first | (go_at_call 63;exact quiet_eq (mustT (HH.out.below (below_drewN (by exact Rd.byB) _)) rfl)) | (go_at_call 114;exact quiet_eq (rbelowV _ E.f.classes _ c _ _ hp.out (HC.out.next (below_drewN (by exact Rd.byB) _)) hwf.out))))
  go_wp2
  refine bodyPost_ret (v:=.agg #[.int .i64 1,.int .i64 0]) (by simp [results,Tryz.results176,go_sem] <;> go_simp) rfl ?_
  exact ⟨rfl,(HH.out.below (below_drewN (by exact Rd.byB) nq)).res2 (b:=w.heap.size+1) (fresh_b HH.out (by omega)) _ _,kres2 (b:=w.heap.size+1) (kpB (below_drewN (by exact Rd.byB) nq)) (by omega) _ _⟩
 ·go_enter Tryz.func176,Tryz.ntmps176
  go_wp2
  go_quiet ((first | (go_at_call 63;exact quiet_eq (mustT (HH.out.below (below_drewN (by exact Rd.byB) _)) rfl)) | (go_at_call 114;exact quiet_eq (rbelowV _ E.f.classes _ c _ _ hp.out (HC.out.next (below_drewN (by exact Rd.byB) _)) hwf.out))))
  go_wp2
  refine bodyPost_ret (v:=.agg #[.int .i64 1,.int .i64 1]) (by simp [results,Tryz.results176,go_sem] <;> go_simp) rfl ?_
  exact ⟨rfl,(HH.out.below (below_drewN (by exact Rd.byB) nq)).res2 (b:=w.heap.size+1) (fresh_b HH.out (by omega)) _ _,kres2 (b:=w.heap.size+1) (kpB (below_drewN (by exact Rd.byB) nq)) (by omega) _ _⟩
set_option maxRecDepth 100000 in
theorem isStuck (H:RH E w L h d Sv.run) (v:Vl) (c:Int) (q:v.kind≠3) :
  Calls Tryz.prog 176 #[.pointer (some ⟨E.hb,0,none⟩),.agg #[.int .i64 v.kind,.int .i64 v.n],.int .i64 c] w (Full E L h d 6 w IsV):=by
 have HH:=Lib.hid H
 have qb:(v.kind==3)=false:=by simpa using q
 have hhb:=H.rows.base.2
 clear H q
 go_enter Tryz.func176,Tryz.ntmps176
 go_wp2
 refine Drawn.hd (fun w'=>w'.cell? ⟨w.heap.size,0,none⟩=some (.int .i64 v.kind)) (h:=fun hHeld=>?_)
 refine Drawn.T 0 (some 8) (h:=?_)
 refine Drawn.T 1 (some 9) (h:=?_)
 refine Drawn.T 2 (some 10) (h:=?_)
 refine Drawn.T 3 (some 11) (h:=?_)
 refine Drawn.cl 4 (fun K hK=>?_)
 go_simp
 go_at_call 63
 refine (mustF (HH.out.below (by exact Rd.byB)) rfl).mono ?_
 rintro e w2 ⟨rfl,rfl⟩
 go_wp2_with fail
 refine Drawn.bk hK (h:=fun hHeld=>?_)
 clear hK K
 refine Drawn.T 5 (some 13) (h:=?_)
 refine Drawn.ps 6 (some 14) rfl rfl (by assumption) ?_
 try simp only [Act.put,Drawn.La,Drawn.Lb,Drawn.Lc]
 refine Drawn.ps 7 (some 15) rfl rfl (by assumption) ?_
 try simp only [Act.put,Drawn.La,Drawn.Lb,Drawn.Lc]
 refine Drawn.ps 8 (some 16) rfl rfl (by assumption) ?_
 try simp only [Act.put,Drawn.La,Drawn.Lb,Drawn.Lc]
 refine Drawn.T 9 (some 17) (h:=?_)
 refine Drawn.T 10 (some 18) (h:=?_)
 refine Drawn.ps 11 (some 19) rfl rfl (by assumption) ?_
 try simp only [Act.put,Drawn.La,Drawn.Lb,Drawn.Lc]
 refine Drawn.ps 12 (some 20) rfl rfl (by assumption) ?_
 try simp only [Act.put,Drawn.La,Drawn.Lb,Drawn.Lc]
 refine Drawn.ps 13 (some 21) rfl rfl (by assumption) ?_
 try simp only [Act.put,Drawn.La,Drawn.Lb,Drawn.Lc]
 refine Drawn.ps 14 (some 22) rfl rfl (by assumption) ?_
 try simp only [Act.put,Drawn.La,Drawn.Lb,Drawn.Lc]
 refine Drawn.ps 15 (some 23) rfl rfl (by assumption) ?_
 try simp only [Act.put,Drawn.La,Drawn.Lb,Drawn.Lc]
 refine Drawn.ps 16 (some 24) rfl rfl (by assumption) ?_
 try simp only [Act.put,Drawn.La,Drawn.Lb,Drawn.Lc]
 refine Drawn.ps 17 (some 25) rfl rfl (by assumption) ?_
 try simp only [Act.put,Drawn.La,Drawn.Lb,Drawn.Lc]
 refine Drawn.ps 18 (some 26) rfl rfl (by assumption) ?_
 try simp only [Act.put,Drawn.La,Drawn.Lb,Drawn.Lc]
 refine Drawn.ps 19 (some 27) rfl rfl (by assumption) ?_
 try simp only [Act.put,Drawn.La,Drawn.Lb,Drawn.Lc]
 refine Drawn.ps 20 (some 28) rfl rfl (by assumption) ?_
 try simp only [Act.put,Drawn.La,Drawn.Lb,Drawn.Lc]
 refine Drawn.ps 21 (some 29) rfl rfl (by assumption) ?_
 try simp only [Act.put,Drawn.La,Drawn.Lb,Drawn.Lc]
 refine Drawn.ps 22 (some 30) rfl rfl (by assumption) ?_
 try simp only [Act.put,Drawn.La,Drawn.Lb,Drawn.Lc]
 refine Drawn.ps 23 (some 31) rfl rfl (by assumption) ?_
 try simp only [Act.put,Drawn.La,Drawn.Lb,Drawn.Lc]
 refine Drawn.ps 24 (some 32) rfl rfl (by assumption) ?_
 try simp only [Act.put,Drawn.La,Drawn.Lb,Drawn.Lc]
 refine Drawn.ps 25 (some 33) rfl rfl (by assumption) ?_
 try simp only [Act.put,Drawn.La,Drawn.Lb,Drawn.Lc]
 refine Drawn.ps 26 (some 34) rfl rfl (by assumption) ?_
 try simp only [Act.put,Drawn.La,Drawn.Lb,Drawn.Lc]
 refine Drawn.T 27 (some 35) (h:=?_)
 refine wpAnyH_done (by kernel_rfl) ?_ _
 go_wp2
 refine bodyPost_ret (v:=.agg #[.int .i64 1,.int .i64 0]) (by simp [results,Tryz.results176,go_sem] <;> go_simp) rfl ?_
 have ee:=ended HH.out rfl 6 (Below.refl w.heap.size w)
 exact ⟨⟨_,rfl,1,0,rfl⟩,ee.1.below (by exact Rd.byB),kb ee.2 (by exact Rd.byB)⟩
set_option maxRecDepth 100000 in
theorem inEnd (H:RH E w L h d Sv.run) (q:E.input.length≤h.used) :
  Calls Tryz.prog 177 #[.pointer (some ⟨E.hb,0,none⟩)] w (Full E L h d 3 w IsV):=by
 have HH:=Lib.hid H
 have hhb:=H.rows.base.2
 obtain ⟨ca,ccap,hvi,c1,c2,_⟩:=id H.rows.inp
 have b3:=H.c3
 have b10:=H.c10
 rw [hvi] at b3
 have hd:decide ((h.used:Int)≥(E.input.length:Int))=true:=by simp;omega
 clear H hvi
 go_enter Tryz.func177,Tryz.ntmps177
 go_wp2
 go_quiet (fail)
 go_wp2_with (go_at_call 112;refine (endR (HH.out.below (below_drewN (by exact Rd.byB) _)) rfl _).mono ?_;rintro e w1 ⟨rfl,rfl⟩)
 refine bodyPost_ret (v:=.agg #[.int .i64 0,.int .i64 0]) (by simp [results,Tryz.results177,go_sem] <;> go_simp) rfl ?_
 have ee:=ended HH.out rfl 3 (below_drewN (w:=w.alloc (.cells #[.int .i64 0,.int .i64 0] 72)) (by exact Rd.byB) nq)
 exact ⟨⟨_,rfl,0,0,rfl⟩,ee.1.res2 (b:=w.heap.size) (fresh_b HH.out (by omega)) _ _,kres2 (b:=w.heap.size) ee.2 (by omega) _ _⟩
set_option maxRecDepth 100000 in
theorem inOk (H:RH E w L h d Sv.run) (q:h.used < E.input.length) (x:Int) (hx:E.input.getD h.used 0=x) (h63:E.input.length≤1000) :
  Calls Tryz.prog 177 #[.pointer (some ⟨E.hb,0,none⟩)] w (Keeps E L { h with used:=h.used+1 } d Sv.run w (.agg #[.int .i64 2,.int .i64 x])):=by
 have HH:=Lib.hid H
 have hhb:=H.rows.base.2
 obtain ⟨ca,ccap,hvi,c1,c2,hel⟩:=id H.rows.inp
 obtain ⟨b,o,rfl,hb,he,_⟩:=hel h.used q
 have b3:=H.c3
 have b10:=H.c10
 have f10:=H.fz 10 (by decide)
 rw [hvi] at b3
 have hxx:E.input[h.used]=x:=by rw [← hx,List.getD_eq_getElem?_getD,List.getElem?_eq_getElem q];rfl
 rw [hxx,Nat.mul_one] at he
 have hbw:b < w.heap.size:=by have:=H.rows.base;omega
 have hd:decide ((h.used:Int)≥(E.input.length:Int))=false:=by simp;omega
 have hi:(h.used:Int) < E.input.length:=by omega
 clear H hvi hel hx hxx
 go_enter Tryz.func177,Tryz.ntmps177
 go_wp2
 go_quiet (fail)
 obtain ⟨nq0,rfl⟩:∃ k:Nat,k=nq:=⟨_,rfl⟩
 go_wp2
 go_quiet (fail)
 go_wp2
 refine bodyPost_ret (v:=.agg #[.int .i64 2,.int .i64 x]) (by simp [results,Tryz.results177,go_sem] <;> go_simp) rfl ?_
 have ee:RH E _ L { h with used:=h.used+1 } d Sv.run:=RH.set (HH.out.below (below_drewN (w:=w.alloc (.cells #[.int .i64 0,.int .i64 0] 72)) (by exact Rd.byB) (nq0+nq))) 10 (by decide) (.int .i64 (h.used+1)) rfl rfl (by simp [cellsR])
 exact ⟨rfl,ee.res2 (b:=w.heap.size) (fresh_b HH.out (by omega)) _ _,kres2 (b:=w.heap.size) ((kpB (below_drewN (by exact Rd.byB) _)).setCell (p:=⟨E.hb,10,none⟩) (.inl (.inl rfl)) _) (by omega) _ _⟩
end
end Rhw
namespace Rhw
open Num Rd D Run Mem HierW Hpw
theorem info_int64:(Tryz.prog.info? 2).map (fun i=>(i.zero,i.size,i.bytes))=some (some (.int .i64 0),1,8):=by kernel_rfl
theorem nodup_out {hb:Nat}{a a' b:List Nat}(h:(hb :: (a++b)).Nodup) (ha:a'.Nodup) (h1:∀ x∈a',x∈a∨(x≠hb∧x∉b)):(hb :: (a'++b)).Nodup:=by
 simp only [List.nodup_cons,List.nodup_append,List.mem_append,not_or] at h ⊢
 obtain ⟨⟨n1,n2⟩,na,nb,nab⟩:=h
 refine ⟨⟨fun hm=>?_,n2⟩,ha,nb,fun x hx y hy e=>?_⟩
 ·rcases h1 _ hm with q | q
  ·exact n1 q
  ·exact q.1 rfl
 ·subst e
  rcases h1 _ hx with q | q
  ·exact nab _ q _ hy rfl
  ·exact q.2 hy
section
variable {E:Ev}{w w' wr W w2:World}{L L':RL}{h h':Hp}{d:Nat}{s:Sv}
def outed (h:Hp) (n:Int):Hp:={ h with out:=h.out++[n] }
theorem grow_out (H:RH E w L h d s) (hW:Below w.heap.size w W){g cap:Nat}{n:Int}
  (ho:w2.ownsRow E.B 2 1 (.slice (some ⟨g,0,none⟩) (h.out.length+1) cap) (h.out.length+1) (h.out.map (.int .i64 ·)++[.int .i64 n])) (hg:W.grownBy w2 L.vo.ownBlock) (hat:L.vo.ownBlock=some g∨g=W.heap.size) :
  RH E (w2.setCell ⟨E.hb,9,none⟩ (.slice (some ⟨g,0,none⟩) (h.out.length+1) cap)) ⟨.slice (some ⟨g,0,none⟩) (h.out.length+1) cap,L.vb,L.hvs⟩ (outed h n) d s ∧
  Kp (own E L) w (w2.setCell ⟨E.hb,9,none⟩ (.slice (some ⟨g,0,none⟩) (h.out.length+1) cap)) ∧
  ∀ k,own E ⟨.slice (some ⟨g,0,none⟩) (h.out.length+1) cap,L.vb,L.hvs⟩ k→own E L k∨w.heap.size≤k:=by
 have HW:=H.below hW
 have hsz:=hW.size
 have hnd:=H.rows.nodup
 unfold Rhw.rows at hnd
 have hvo:∀ k,L.vo.ownBlock=some k→own E L k:=fun k e=>.inr (mem_rows.2 (.inl e))
 have hK:Kp (fun k=>L.vo.ownBlock=some k) W w2:=Kp.of_grown hg (fun k e=>e)
 have apart:∀ k,(L.vo.ownBlock=some k)→k≠E.hb∧L.vb.ownBlock≠some k∧∀ v∈L.hvs,v.ownBlock≠some k:=by
  intro k e
  obtain ⟨n1,n2⟩:=List.nodup_cons.1 hnd
  refine ⟨fun q=>n1 (List.mem_append.2 (.inl (mem_own.2 (by rw [e,q])))),fun q=>?_,fun v hv q=>?_⟩
  ·exact (List.nodup_append.1 n2).2.2 k (mem_own.2 e) k (List.mem_append.2 (.inl (mem_own.2 q))) rfl
  ·exact (List.nodup_append.1 n2).2.2 k (mem_own.2 e) k (List.mem_append.2 (.inr (List.mem_flatMap.2 ⟨v,hv,mem_own.2 q⟩))) rfl
 have gap:g≠E.hb∧L.vb.ownBlock≠some g∧∀ v∈L.hvs,v.ownBlock≠some g:=by
  rcases hat with e | e
  ·exact apart g e
  ·refine ⟨by have:=H.rows.base.2;omega,fun q=>?_,fun v hv q=>?_⟩
   ·have:=(H.rows.lo (mem_rows.2 (.inr (.inl q)))).2;omega
   ·have:=(H.rows.lo (mem_rows.2 (.inr (.inr ⟨v,hv,q⟩)))).2;omega
 have hcell:Kp (fun k=>k=E.hb) w2 (w2.setCell ⟨E.hb,9,none⟩ (.slice (some ⟨g,0,none⟩) (h.out.length+1) cap)):=Kp.setCell (Kp.refl (fun k=>k=E.hb) w2) (p:=⟨E.hb,9,none⟩) (.inl rfl) _
 have hKK:Kp (own E L) w (w2.setCell ⟨E.hb,9,none⟩ (.slice (some ⟨g,0,none⟩) (h.out.length+1) cap)) :=
  ((kpB hW:Kp (own E L) w W).trans hK (fun y hy=>.inl (hvo y hy))).trans hcell (fun y hy=>.inl (.inl hy))
 have hb0:E.B≤w.heap.size:=by have:=H.rows.base;omega
 refine ⟨⟨⟨hKK.sl mCls H.rows.cls hb0 (fun k hk=>(own_lo H.rows hk).1),hKK.sl mMe H.rows.mes hb0 (fun k hk=>(own_lo H.rows hk).1),hKK.sl mInt H.rows.inp hb0 (fun k hk=>(own_lo H.rows hk).1),?_,?_,H.rows.many,fun i hi=>?_,⟨H.rows.base.1,Nat.lt_of_lt_of_le H.rows.base.2 hKK.size⟩,?_⟩,?_⟩,hKK,fun k hk=>?_⟩
 ·unfold outed
  simp only [List.length_append,List.length_cons,List.length_nil,List.map_append,List.map_cons,List.map_nil]
  exact ownsRow_setCell_other ho (by simp [Value.ownBlock];exact gap.1) _
 ·exact row_keep (row_keep HW.rows.objs hK (fun k e e'=>(apart k e').2.1 e)) hcell (fun k e e'=>by subst e';exact H.rows.hb (mem_rows.2 (.inr (.inl e))))
 ·exact row_keep (row_keep (HW.rows.held i hi) hK (fun k e e'=>(apart k e').2.2 _ (List.getElem_mem hi) e)) hcell (fun k e e'=>by subst e';exact H.rows.hb (mem_rows.2 (.inr (.inr ⟨_,List.getElem_mem hi,e⟩))))
 ·unfold Rhw.rows
  refine nodup_out hnd (ownB_nodup _) (fun x hx=>?_)
  have:x=g:=by simpa [Value.ownBlock] using hx
  subst this
  rcases hat with e | e
  ·exact .inl (mem_own.2 e)
  ·refine .inr ⟨gap.1,fun q=>?_⟩
   rcases List.mem_append.1 q with q | q
   ·exact gap.2.1 (mem_own.1 q)
   ·obtain ⟨v,hv,q⟩:=List.mem_flatMap.1 q
    exact gap.2.2 v hv (mem_own.1 q)
 ·have c1:Blk w2 E.hb (cellsR E L h d s):=HW.cells.next hK (fun e=>(apart _ e).1 rfl)
  exact c1.set 9 (by simp [cellsR]) _
 ·rcases hk with e | e
  ·exact .inl (.inl e)
  ·rcases mem_rows.1 e with e | e | ⟨v,hv',e3⟩
   ·have:k=g:=by simpa [Value.ownBlock,eq_comm] using e
    subst this
    rcases hat with e | e
    ·exact .inl (hvo _ e)
    ·right;omega
   ·exact .inl (.inr (mem_rows.2 (.inr (.inl e))))
   ·exact .inl (.inr (mem_rows.2 (.inr (.inr ⟨v,hv',e3⟩))))
theorem out_mid (H:RH E w L h d s) (hW:Below w.heap.size w W) (hg:W.grownBy w2 L.vo.ownBlock):Blk w2 E.hb (cellsR E L h d s) :=
 (H.below hW).cells.next (Kp.of_grown (X:=fun k=>L.vo.ownBlock=some k) hg (fun k e=>e)) (fun e=>H.rows.hb (mem_rows.2 (.inl e)))
theorem emitStuck (H:RH E w L h d Sv.run) (v:Vl) (kind:Int) (q:v.kind≠kind) :
  Calls Tryz.prog 118 #[.pointer (some ⟨E.hb,0,none⟩),.agg #[.int .i64 v.kind,.int .i64 v.n],.int .i64 kind] w (Keeps E L h d (Sv.ends 6) w (.tuple #[])):=by
 have HH:=Lib.hid H
 have qb:(v.kind==kind)=false:=by simpa using q
 clear H
 go_enter Tryz.func118,Tryz.ntmps118
 go_wp2_with (go_at_call 63;refine (mustF (HH.out.below (by exact Rd.byB)) rfl).mono ?_;rintro e w2 ⟨rfl,rfl⟩)
 go_end0
 exact ⟨rfl,ended HH.out rfl 6 (by exact Rd.byB)⟩
set_option maxRecDepth 100000 in
theorem emitOk (H:RH E w L h d Sv.run) (v:Vl) (kind:Int) (q:v.kind=kind) (hlen:h.out.length≤60000) :
  Calls Tryz.prog 118 #[.pointer (some ⟨E.hb,0,none⟩),.agg #[.int .i64 v.kind,.int .i64 v.n],.int .i64 kind] w (Gives E L (outed h v.n) d Sv.run w (.tuple #[])):=by
 obtain ⟨io,hi',hy0,hy1,hy2⟩:=info_parts info_int64
 have HH:=Lib.hid H
 have hhb:=H.rows.base.2
 have hB2:E.B≤w.heap.size:=by have:=H.rows.base;omega
 have c9:=H.c9
 obtain ⟨ba,bcap,hvo⟩:=row_any H.rows.out
 have ho2:Hid (w.ownsRow E.B 2 1 (.slice ba h.out.length bcap) h.out.length (h.out.map (.int .i64 ·))):=by
  show World.ownsRow _ _ _ _ _ _ _
  rw [← hvo];exact H.rows.out
 rw [hvo] at c9
 obtain ⟨kd,n⟩:=v
 simp only at q
 subst q
 have f9:=H.fz 9 (by decide)
 clear H
 go_enter Tryz.func118,Tryz.ntmps118
 go_wp2_with (go_at_call 63;refine (mustT (HH.out.below (by exact Rd.byB)) rfl).mono ?_;rintro e w2 ⟨rfl,rfl⟩)
 go_region_law ((refine step_append_lies _ rfl (.tmp 17) (.tmp 20) 26 rfl E.B 2 io (.int .i64 0) 1 8 Tryz.underlying26 hi' hy0 hy1 hy2 rfl (by decide) (.slice ba h.out.length bcap) h.out.length (h.out.map (.int .i64 ·)) (by simp [Act.eval,Act.put]) (by exact row_drew ((ho2.out.alloc _).alloc _)) ⟨w.heap.size+1,0,none⟩ 1 1 [.int .i64 n] (by simp [Act.eval,Act.put]) rfl (by exact news_of (by simp)) (by simp [Value.oneCell']) (by decide) (by unfold maxLen;omega) (by omega) (by simp;omega) _ rfl ?_;intro g2 cap2 w3 hown3 hgrow3 hat3 hlt3;rw [← hvo] at hgrow3 hat3;have OB:=out_mid HH.out (by exact Rd.byB) hgrow3;have q1:w3.cell? ⟨E.hb,9,none⟩=some (.slice ba h.out.length bcap):=(by rw [← hvo];exact (OB 9 (by simp [cellsR])).1);have q2:w3.frozen? ⟨E.hb,9,none⟩=false:=(OB 9 (by simp [cellsR])).2;have HA:=Lib.hid (grow_out HH.out (by exact Rd.byB) hown3 hgrow3 (by simpa using hat3));clear hown3 hgrow3 hat3 OB))
 all_goals
  go_end0
  obtain ⟨A1,A2,A3⟩:=HA.out
  exact ⟨rfl,_,A1,A2,A3⟩
end
end Rhw
namespace Rhw
open Num Rd D Run Mem HierW Hpw
section
variable {E:Ev}{w w':World}{L L':RL}{h h':Hp}{d:Nat}{s:Sv}
def RL2 (E:Ev) (L:RL) (d:Nat) (w w':World) (h':Hp) (s:Sv):Prop:=∃ L',Kp (own E L) w w'∧(∀ k,own E L' k→own E L k∨w.heap.size≤k)∧RH E w' L' h' d s
def RRv (E:Ev) (L:RL) (d:Nat) (w:World) (r:Res Vl) (e:Ending) (w':World):Prop :=
 ∃ k n:Int,e=.returned (.agg #[.int .i64 k,.int .i64 n])∧match r with
  | .ok a h'=>(k=a.kind∧n=a.n)∧RL2 E L d w w' h' Sv.run
  | .thrown o h'=>RL2 E L d w w' h' (Sv.thr o)
  | .stop c h'=>RL2 E L d w w' h' (Sv.ends c)
def RRu (E:Ev) (L:RL) (d:Nat) (w:World) (r:Res Unit) (e:Ending) (w':World):Prop :=
 e=.returned (.tuple #[])∧match r with
  | .ok a h'=>RL2 E L d w w' h' Sv.run
  | .thrown o h'=>RL2 E L d w w' h' (Sv.thr o)
  | .stop c h'=>RL2 E L d w w' h' (Sv.ends c)
theorem full_v {c:Int}{r:Res Vl}(hr:r=.stop c h){e:Ending}(H:Full E L h d c w IsV e w'):RRv E L d w r e w':=by
 subst hr
 obtain ⟨⟨v,he,k,n,rfl⟩,H,K⟩:=H
 exact ⟨k,n,he,L,K,same_own,H⟩
theorem gives_v {a:Vl}{k n:Int}{r:Res Vl}(hr:r=.ok a h') (hk:k=a.kind) (hn:n=a.n){e:Ending}(H:Gives E L h' d Sv.run w (.agg #[.int .i64 k,.int .i64 n]) e w'):RRv E L d w r e w':=by
 subst hr
 obtain ⟨he,L',H,K,N⟩:=H
 exact ⟨k,n,he,⟨hk,hn⟩,L',K,N,H⟩
theorem thr_v {o:Nat}{k n:Int}{r:Res Vl}(hr:r=.thrown o h'){e:Ending}(H:Gives E L h' d (Sv.thr o) w (.agg #[.int .i64 k,.int .i64 n]) e w'):RRv E L d w r e w':=by
 subst hr
 obtain ⟨he,L',H,K,N⟩:=H
 exact ⟨k,n,he,L',K,N,H⟩
theorem stop_u {c:Int}{r:Res Unit}(hr:r=.stop c h'){e:Ending}(H:Keeps E L h' d (Sv.ends c) w (.tuple #[]) e w'):RRu E L d w r e w':=by
 subst hr
 exact ⟨H.1,L,H.2.2,same_own,H.2.1⟩
theorem ok_u {r:Res Unit}(hr:r=.ok () h'){e:Ending}(H:Gives E L h' d Sv.run w (.tuple #[]) e w'):RRu E L d w r e w':=by
 subst hr
 obtain ⟨he,L',H,K,N⟩:=H
 exact ⟨he,L',K,N,H⟩
theorem thr_u {o:Nat}{r:Res Unit}(hr:r=.thrown o h'){e:Ending}(H:Gives E L h' d (Sv.thr o) w (.tuple #[]) e w'):RRu E L d w r e w':=by
 subst hr
 obtain ⟨he,L',H,K,N⟩:=H
 exact ⟨he,L',K,N,H⟩
theorem new_full (l:List Cls) (c:Int) (h:Hp) (q:100≤h.objs.length):new l c h=.stop 4 h:=by unfold new;rw [if_pos q]
theorem new_ok' (l:List Cls) (c:Int) (h:Hp) (q:¬ 100≤h.objs.length):new l c h=.ok ⟨3,h.objs.length⟩ (more h ⟨c,fresh l c⟩):=by unfold new;rw [if_neg q];rfl
theorem raise_full {α:Type}(l:List Cls) (c:Int) (h:Hp) (q:100≤h.objs.length):(raise l c h:Res α)=.stop 4 h:=by unfold raise;rw [new_full l c h q];rfl
theorem raise_ok' {α:Type}(l:List Cls) (c:Int) (h:Hp) (q:¬ 100≤h.objs.length):(raise l c h:Res α)=.thrown h.objs.length (more h ⟨c,fresh l c⟩):=by
 unfold raise;rw [new_ok' l c h q];simp [Res.bind]
theorem newR (H:RH E w L h d Sv.run) (hm:Hier.may E.f.classes=true) (c:Int) :
  Calls Tryz.prog 174 #[.pointer (some ⟨E.hb,0,none⟩),.int .i64 c] w (RRv E L d w (Run.new E.f.classes c h)):=by
 by_cases q:100≤h.objs.length
 ·exact (newFull H c q).mono fun _ _ R=>full_v (new_full _ _ _ q) R
 ·exact (newOk H hm c (by omega)).mono fun _ _ R=>gives_v (new_ok' _ _ _ q) rfl rfl R
theorem getR (H:RH E w L h d Sv.run) (hm:Hier.may E.f.classes=true) (HO:HpOk E.f.classes E.input E.fuel h) (v:Vl) (hv:VlOk h.objs.length v) (c k:Int) :
  Calls Tryz.prog 175 #[.pointer (some ⟨E.hb,0,none⟩),.agg #[.int .i64 v.kind,.int .i64 v.n],.int .i64 c,.int .i64 k] w (RRv E L d w (Run.get E.f.classes v c k h)):=by
 unfold Run.get
 cases ho:ofT E.f.classes h v ⟨3,c⟩
 ·rw [if_pos rfl]
  exact (getStuck H hm v c k (fun e=>(hv.2.2.2 e).2) ho).mono fun _ _ R=>full_v rfl R
 ·rw [if_neg (by simp)]
  have hk:v.kind=3:=(of_ref ho).1
  by_cases hn:v.n < 0
  ·rw [if_pos hn]
   by_cases q:100≤h.objs.length
   ·exact (getFull H hm v c k hn ho q).mono fun _ _ R=>full_v (raise_full _ _ _ q) R
   ·exact (getNull H hm v c k hn ho (by omega)).mono fun _ _ R=>thr_v (raise_ok' _ _ _ q) R
  ·rw [if_neg hn]
   have h1:=(hv.2.2.2 hk).2
   have hob:=HO.obs _ (obj_mem (by omega) h1)
   have h72:=ob_len hm hob
   by_cases hj:idx (obj h v.n).held (c,k) < (obj h v.n).held.length
   ·exact (getAt H hm v c k (by omega) h1 ho h72 hj _ rfl).mono fun _ _ R=>gives_v rfl rfl rfl R.gives
   ·exact (getNo H hm v c k (by omega) h1 ho h72 hj).mono fun _ _ R=>gives_v rfl (by rw [find_no hj];rfl) (by rw [find_no hj];rfl) R.gives
theorem putHR (H:RH E w L h d Sv.run) (hm:Hier.may E.f.classes=true) (HO:HpOk E.f.classes E.input E.fuel h) (r v:Vl) (hr:VlOk h.objs.length r) (hv:VlOk h.objs.length v) (c k:Nat) (hc:c < E.f.classes.length) (hk:k < (Hier.at' E.f.classes c).fields.length) :
  Calls Tryz.prog 119 #[.pointer (some ⟨E.hb,0,none⟩),.agg #[.int .i64 r.kind,.int .i64 r.n],.int .i64 c,.int .i64 k,.agg #[.int .i64 v.kind,.int .i64 v.n]] w (RRu E L d w (Run.put E.f.classes r c k v (ftype E.f.classes c k) h)):=by
 have hv2:v.kind=3→v.n < h.objs.length:=fun e=>(hv.2.2.2 e).2
 unfold Run.put
 cases ht:ofT E.f.classes h v (ftype E.f.classes c k)
 ·rw [if_pos rfl]
  exact (putType H hm r v c k hv2 hc hk ht).mono fun _ _ R=>stop_u rfl R
 ·rw [if_neg (by simp)]
  cases ho:ofT E.f.classes h r ⟨3,c⟩
  ·rw [if_pos rfl]
   exact (putStuck H hm r v c k hv2 hc hk ht (fun e=>(hr.2.2.2 e).2) ho).mono fun _ _ R=>stop_u rfl R
  ·rw [if_neg (by simp)]
   have hkk:r.kind=3:=(of_ref ho).1
   by_cases hn:r.n < 0
   ·rw [if_pos hn]
    by_cases q:100≤h.objs.length
    ·exact (putFull H hm r v c k hv2 hc hk ht hn ho q).mono fun _ _ R=>stop_u (raise_full _ _ _ q) R
    ·exact (putNull H hm r v c k hv2 hc hk ht hn ho (by omega)).mono fun _ _ R=>thr_u (raise_ok' _ _ _ q) R
   ·rw [if_neg hn]
    have h1:=(hr.2.2.2 hkk).2
    have hob:=HO.obs _ (obj_mem (by omega) h1)
    have h72:=ob_len hm hob
    by_cases hj:idx (obj h r.n).held ((c:Int),(k:Int)) < (obj h r.n).held.length
    ·refine (putAt H hm r v c k hv2 hc hk ht (by omega) h1 ho h72 hj).mono fun _ _ R=>ok_u ?_ R.gives
     rw [become_idx (ob_nodup hob)];rfl
    ·refine (putNo H hm r v c k hv2 hc hk ht (by omega) h1 ho h72 hj).mono fun _ _ R=>ok_u ?_ R.gives
     have hlt:r.n.toNat < h.objs.length:=by omega
     rw [become_no_idx hj]
     show Res.ok () { h with objs:=h.objs.set r.n.toNat (obj h r.n) } = Res.ok () h
     have:h.objs.set r.n.toNat (obj h r.n)=h.objs:=by
      unfold obj
      rw [List.getD_eq_getElem?_getD,List.getElem?_eq_getElem hlt]
      exact List.set_getElem_self hlt
     rw [this]
theorem castR (H:RH E w L h d Sv.run) (hm:Hier.may E.f.classes=true) (v:Vl) (hv:VlOk h.objs.length v) (c:Int) :
  Calls Tryz.prog 133 #[.pointer (some ⟨E.hb,0,none⟩),.agg #[.int .i64 v.kind,.int .i64 v.n],.int .i64 c] w (RRu E L d w (Run.cast E.f.classes v c h)):=by
 unfold Run.cast
 by_cases hk:v.kind=3
 ·rw [if_neg (by simpa using hk)]
  have h1:=(hv.2.2.2 hk).2
  cases ho:ofT E.f.classes h v ⟨3,c⟩
  ·rw [if_pos rfl]
   by_cases q:100≤h.objs.length
   ·exact (castFull H hm v c hk h1 ho q).mono fun _ _ R=>stop_u (raise_full _ _ _ q) R
   ·exact (castThr H hm v c hk h1 ho (by omega)).mono fun _ _ R=>thr_u (raise_ok' _ _ _ q) R
  ·rw [if_neg (by simp)]
   exact (castOk H hm v c hk h1 ho).mono fun _ _ R=>ok_u rfl R.gives
 ·rw [if_pos hk]
  exact (castStuck H v c hk).mono fun _ _ R=>stop_u rfl R
theorem throwR (H:RH E w L h d Sv.run) (hm:Hier.may E.f.classes=true) (v:Vl) :
  Calls Tryz.prog 117 #[.pointer (some ⟨E.hb,0,none⟩),.agg #[.int .i64 v.kind,.int .i64 v.n]] w (RRu E L d w (Run.throw E.f.classes v h)):=by
 unfold Run.throw
 by_cases hk:v.kind=3
 ·rw [if_neg (by simpa using hk)]
  by_cases hn:v.n < 0
  ·rw [if_pos hn]
   by_cases q:100≤h.objs.length
   ·exact (throwFull H v hk hn q).mono fun _ _ R=>stop_u (raise_full _ _ _ q) R
   ·exact (throwNull H hm v hk hn (by omega)).mono fun _ _ R=>thr_u (raise_ok' _ _ _ q) R
  ·rw [if_neg hn]
   exact (throwIt H v hk (by omega)).mono fun _ _ R=>thr_u rfl R.gives
 ·rw [if_pos hk]
  exact (throwStuck H v hk).mono fun _ _ R=>stop_u rfl R
theorem emitR (H:RH E w L h d Sv.run) (v:Vl) (kind:Int) (hl:h.out.length≤60000) :
  Calls Tryz.prog 118 #[.pointer (some ⟨E.hb,0,none⟩),.agg #[.int .i64 v.kind,.int .i64 v.n],.int .i64 kind] w (RRu E L d w (Run.emit v kind h)):=by
 unfold Run.emit
 by_cases hk:v.kind=kind
 ·rw [if_neg (by simpa using hk)]
  exact (emitOk H v kind hk hl).mono fun _ _ R=>ok_u rfl R
 ·rw [if_pos hk]
  exact (emitStuck H v kind hk).mono fun _ _ R=>stop_u rfl R
theorem isR (H:RH E w L h d Sv.run) (hm:Hier.may E.f.classes=true) (v:Vl) (hv:VlOk h.objs.length v) (c:Int) :
  Calls Tryz.prog 176 #[.pointer (some ⟨E.hb,0,none⟩),.agg #[.int .i64 v.kind,.int .i64 v.n],.int .i64 c] w (RRv E L d w (Run.isV E.f.classes v c h)):=by
 unfold Run.isV
 by_cases hk:v.kind=3
 ·rw [if_neg (by simpa using hk)]
  have h1:=(hv.2.2.2 hk).2
  by_cases hn:v.n < 0
  ·exact (isNull H v c hk hn).mono fun _ _ R=>gives_v rfl rfl (by rw [if_neg (by omega)]) R.gives
  ·refine (isOf H hm v c hk (by omega) h1 _ rfl).mono fun _ _ R=>gives_v rfl rfl ?_ R.gives
   have h0:0≤v.n:=by omega
   simp [h0]
 ·rw [if_pos hk]
  exact (isStuck H v c hk).mono fun _ _ R=>full_v rfl R
theorem reckonR (H:RH E w L h d Sv.run) (hm:Hier.may E.f.classes=true) (a b:Vl) (ha:Ok a.n) (hb:Ok b.n) (kind op:Int) (hk:kind=1∨kind=2) :
  Calls Tryz.prog 172 #[.pointer (some ⟨E.hb,0,none⟩),.agg #[.int .i64 a.kind,.int .i64 a.n],.agg #[.int .i64 b.kind,.int .i64 b.n],.int .i64 kind,.int .i64 op] w (RRv E L d w (Run.reckon E.f.classes a b kind op h)):=by
 unfold Run.reckon
 by_cases q:a.kind≠kind∨b.kind≠kind
 ·rw [if_pos q]
  refine (reckonStuck H a b kind op _ _ rfl rfl ?_).mono fun _ _ R=>full_v rfl R
  rcases q with q | q <;> simp [q]
 ·rw [if_neg q]
  have qa:(a.kind==kind)=true:=by simp at q;simp [q]
  have qb:(b.kind==kind)=true:=by simp at q;simp [q]
  rcases hk with rfl | rfl
  ·cases hg:(Num.int op a.n b.n).2
   ·have e:(numOf 1 op a.n b.n).2=false:=hg
    rw [e,if_pos rfl]
    by_cases q:100≤h.objs.length
    ·exact (reckonIntFull H a b 1 op qa qb rfl ha hb (Num.int op a.n b.n).1 (by rw [← hg]) q).mono fun _ _ R=>full_v (raise_full _ _ _ q) R
    ·exact (reckonIntThr H hm a b 1 op qa qb rfl ha hb (Num.int op a.n b.n).1 (by rw [← hg]) (by omega)).mono fun _ _ R=>thr_v (raise_ok' _ _ _ q) R
   ·have e:(numOf 1 op a.n b.n).2=true:=hg
    rw [e,if_neg (by simp)]
    exact (reckonIntOk H a b 1 op qa qb rfl ha hb (Num.int op a.n b.n).1 (by rw [← hg])).mono fun _ _ R=>gives_v rfl rfl rfl R.gives
  ·cases hg:(Num.long op a.n b.n).2
   ·have e:(numOf 2 op a.n b.n).2=false:=hg
    rw [e,if_pos rfl]
    by_cases q:100≤h.objs.length
    ·exact (reckonLongFull H a b 2 op qa qb rfl ha hb (Num.long op a.n b.n).1 (by rw [← hg]) q).mono fun _ _ R=>full_v (raise_full _ _ _ q) R
    ·exact (reckonLongThr H hm a b 2 op qa qb rfl ha hb (Num.long op a.n b.n).1 (by rw [← hg]) (by omega)).mono fun _ _ R=>thr_v (raise_ok' _ _ _ q) R
   ·have e:(numOf 2 op a.n b.n).2=true:=hg
    rw [e,if_neg (by simp)]
    exact (reckonLongOk H a b 2 op qa qb rfl ha hb (Num.long op a.n b.n).1 (by rw [← hg])).mono fun _ _ R=>gives_v rfl rfl rfl R.gives
theorem inR (H:RH E w L h d Sv.run) (h1000:E.input.length≤1000) :
  Calls Tryz.prog 177 #[.pointer (some ⟨E.hb,0,none⟩)] w (RRv E L d w (Run.takeIn E.input h)):=by
 unfold Run.takeIn
 by_cases q:E.input.length≤h.used
 ·rw [if_pos q]
  exact (inEnd H q).mono fun _ _ R=>full_v rfl R
 ·rw [if_neg q]
  exact (inOk H (by omega) _ rfl h1000).mono fun _ _ R=>gives_v rfl rfl rfl R.gives
end
end Rhw
namespace Rhw
open Num Rd D Run Mem HierW Hpw
def L0:RL:=⟨.slice none 0 0,.slice none 0 0,[]⟩
def h0:Hp:=⟨[],[],0,0⟩
theorem rhNew {w1:World}{B:Nat}{f:Fi}{input:List Int}{vc vm vi:Value}(hc:Sl 2 ECls w1 B vc f.classes) (hm:Sl 8 EMe w1 B vm f.methods) (hi:Sl 1 EInt w1 B vi input) (hB:B≤w1.heap.size) (fuel:Nat) (T:TypeId) :
  RH ⟨f,input,fuel,w1.heap.size,B,vc,vm,vi⟩ (w1.alloc (.cells #[vc,vm,.slice none 0 0,vi,.int .i64 0,.int .i64 fuel,.int .i64 0,.int .i64 0,.int .i64 0,.slice none 0 0,.int .i64 0,.int .i64 0,.bool false,.int .i64 (-1)] T)) L0 h0 0 Sv.run:=by
 have hb:Below B w1 (w1.alloc (.cells #[vc,vm,.slice none 0 0,vi,.int .i64 0,.int .i64 fuel,.int .i64 0,.int .i64 0,.int .i64 0,.slice none 0 0,.int .i64 0,.int .i64 0,.bool false,.int .i64 (-1)] T)):=(Below.refl B w1).alloc hB _
 refine ⟨⟨hc.mono mCls hb (Nat.le_refl _),hm.mono mMe hb (Nat.le_refl _),hi.mono mInt hb (Nat.le_refl _),World.ownsRow_nil ..,World.ownsRow_nil ..,rfl,fun i hi=>absurd hi (by simp [L0]),⟨hB,by simp⟩,by simp [L0,rows,Value.ownBlock]⟩,?_⟩
 exact Blk.made w1 (cellsR ⟨f,input,fuel,w1.heap.size,B,vc,vm,vi⟩ L0 h0 0 Sv.run) T
end Rhw
namespace Hpw
open Num Rd D Run Mem
def VS (w:World) (X:Nat→Prop) (v:Value) (l:List Vl):Prop:=∃ (a:Option Addr) (cap:Nat),v=.slice a l.length cap∧l.length≤cap∧cap≤9223372036854775807 ∧
 ∀ i (h:i < l.length),∃ b o,a=some ⟨b,o,none⟩∧¬ X b∧w.cell? ⟨b,o+i*2,none⟩=some (.int .i64 l[i].kind)∧w.cell? ⟨b,o+i*2+1,none⟩=some (.int .i64 l[i].n)
theorem VS.next {w w':World}{X Y X':Nat→Prop}{v:Value}{l:List Vl}(h:VS w X v l) (hk:Kp Y w w') (hY:∀ b,b < w.heap.size→Y b→X b) (hX:∀ b,b < w.heap.size→X' b→X b):VS w' X' v l:=by
 obtain ⟨a,cap,h1,h2,h3,h4⟩:=h
 refine ⟨a,cap,h1,h2,h3,fun i hi=>?_⟩
 obtain ⟨b,o,e,hx,c1,c2⟩:=h4 i hi
 have hb:=cell_lt c1
 exact ⟨b,o,e,fun q=>hx (hX b hb q),hk.cell c1 (fun q=>hx (hY b hb q)),hk.cell c2 (fun q=>hx (hY b hb q))⟩
theorem VS.mono {w:World}{X X':Nat→Prop}{v:Value}{l:List Vl}(h:VS w X v l) (hX:∀ b,b < w.heap.size→X' b→X b):VS w X' v l :=
 h.next (Kp.refl (fun _=>False) w) (fun _ _ e=>e.elim) hX
theorem VS.nil (w:World) (X:Nat→Prop):VS w X (.slice none 0 0) []:=⟨none,0,rfl,Nat.le_refl _,by omega,fun i hi=>absurd hi (by simp)⟩
theorem VS.drop {w:World}{X:Nat→Prop}{b o n cap k:Nat}{l:List Vl}(h:VS w X (.slice (some ⟨b,o,none⟩) n cap) l) (hk:k≤l.length):VS w X (.slice (some ⟨b,o+k*2,none⟩) (n - k) (cap - k)) (l.drop k):=by
 obtain ⟨a,c,h1,h2,h3,h4⟩:=h
 simp only [Value.slice.injEq] at h1
 obtain ⟨rfl,rfl,rfl⟩:=h1
 refine ⟨some ⟨b,o+k*2,none⟩,cap - k,by rw [List.length_drop],by rw [List.length_drop];omega,by omega,fun i hi=>?_⟩
 have hi':k+i < l.length:=by simp at hi;omega
 obtain ⟨b',o',e,hx,c1,c2⟩:=h4 (k+i) hi'
 simp only [Option.some.injEq,Addr.mk.injEq,and_true] at e
 obtain ⟨rfl,rfl⟩:=e
 refine ⟨_,_,rfl,hx,?_,?_⟩
 ·rw [List.getElem_drop];rw [show o+k*2+i*2=o+(k+i)*2 by omega];exact c1
 ·rw [List.getElem_drop];rw [show o+k*2+i*2+1=o+(k+i)*2+1 by omega];exact c2
theorem VS.take {w:World}{X:Nat→Prop}{a:Option Addr}{n cap k:Nat}{l:List Vl}(h:VS w X (.slice a n cap) l) (hk:k≤l.length):VS w X (.slice a k cap) (l.take k):=by
 obtain ⟨a,c,h1,h2,h3,h4⟩:=h
 simp only [Value.slice.injEq] at h1
 obtain ⟨rfl,rfl,rfl⟩:=h1
 refine ⟨a,cap,by rw [List.length_take,Nat.min_eq_left hk],by rw [List.length_take];omega,h3,fun i hi=>?_⟩
 have hi':i < l.length:=by simp at hi;omega
 obtain ⟨b',o',e,hx,c1,c2⟩:=h4 i hi'
 exact ⟨_,_,e,hx,by rw [List.getElem_take];exact c1,by rw [List.getElem_take];exact c2⟩
theorem VS.zero {w:World}{X:Nat→Prop}{a:Option Addr}{cap:Nat}(h:cap≤9223372036854775807):VS w X (.slice a 0 cap) []:=⟨a,cap,rfl,Nat.zero_le _,h,fun i hi=>absurd hi (by simp)⟩
theorem VS.len {w:World}{X:Nat→Prop}{v:Value}{l:List Vl}(h:VS w X v l):∃ a cap,v=.slice a l.length cap∧l.length≤cap∧cap≤9223372036854775807:=by
 obtain ⟨a,c,h1,h2,h3,_⟩:=h;exact ⟨a,c,h1,h2,h3⟩
theorem VS.form {w:World}{X:Nat→Prop}{v:Value}{l:List Vl}(h:VS w X v l) (h0:0 < l.length):∃ b o cap,v=.slice (some ⟨b,o,none⟩) l.length cap∧l.length≤cap∧cap≤9223372036854775807∧b < w.heap.size∧¬ X b ∧
  ∀ i (h:i < l.length),w.cell? ⟨b,o+i*2,none⟩=some (.int .i64 l[i].kind)∧w.cell? ⟨b,o+i*2+1,none⟩=some (.int .i64 l[i].n):=by
 obtain ⟨a,c,h1,h2,h3,h4⟩:=h
 obtain ⟨b,o,e,hx,c1,c2⟩:=h4 0 h0
 subst e
 refine ⟨b,o,c,h1,h2,h3,cell_lt c1,hx,fun i hi=>?_⟩
 obtain ⟨b',o',e,_,c1,c2⟩:=h4 i hi
 simp only [Option.some.injEq,Addr.mk.injEq,and_true] at e
 obtain ⟨rfl,rfl⟩:=e
 exact ⟨c1,c2⟩
theorem VS.dropA {w:World}{X:Nat→Prop}{a:Option Addr}{n cap k:Nat}{l:List Vl}(h:VS w X (.slice a n cap) l) (hk:k≤l.length):VS w X (.slice (a.map fun x=>x.add (k*2)) (n - k) (cap - k)) (l.drop k):=by
 obtain ⟨a',c,h1,h2,h3,h4⟩:=id h
 simp only [Value.slice.injEq] at h1
 obtain ⟨rfl,rfl,rfl⟩:=h1
 by_cases h0:0 < l.length
 ·obtain ⟨b,o,rfl,_⟩:=h4 0 h0
  have:=h.drop hk
  have hadd:(⟨b,o,none⟩:Addr).add (k*2)=⟨b,o+k*2,none⟩:=by unfold Addr.add;split <;> simp_all
  simpa [hadd] using this
 ·have hl:l=[]:=List.eq_nil_of_length_eq_zero (by omega)
  subst hl
  have hk0:k=0:=by simpa using hk
  subst hk0
  exact ⟨_,_,rfl,Nat.zero_le _,by omega,fun i hi=>absurd hi (by simp)⟩
theorem VS.dropE {w:World}{X:Nat→Prop}{a:Option Addr}{n k:Nat}{l:List Vl}(h:VS w X (.slice a n k) l):VS w X (.slice a 0 0) (l.drop k):=by
 obtain ⟨a',c,h1,h2,h3,h4⟩:=h
 simp only [Value.slice.injEq] at h1
 obtain ⟨rfl,rfl,rfl⟩:=h1
 rw [List.drop_eq_nil_of_le h2]
 exact VS.zero (by omega)
theorem VS.of_blk {w:World}{X:Nat→Prop}{b cap:Nat}{l:List Vl}(h:Blk w b (vcells l)) (hx:¬ X b) (hc:l.length≤cap) (hm:cap≤9223372036854775807):VS w X (.slice (some ⟨b,0,none⟩) l.length cap) l:=by
 refine ⟨_,cap,rfl,hc,hm,fun i hi=>⟨b,0,rfl,hx,?_,?_⟩⟩
 ·have h1:=(vcells_get l i hi).1
  obtain ⟨hj,e⟩:=List.getElem?_eq_some_iff.1 h1
  rw [Nat.zero_add,(h _ hj).1,e,List.getD_eq_getElem?_getD,List.getElem?_eq_getElem hi];rfl
 ·have h1:=(vcells_get l i hi).2
  obtain ⟨hj,e⟩:=List.getElem?_eq_some_iff.1 h1
  rw [Nat.zero_add,(h _ hj).1,e,List.getD_eq_getElem?_getD,List.getElem?_eq_getElem hi];rfl
theorem Blk.getV {w:World}{b:Nat}{l:List Vl}(h:Blk w b (vcells l)){i:Nat}(hi:i < l.length):w.cell? ⟨b,i*2,none⟩=some (.int .i64 (l.getD i Vl.nil).kind)∧w.cell? ⟨b,i*2+1,none⟩=some (.int .i64 (l.getD i Vl.nil).n)∧w.frozen? ⟨b,i*2,none⟩=false∧w.frozen? ⟨b,i*2+1,none⟩=false:=by
 obtain ⟨h1,h2⟩:=vcells_get l i hi
 obtain ⟨j1,e1⟩:=List.getElem?_eq_some_iff.1 h1
 obtain ⟨j2,e2⟩:=List.getElem?_eq_some_iff.1 h2
 exact ⟨by rw [(h _ j1).1,e1],by rw [(h _ j2).1,e2],(h _ j1).2,(h _ j2).2⟩
theorem Blk.setV {w:World}{b:Nat}{l:List Vl}(h:Blk w b (vcells l)){i:Nat}(hi:i < l.length) (v:Vl):Blk ((w.setCell ⟨b,i*2,none⟩ (.int .i64 v.kind)).setCell ⟨b,i*2+1,none⟩ (.int .i64 v.n)) b (vcells (l.set i v)):=by
 have hl:=vcells_len l
 rw [vcells_set]
 exact (Blk.set h (i*2) (by omega) _).set (i*2+1) (by simp;omega) _
theorem kp_setV {X:Nat→Prop}{w w':World}(h:Kp X w w'){b:Nat}(hb:X b∨w.heap.size≤b) (i j:Nat) (u v:Value):Kp X w ((w'.setCell ⟨b,i,none⟩ u).setCell ⟨b,j,none⟩ v) :=
 (h.setCell (p:=⟨b,i,none⟩) hb u).setCell (p:=⟨b,j,none⟩) hb v
def twos:List Vl→Nat
 | []=>0
 | v :: l=>(if v.kind=2 then 1 else 0)+twos l
theorem size_twos:∀ l:List Vl,size l=l.length+twos l:=by
 intro l
 induction l with
 | nil=>rfl
 | cons v l ih=>simp only [size,twos,width,List.length_cons,ih];split <;> omega
theorem twos_snoc (l:List Vl) (v:Vl):twos (l++[v])=twos l+if v.kind=2 then 1 else 0:=by
 induction l with
 | nil=>simp [twos]
 | cons u l ih=>simp only [List.cons_append,twos,ih];omega
theorem twos_le (l:List Vl):twos l≤l.length:=by
 induction l with
 | nil=>simp [twos]
 | cons v l ih=>simp only [twos,List.length_cons];split <;> omega
end Hpw
namespace Run
open D
theorem allOf_take {l:List Cls}{h:Hp}:∀ (vs:List Vl) (ts:List Ty),vs.length=ts.length→(allOf l h vs ts=true↔∀ i (hi:i < vs.length) (hj:i < ts.length),ofT l h vs[i] ts[i]=true):=by
 intro vs
 induction vs with
 | nil=>intro ts h;cases ts with
  | nil=>simp [allOf]
  | cons t ts=>simp at h
 | cons v vs ih=>intro ts h;cases ts with
  | nil=>simp at h
  | cons t ts =>
   simp only [allOf,Bool.and_eq_true,ih ts (by simpa using h)]
   refine ⟨fun ⟨h1,h2⟩ i hi hj=>?_,fun h1=>⟨h1 0 (by simp) (by simp),fun i hi hj=>h1 (i+1) (by simpa using hi) (by simpa using hj)⟩⟩
   cases i with
   | zero=>exact h1
   | succ i=>exact h2 i (by simpa using hi) (by simpa using hj)
end Run
namespace Rhw
open Num Rd D Run Mem HierW Hpw
def mcells (vp vc vh:Value) (m:Me):List Value:=[vp,.int .i64 m.ret.kind,.int .i64 m.ret.cls,.int .i64 m.stack,.int .i64 m.locals,.int .i64 m.regs,vc,vh]
section
variable {E:Ev}{w w':World}{L L':RL}{h h':Hp}{d:Nat}{s:Sv}
def EnterR (E:Ev) (L:RL) (h:Hp) (d:Nat) (args:List Vl) (m:Me) (w:World) (e:Ending) (w':World):Prop :=
 (allOf E.f.classes h args m.params=false∧Keeps E L h d (Sv.ends 6) w (.bool false) e w')∨(allOf E.f.classes h args m.params=true∧20≤d∧Keeps E L h d (Sv.ends 5) w (.bool false) e w')∨(allOf E.f.classes h args m.params=true∧d < 20∧Keeps E L h (d+1) Sv.run w (.bool true) e w')
set_option maxRecDepth 100000 in
theorem enter (H:RH E w L h d Sv.run) (hm:Hier.may E.f.classes=true){vp vc vh va:Value}(m:Me) (hp:Sl 2 ETy w E.B vp m.params) (args:List Vl) (X:Nat→Prop) (ha:VS w X va args) (hX:X E.hb) (hl:args.length=m.params.length) (hv:∀ v∈args,v.kind=3→v.n < h.objs.length) (hd:d≤20) :
  Calls Tryz.prog 59 #[.pointer (some ⟨E.hb,0,none⟩),.agg #[vp,.int .i64 m.ret.kind,.int .i64 m.ret.cls,.int .i64 m.stack,.int .i64 m.locals,.int .i64 m.regs,vc,vh],va] w (EnterR E L h d args m w):=by
 have HH:=Lib.hid H
 have hhb:=H.rows.base.2
 have c4:=H.c4
 have f4:=H.fz 4 (by decide)
 have hB:=Lib.hid (show E.B≤w.heap.size from Nat.le_trans H.rows.base.1 (Nat.le_of_lt hhb))
 obtain ⟨pa,pcap,rfl,p1,p2,pel⟩:=hp
 obtain ⟨aa,acap,rfl,a1,a2⟩:=ha.len
 have HA:=Lib.hid ha
 have hiff:=Lib.hid (allOf_take (l:=E.f.classes) (h:=h) args m.params hl)
 have hll:=Lib.hid hl
 have hvv:=Lib.hid hv
 clear H ha hl hv
 go_enter Tryz.func59,Tryz.ntmps59
 go_wp2
 go_loopw [7] (fun i wr=>∃ n:Nat,i=.int .i64 n∧n≤m.params.length∧Below w.heap.size (w.alloc (.cells #[.slice pa m.params.length pcap,.int .i64 m.ret.kind,.int .i64 m.ret.cls,.int .i64 m.stack,.int .i64 m.locals,.int .i64 m.regs,vc,vh] 54)) wr∧wr.cell? ⟨w.heap.size,0,none⟩=some (.slice pa m.params.length pcap)∧Hid (∀ i (hi:i < args.length) (hj:i < m.params.length),i < n→ofT E.f.classes h args[i] m.params[i]=true)) (fun i _=>m.params.length - (intOf i).toNat)
 case atStart=>exact ⟨0,rfl,Nat.zero_le _,Below.refl _ _,by go_simp,fun i _ _ h=>absurd h (by omega)⟩
 case round =>
  obtain ⟨n,rfl,hn,hb,hc0,hall⟩:=hrel
  have hbw:Below w.heap.size w wr:=Below.trans (by exact Rd.byB) hb
  have HR:=Lib.hid (HH.out.below hbw)
  have hBW:=Lib.hid hbw
  by_cases hlt:n < m.params.length
  ·have hla:n < args.length:=by rw [hll.out];exact hlt
   obtain ⟨pb,po,rfl,hpb,hpe⟩:=pel n hlt
   obtain ⟨t1,t2,_,_⟩:=hpe
   obtain ⟨t,ht⟩:=at_of hlt
   obtain ⟨v,hv⟩:=at_of hla
   rw [ht.out] at t1 t2
   obtain ⟨ab,ao,acap',hx,_,_,hab,hnx,hel⟩:=HA.out.form (by omega)
   simp only [Value.slice.injEq,true_and] at hx
   obtain ⟨rfl,rfl⟩:=hx
   obtain ⟨z0,z1⟩:=hel n hla
   rw [hv.out] at z0 z1
   have lpb:pb < w.heap.size:=Nat.lt_of_lt_of_le hpb hB.out
   have t1':=kept hbw lpb t1
   have t2':=kept hbw lpb t2
   have z0':=kept hbw hab z0
   have z1':=kept hbw hab z1
   have hni:(n:Int) < m.params.length:=by omega
   have hni2:(n:Int) < args.length:=by omega
   have hsz:=hb.size
   have hsz2:w.heap.size < wr.heap.size:=by simp at hsz;omega
   have hvo:=Lib.hid (hvv.out v (by rw [← hv.out];exact List.getElem_mem hla))
   obtain ⟨p,hp⟩:∃ p,Hid (ofT E.f.classes h v t=p):=⟨_,rfl⟩
   have hno:=Lib.hid (fun (e:ofT E.f.classes h v t=false)=>show allOf E.f.classes h args m.params=false from by
    cases q:allOf E.f.classes h args m.params
    ·rfl
    ·have:=hiff.out.1 q n hla hlt
     rw [ht.out,hv.out,e] at this;cases this)
   have hnext:=Lib.hid (fun (e:ofT E.f.classes h v t=true)=>show ∀ i (hi:i < args.length) (hj:i < m.params.length),i < n+1→ofT E.f.classes h args[i] m.params[i]=true from fun i hi hj hin=>by
    by_cases q:i < n
    ·exact hall.out i hi hj q
    ·obtain rfl:i=n:=by omega
     rw [ht.out,hv.out];exact e)
   replace hb:=Lib.hid hb
   clear hel pel t1 t2 z0 z1 hab hbw c4 f4
   go_wp2
   refine Drawn.hd (fun w'=>w'.cell? ⟨ab,ao+n*2,none⟩=some (.int .i64 v.kind)∧w'.cell? ⟨ab,ao+n*2+1,none⟩=some (.int .i64 v.n)∧w'.cell? ⟨w.heap.size,0,none⟩=some (.slice (some ⟨pb,po,none⟩) m.params.length pcap)∧w'.cell? ⟨pb,po+n*2,none⟩=some (.int .i64 t.kind)∧w'.cell? ⟨pb,po+n*2+1,none⟩=some (.int .i64 t.cls)) (h:=fun hHeld=>?_)
   refine Drawn.T 0 (some 15) (h:=?_)
   refine Drawn.T 1 (some 16) (h:=?_)
   refine Drawn.T 2 (some 17) (h:=?_)
   refine Drawn.T 3 (some 18) (h:=?_)
   refine Drawn.T 4 (some 19) (h:=?_)
   refine Drawn.T 5 (some 20) (h:=?_)
   refine Drawn.T 6 (some 21) (h:=?_)
   refine Drawn.T 7 (some 22) (h:=?_)
   refine Drawn.T 8 (some 23) (h:=?_)
   refine Drawn.T 9 (some 24) (h:=?_)
   refine Drawn.T 10 (some 25) (h:=?_)
   refine Drawn.cl 11 (fun K hK=>?_)
   go_simp
   refine (ofV (HR.out.below (by exact Rd.byB)) hm v t _ hp.out hvo.out).mono ?_
   rintro e w1 ⟨rfl,hb1⟩
   have kk:∀ (b o:Nat) (u:Value),World.cell? _ ⟨b,o,none⟩=some u→w1.cell? ⟨b,o,none⟩=some u:=fun b o u hc=>kept hb1 (cell_lt hc) hc
   have y0:=kk ab (ao+n*2) (.int .i64 v.kind) (by go_simp)
   have y1:=kk ab (ao+n*2+1) (.int .i64 v.n) (by go_simp)
   have y2:=kk w.heap.size 0 (.slice (some ⟨pb,po,none⟩) m.params.length pcap) (by go_simp)
   have y3:=kk pb (po+n*2) (.int .i64 t.kind) (by go_simp)
   have y4:=kk pb (po+n*2+1) (.int .i64 t.cls) (by go_simp)
   have HB1:=Lib.hid (show Below wr.heap.size wr w1 from Below.trans (by exact Rd.byB) (hb1.mono (by simp <;> omega)))
   clear kk hb1
   have HW1:=Lib.hid (hBW.out.trans (HB1.out.mono hBW.out.size))
   cases p
   ·go_wp2_with fail
    refine Drawn.bk hK (hS:=by (try dsimp only);exact ⟨y0,y1,y2,y3,y4⟩) (h:=fun hHeld=>?_)
    clear hK K
    refine Drawn.cl 12 (fun K hK=>?_)
    go_simp
    refine (mustF (HH.out.below HW1.out) rfl).mono ?_
    rintro e w2 ⟨rfl,rfl⟩
    have hne1:ab≠E.hb:=fun e=>hnx (by rw [e];exact hX)
    have hne2:pb≠E.hb:=by have:=HH.out.rows.base.1;omega
    have hne3:w.heap.size≠E.hb:=by omega
    have nb:∀ b,b≠E.hb→∀ o u,w1.cell? ⟨b,o,none⟩=some u→((w1.setCell ⟨E.hb,12,none⟩ (.bool true)).setCell ⟨E.hb,6,none⟩ (.int .i64 6)).cell? ⟨b,o,none⟩=some u:=fun b hne o u hc=>((Kp.setCell (Kp.setCell (Kp.refl (fun k=>k=E.hb) w1) (p:=⟨E.hb,12,none⟩) (.inl rfl) _) (p:=⟨E.hb,6,none⟩) (.inl rfl) _).cell hc hne)
    go_wp2_with fail
    refine Drawn.bk hK (hS:=by (try dsimp only);exact ⟨nb _ hne1 _ _ y0,nb _ hne1 _ _ y1,nb _ hne3 _ _ y2,nb _ hne2 _ _ y3,nb _ hne2 _ _ y4⟩) (h:=fun hHeld=>?_)
    clear hK K
    refine Drawn.T 13 (some 28) (h:=?_)
    refine wpAnyH_done (by kernel_rfl) ?_ _
    go_wp2
    go_ret
    exact .inl ⟨hno.out hp.out,rfl,ended HH.out rfl 6 HW1.out⟩
   ·go_wp2_with fail
    refine Drawn.bk hK (hS:=by (try dsimp only);exact ⟨y0,y1,y2,y3,y4⟩) (h:=fun hHeld=>?_)
    clear hK K
    refine Drawn.cl 12 (fun K hK=>?_)
    go_simp
    refine (mustT (HH.out.below HW1.out) rfl).mono ?_
    rintro e w2 ⟨rfl,rfl⟩
    go_wp2_with fail
    refine Drawn.bk hK (hS:=by (try dsimp only);exact ⟨y0,y1,y2,y3,y4⟩) (h:=fun hHeld=>?_)
    clear hK K
    refine Drawn.T 13 (some 28) (h:=?_)
    refine wpAnyH_done (by kernel_rfl) ?_ _
    go_wp2
    go_roundw
    case rel=>exact ⟨n+1,by go_num,by omega,hb.out.trans (HB1.out.mono hBW.out.size),y2,hnext.out hp.out⟩
    case measure=>simp [intOf];omega
  ·obtain rfl:n=m.params.length:=by omega
   have hyes:Hid (allOf E.f.classes h args m.params=true):=hiff.out.2 (fun i hi hj=>hall.out i hi hj hj)
   have c4':=HR.out.c4
   have f4':=HR.out.fz 4 (by decide)
   clear hb hbw c4 f4
   by_cases q:20≤d
   ·obtain rfl:d=20:=by omega
    go_wp2_with (go_at_call 112;refine (endR (HR.out.below (by exact Rd.byB)) rfl _).mono ?_;rintro e w1 ⟨rfl,rfl⟩)
    go_ret
    exact .inr (.inl ⟨hyes.out,by omega,rfl,ended HH.out rfl 5 hBW.out⟩)
   ·have hdd:decide ((20:Int)≤d)=false:=by simp;omega
    have hdl:d < 20:=by omega
    go_wp2
    go_ret
    refine .inr (.inr ⟨hyes.out,hdl,rfl,RH.set HR.out 4 (by decide) _ rfl rfl ?_,(kpB hBW.out).setCell (p:=⟨E.hb,4,none⟩) (.inl (.inl rfl)) _⟩)
    simp [cellsR]
def goAt (x:Option Hd):Int:=match x with
 | some x=>x.go
 | none=>-1
set_option maxRecDepth 100000 in
theorem caught {o:Nat}(H:RH E w L h d (Sv.thr o)) (ho:o < h.objs.length) (hm:Hier.may E.f.classes=true){vp vc vh:Value}(m:Me) (hh:Sl 4 EHd w E.B vh m.handlers) (a:Nat) (r:Int) (hr:goAt (handler E.f.classes m a (obj h o).cls)=r) :
  Calls Tryz.prog 67 #[.pointer (some ⟨E.hb,0,none⟩),.agg #[vp,.int .i64 m.ret.kind,.int .i64 m.ret.cls,.int .i64 m.stack,.int .i64 m.locals,.int .i64 m.regs,vc,vh],.int .i64 a] w fun e w'=>e=.returned (.int .i64 r)∧Below w.heap.size w w':=by
 have HH:=Lib.hid H
 have hhb:=H.rows.base.2
 have c13:w.cell? ⟨E.hb,13,none⟩=some (.int .i64 (o:Int)):=H.c13
 have hB:=Lib.hid (show E.B≤w.heap.size from Nat.le_trans H.rows.base.1 (Nat.le_of_lt hhb))
 obtain ⟨g,cap,hvb,c1,c2,hg,hgne,o1,_⟩:=H.ob (n:=o) (by omega) (by omega)
 obtain ⟨ca,ccap,hvc,HC⟩:=H.cls
 have b0:=H.c0
 have b2:=H.c2
 rw [hvb] at b2
 rw [hvc] at b0 HC
 rw [Int.toNat_natCast] at o1
 replace HC:=Lib.hid HC
 have hwf:=Lib.hid (Hier.wf_of_may hm)
 obtain ⟨ha,hcap,rfl,h1,h2,hel⟩:=hh
 obtain ⟨cl,hcl⟩:∃ cl,Hid ((obj h o).cls=cl):=⟨_,rfl⟩
 rw [hcl.out] at o1 hr
 have hoi:(o:Int) < h.objs.length:=by omega
 replace hr:=Lib.hid hr
 have hdrop:Hid (handler E.f.classes m a cl=(m.handlers.drop 0).find? fun x=>decide (x.lo≤(a:Int)) && decide ((a:Int) < x.hi) && Hier.is E.f.classes cl x.cls):=rfl
 clear H hvb hvc
 go_enter Tryz.func67,Tryz.ntmps67
 go_wp2
 go_loopw [7] (fun i wr=>∃ n:Nat,i=.int .i64 n∧n≤m.handlers.length∧Below w.heap.size w wr∧w.heap.size < wr.heap.size∧wr.cell? ⟨w.heap.size,7,none⟩=some (.slice ha m.handlers.length hcap)∧Hid (handler E.f.classes m a cl=(m.handlers.drop n).find? fun x=>decide (x.lo≤(a:Int)) && decide ((a:Int) < x.hi) && Hier.is E.f.classes cl x.cls)) (fun i _=>m.handlers.length - (intOf i).toNat)
 case atStart=>exact ⟨0,rfl,Nat.zero_le _,by exact Rd.byB,by simp,by go_simp,hdrop⟩
 case round =>
  obtain ⟨n,rfl,hn,hb,hsz,hc7,hall⟩:=hrel
  have hBW:=Lib.hid hb
  by_cases hlt:n < m.handlers.length
  ·obtain ⟨xb,xo,rfl,hxb,he⟩:=hel n hlt
   obtain ⟨x,hx⟩:=at_of hlt
   rw [hx.out] at he
   obtain ⟨x0,x1,x2,x3,_⟩:=he
   have hlx:xb < w.heap.size:=Nat.lt_of_lt_of_le hxb hB.out
   have x0':=kept hb hlx x0
   have x1':=kept hb hlx x1
   have x2':=kept hb hlx x2
   have x3':=kept hb hlx x3
   have b0':=kept hb hhb b0
   have b2':=kept hb hhb b2
   have c13':=kept hb hhb c13
   have o1':=kept hb hg o1
   have hni:(n:Int) < m.handlers.length:=by omega
   have hd:=Lib.hid (show m.handlers.drop n=x :: m.handlers.drop (n+1) from by rw [List.drop_eq_getElem_cons hlt,hx.out])
   obtain ⟨p,hp⟩:∃ p,Hid (Hier.is E.f.classes cl x.cls=p):=⟨_,rfl⟩
   clear hel x0 x1 x2 x3 b0 b2 c13 o1 hb
   have hhb2:E.hb < wr.heap.size:=Nat.lt_of_lt_of_le hhb hBW.out.size
   have hg2:g < wr.heap.size:=Nat.lt_of_lt_of_le hg hBW.out.size
   by_cases q1:x.lo≤a
   ·have q1b:decide (x.lo≤(a:Int))=true:=by simpa using q1
    by_cases q2:(a:Int) < x.hi
    ·have q2b:decide ((a:Int) < x.hi)=true:=by simpa using q2
     cases p
     ·have hnx:Hid (handler E.f.classes m a cl=(m.handlers.drop (n+1)).find? fun x=>decide (x.lo≤(a:Int)) && decide ((a:Int) < x.hi) && Hier.is E.f.classes cl x.cls):=by
       show _=_
       rw [hall.out,hd.out,List.find?_cons,hp.out];simp
      go_wp2
      go_quiet ((go_at_call 114;exact quiet_eq (rbelowV _ E.f.classes _ _ _ _ hp.out (HC.out.next (hBW.out.trans (below_drewN (by exact Rd.byB) _))) hwf.out)))
      go_wp2
      go_roundw
      case rel=>exact ⟨n+1,by go_num,by omega,hBW.out.trans (below_drewN (by exact Rd.byB) _),by simp;omega,by go_simp,hnx⟩
      case measure=>simp [intOf];omega
     ·have hnx:Hid (x.go=r):=by
       show _=_
       rw [← hr.out,hall.out,hd.out,List.find?_cons,hp.out];simp [q1,q2,goAt]
      go_wp2
      go_quiet ((go_at_call 114;exact quiet_eq (rbelowV _ E.f.classes _ _ _ _ hp.out (HC.out.next (hBW.out.trans (below_drewN (by exact Rd.byB) _))) hwf.out)))
      go_wp2
      go_ret
      exact ⟨ret_int hnx.out,hBW.out.trans (below_drewN (by exact Rd.byB) _)⟩
    ·have q2b:decide ((a:Int) < x.hi)=false:=by simpa using q2
     have hnx:Hid (handler E.f.classes m a cl=(m.handlers.drop (n+1)).find? fun x=>decide (x.lo≤(a:Int)) && decide ((a:Int) < x.hi) && Hier.is E.f.classes cl x.cls):=by
      show _=_
      rw [hall.out,hd.out,List.find?_cons];simp [q2]
     clear hp
     go_wp2
     go_quiet (fail)
     go_wp2
     go_roundw
     case rel=>exact ⟨n+1,by go_num,by omega,hBW.out.trans (below_drewN (by exact Rd.byB) _),by simp;omega,by go_simp,hnx⟩
     case measure=>simp [intOf];omega
   ·have q1b:decide (x.lo≤(a:Int))=false:=by simpa using q1
    have hnx:Hid (handler E.f.classes m a cl=(m.handlers.drop (n+1)).find? fun x=>decide (x.lo≤(a:Int)) && decide ((a:Int) < x.hi) && Hier.is E.f.classes cl x.cls):=by
     show _=_
     rw [hall.out,hd.out,List.find?_cons];simp [q1]
    clear hp
    go_wp2
    go_quiet (fail)
    go_wp2
    go_roundw
    case rel=>exact ⟨n+1,by go_num,by omega,hBW.out.trans (below_drewN (by exact Rd.byB) _),by simp;omega,by go_simp,hnx⟩
    case measure=>simp [intOf];omega
  ·obtain rfl:n=m.handlers.length:=by omega
   have hnx:Hid (-1=r):=by
    show _=_
    rw [← hr.out,hall.out,List.drop_length];rfl
   clear hb
   go_wp2
   go_ret
   exact ⟨ret_int hnx.out,hBW.out⟩
end
end Rhw
namespace Rhw
open Num Rd D Run Mem HierW Hpw
theorem loseR {w:World}{lb:Nat}{l:List Vl}(H:Blk w lb (vcells l)) (hP:Paired l) (k:Nat) (hk:k < l.length) (h1000:l.length≤1000) :
  Calls Tryz.prog 113 #[.slice (some ⟨lb,0,none⟩) l.length l.length,.int .i64 k] w fun e w'=>e=.returned (.tuple #[])∧Blk w' lb (vcells (lose l k))∧Kp (· = lb) w w':=by
 obtain ⟨c0,c1,f0,f1⟩:=Blk.getV H hk
 have HH:=Lib.hid H
 obtain ⟨x,hx⟩:∃ x,Hid (l.getD k Vl.nil=x):=⟨_,rfl⟩
 rw [hx.out] at c0 c1
 by_cases q9:x.kind=9
 ·have h0:=(hP.2 k (by unfold kd;rw [hx.out];exact q9)).1
  obtain ⟨j,rfl⟩:∃ j,k=j+1:=⟨k - 1,by omega⟩
  obtain ⟨d0,d1,g0,g1⟩:=Blk.getV H (i:=j) (by omega)
  have hR:Hid (lose l (j+1)=(l.set j Vl.nil).set (j+1) Vl.nil):=by show _=_;unfold lose;rw [hx.out,if_pos q9];rfl
  have qb:(x.kind==9)=true:=by simpa using q9
  clear H q9
  go_enter Tryz.func113,Tryz.ntmps113
  go_wp2
  go_end0
  refine ⟨rfl,?_,kp_setV (kp_setV (Kp.refl (fun x=>x=lb) w) (.inl rfl) _ _ _ _) (.inl rfl) _ _ _ _⟩
  rw [hR.out]
  exact Blk.setV (Blk.setV HH.out (i:=j) (by omega) Vl.nil) (i:=j+1) (by simpa using hk) Vl.nil
 ·have qb:(x.kind==9)=false:=by simpa using q9
  by_cases q2:x.kind=2
  ·have h0:=pair_lt hP (by unfold kd;rw [hx.out];exact q2)
   obtain ⟨d0,d1,g0,g1⟩:=Blk.getV H (i:=k+1) h0
   have hR:Hid (lose l k=(l.set (k+1) Vl.nil).set k Vl.nil):=by show _=_;unfold lose;rw [hx.out,if_neg q9,if_pos q2]
   have qb2:(x.kind==2)=true:=by simpa using q2
   clear H q9 q2
   go_enter Tryz.func113,Tryz.ntmps113
   go_wp2
   go_end0
   refine ⟨rfl,?_,kp_setV (kp_setV (Kp.refl (fun x=>x=lb) w) (.inl rfl) _ _ _ _) (.inl rfl) _ _ _ _⟩
   rw [hR.out]
   exact Blk.setV (Blk.setV HH.out (i:=k+1) h0 Vl.nil) (i:=k) (by simpa using hk) Vl.nil
  ·have hR:Hid (lose l k=l.set k Vl.nil):=by show _=_;unfold lose;rw [hx.out,if_neg q9,if_neg q2]
   have qb2:(x.kind==2)=false:=by simpa using q2
   clear H q9 q2
   go_enter Tryz.func113,Tryz.ntmps113
   go_wp2
   go_end0
   refine ⟨rfl,?_,kp_setV (Kp.refl (fun x=>x=lb) w) (.inl rfl) _ _ _ _⟩
   rw [hR.out]
   exact Blk.setV HH.out hk Vl.nil
theorem loseR_at {w:World}{lb:Nat}{l:List Vl}(n:Nat) (hn:n=l.length) (H:Blk w lb (vcells l)) (hP:Paired l) (k:Nat) (hk:k < l.length) (h1000:l.length≤1000) :
  Calls Tryz.prog 113 #[.slice (some ⟨lb,0,none⟩) n n,.int .i64 k] w fun e w'=>e=.returned (.tuple #[])∧Blk w' lb (vcells (lose l k))∧Kp (· = lb) w w':=by
 subst hn;exact loseR H hP k hk h1000
theorem storeR {w:World}{lb:Nat}{l:List Vl}(H:Blk w lb (vcells l)) (hlb:lb < w.heap.size) (hP:Paired l) (k:Nat) (v:Vl) (hk:k+width v≤l.length) (h1000:l.length≤1000) :
  Calls Tryz.prog 60 #[.slice (some ⟨lb,0,none⟩) l.length l.length,.int .i64 k,.agg #[.int .i64 v.kind,.int .i64 v.n]] w fun e w'=>e=.returned (.tuple #[])∧Blk w' lb (vcells (Run.store l k v))∧Kp (· = lb) w w':=by
 have HH:=Lib.hid H
 obtain ⟨kd,n⟩:=v
 have hl1:=lose_len l k
 by_cases q:kd=2
 ·subst q
  have hk2:k+2≤l.length:=by simpa [width] using hk
  have hl2:=lose_len (lose l k) (k+1)
  have hR:Hid (Run.store l k ⟨2,n⟩=((lose (lose l k) (k+1)).set (k+1) ⟨9,0⟩).set k ⟨2,n⟩):=by show _=_;unfold Run.store;rw [if_pos rfl]
  have hP1:=Lib.hid (lose_paired hP k)
  have hPh:=Lib.hid hP
  have e1:=Lib.hid hl1
  have e2:=Lib.hid hl2
  clear H hl1 hl2 hP hk
  go_enter Tryz.func60,Tryz.ntmps60
  go_wp2_with (first | (go_at_call 113;(with_reducible refine (loseR_at (l:=l) _ rfl (HH.out.next (Kp.of_below (X:=fun _=>False) (by exact Rd.byB) (Nat.le_refl _)) (fun e=>e)) hPh.out k (by omega) h1000).mono ?_);rintro e w1 ⟨rfl,H1,K1⟩;have y0:=K1.cell (c:=w.heap.size) (o:=0) (v:=.int .i64 2) (by go_simp) (by omega);have y1:=K1.cell (c:=w.heap.size) (o:=1) (v:=.int .i64 n) (by go_simp) (by omega);have sz:=K1.size;replace H1:=Lib.hid H1;replace K1:=Lib.hid K1) | (go_at_call 113;refine (loseR_at (l:=lose l k) _ e1.out.symm H1.out hP1.out (k+1) (by rw [e1.out];omega) (by rw [e1.out];omega)).mono ?_;rintro e w2 ⟨rfl,H2,K2⟩;replace y0:=K2.cell (c:=w.heap.size) (o:=0) y0 (by omega);replace y1:=K2.cell (c:=w.heap.size) (o:=1) y1 (by omega);obtain ⟨d0,d1,d2,d3⟩:=Blk.getV H2 (i:=k+1) (by rw [e2.out,e1.out];omega);obtain ⟨d4,d5,d6,d7⟩:=Blk.getV H2 (i:=k) (by rw [e2.out,e1.out];omega);replace H2:=Lib.hid H2;replace K2:=Lib.hid K2))
  go_end0
  refine ⟨rfl,?_,kp_setV (kp_setV (((Kp.of_below (B:=w.heap.size) (X:=fun x=>x=lb) (by exact Rd.byB) (Nat.le_refl _)).trans K1.out (fun _ h=>.inl h)).trans K2.out (fun _ h=>.inl h)) (.inl rfl) _ _ _ _) (.inl rfl) _ _ _ _⟩
  rw [hR.out]
  exact Blk.setV (Blk.setV H2.out (i:=k+1) (by rw [e2.out,e1.out];omega) ⟨9,0⟩) (i:=k) (by rw [List.length_set,e2.out,e1.out];omega) ⟨2,n⟩
 ·have qb:(kd==2)=false:=by simpa using q
  have hk1:k+1≤l.length:=by simpa [width,q] using hk
  have hR:Hid (Run.store l k ⟨kd,n⟩=(lose l k).set k ⟨kd,n⟩):=by show _=_;unfold Run.store;rw [if_neg q]
  have hPh:=Lib.hid hP
  have e1:=Lib.hid hl1
  clear H hl1 hP hk q
  go_enter Tryz.func60,Tryz.ntmps60
  go_wp2_with ((go_at_call 113;(with_reducible refine (loseR_at (l:=l) _ rfl (HH.out.next (Kp.of_below (X:=fun _=>False) (by exact Rd.byB) (Nat.le_refl _)) (fun e=>e)) hPh.out k (by omega) h1000).mono ?_);rintro e w1 ⟨rfl,H1,K1⟩;have y0:=K1.cell (c:=w.heap.size) (o:=0) (v:=.int .i64 kd) (by go_simp) (by omega);have y1:=K1.cell (c:=w.heap.size) (o:=1) (v:=.int .i64 n) (by go_simp) (by omega);obtain ⟨d4,d5,d6,d7⟩:=Blk.getV H1 (i:=k) (by rw [e1.out];omega);replace H1:=Lib.hid H1;replace K1:=Lib.hid K1))
  go_end0
  refine ⟨rfl,?_,kp_setV ((Kp.of_below (B:=w.heap.size) (X:=fun x=>x=lb) (by exact Rd.byB) (Nat.le_refl _)).trans K1.out (fun _ h=>.inl h)) (.inl rfl) _ _ _ _⟩
  rw [hR.out]
  exact Blk.setV H1.out (i:=k) (by rw [e1.out];omega) ⟨kd,n⟩
theorem sizeR {w:World}{X:Nat→Prop}{v:Value}{l:List Vl}(H:VS w X v l) (h1000:l.length≤1000) :
  Calls Tryz.prog 61 #[v] w fun e w'=>e=.returned (.int .i64 (size l))∧w=w':=by
 obtain ⟨a,cap,rfl,c1,c2⟩:=H.len
 have HH:=Lib.hid H
 clear H
 go_enter Tryz.func61,Tryz.ntmps61
 go_wp2
 go_loop [3,4] (fun n i=>∃ k:Nat,i=.int .i64 k∧k≤l.length∧n=.int .i64 (l.length+twos (l.take k):Nat)) (fun _ i=>l.length - (intOf i).toNat)
 case atStart=>exact ⟨0,rfl,Nat.zero_le _,by simp [twos]⟩
 case round =>
  obtain ⟨k,rfl,hk,rfl⟩:=hrel
  by_cases hlt:k < l.length
  ·obtain ⟨b,o,cap',hx,_,_,hb,_,hel⟩:=HH.out.form (by omega)
   simp only [Value.slice.injEq,true_and] at hx
   obtain ⟨rfl,rfl⟩:=hx
   obtain ⟨z0,_⟩:=hel k hlt
   have ht:=Lib.hid (show l.take (k+1)=l.take k++[l[k]] from by rw [List.take_succ_eq_append_getElem hlt])
   obtain ⟨x,hx⟩:=at_of hlt
   rw [hx.out] at z0 ht
   have hle:=twos_le (l.take k)
   have hle2:(l.take k).length≤k:=List.length_take_le _ _
   obtain ⟨t,hT⟩:∃ t,Hid (twos (l.take k)=t):=⟨_,rfl⟩
   rw [hT.out] at hle ⊢
   have hS:Hid (twos (l.take (k+1))=t+if x.kind=2 then 1 else 0):=by show _=_;rw [ht.out,twos_snoc,hT.out]
   clear hel
   by_cases q:x.kind=2
   ·have qb:(x.kind==2)=true:=by simpa using q
    replace hS:Hid (twos (l.take (k+1))=t+1):=by show _=_;rw [hS.out,if_pos q]
    clear q
    go_wp2
    go_round
    case rel=>exact ⟨k+1,by go_num,by omega,by rw [hS.out];go_num⟩
    case measure=>simp [intOf];omega
   ·have qb:(x.kind==2)=false:=by simpa using q
    replace hS:Hid (twos (l.take (k+1))=t):=by show _=_;rw [hS.out,if_neg q];rfl
    clear q
    go_wp2
    go_round
    case rel=>exact ⟨k+1,by go_num,by omega,by rw [hS.out]⟩
    case measure=>simp [intOf];omega
  ·obtain rfl:k=l.length:=by omega
   go_wp2
   go_ret
   exact ⟨ret_int (by have:=size_twos l;omega),rfl⟩
end Rhw
namespace Rhw
open Num Rd D Run Mem HierW Hpw
structure Pl where
 cb:Nat
 lb:Nat
 vp:Value
 vc:Value
 vh:Value
 Z:Nat→Prop
def KX (E:Ev) (L:RL) (P:Pl) (k:Nat):Prop:=own E L k∨k=P.cb∨k=P.lb
def FX (E:Ev) (L:RL) (P:Pl) (k:Nat):Prop:=KX E L P k∨P.Z k
def Pl.zone (P:Pl) (Z:Nat→Prop):Pl:=⟨P.cb,P.lb,P.vp,P.vc,P.vh,Z⟩
def fcells (P:Pl) (m:Me) (fr:Sf) (vs:Value):List Value:=mcells P.vp P.vc P.vh m++[.slice (some ⟨P.lb,0,none⟩) fr.loc.length fr.loc.length,vs,.int .i64 fr.at_]
structure Fr (E:Ev) (w:World) (L:RL) (P:Pl) (m:Me) (fr:Sf) (vs:Value):Prop where
 blk:Blk w P.cb (fcells P m fr vs)
 loc:Blk w P.lb (vcells fr.loc)
 lbw:P.lb < w.heap.size
 stk:VS w (FX E L P) vs fr.stk
 lo:E.B≤P.cb∧E.B≤P.lb
 far:¬ own E L P.cb∧¬ own E L P.lb
 ne:P.cb≠P.lb
 zlt:∀ k,P.Z k→k < w.heap.size
section
variable {E:Ev}{w w':World}{L L':RL}{h h':Hp}{d:Nat}{s:Sv}{P:Pl}{m:Me}{fr:Sf}{vs:Value}
theorem Fr.cbw (F:Fr E w L P m fr vs):P.cb < w.heap.size:=cell_lt (F.blk 0 (by simp [fcells,mcells])).1
theorem Fr.c0 (F:Fr E w L P m fr vs):w.cell? ⟨P.cb,0,none⟩=some P.vp:=(F.blk 0 (by simp [fcells,mcells])).1
theorem Fr.c1 (F:Fr E w L P m fr vs):w.cell? ⟨P.cb,1,none⟩=some (.int .i64 m.ret.kind):=(F.blk 1 (by simp [fcells,mcells])).1
theorem Fr.c2 (F:Fr E w L P m fr vs):w.cell? ⟨P.cb,2,none⟩=some (.int .i64 m.ret.cls):=(F.blk 2 (by simp [fcells,mcells])).1
theorem Fr.c3 (F:Fr E w L P m fr vs):w.cell? ⟨P.cb,3,none⟩=some (.int .i64 m.stack):=(F.blk 3 (by simp [fcells,mcells])).1
theorem Fr.c8 (F:Fr E w L P m fr vs):w.cell? ⟨P.cb,8,none⟩=some (.slice (some ⟨P.lb,0,none⟩) fr.loc.length fr.loc.length):=(F.blk 8 (by simp [fcells,mcells])).1
theorem Fr.c9 (F:Fr E w L P m fr vs):w.cell? ⟨P.cb,9,none⟩=some vs:=(F.blk 9 (by simp [fcells,mcells])).1
theorem Fr.c10 (F:Fr E w L P m fr vs):w.cell? ⟨P.cb,10,none⟩=some (.int .i64 fr.at_):=(F.blk 10 (by simp [fcells,mcells])).1
theorem Fr.fz (F:Fr E w L P m fr vs) (k:Nat) (hk:k < 11):w.frozen? ⟨P.cb,k,none⟩=false:=(F.blk k (by simp [fcells,mcells];exact hk)).2
theorem Fr.heap (F:Fr E w L P m fr vs) (K:Kp (own E L) w w') (N:∀ k,own E L' k→own E L k∨w.heap.size≤k):Fr E w' L' P m fr vs:=by
 have hc:=F.cbw
 have hl:=F.lbw
 refine ⟨F.blk.next K F.far.1,F.loc.next K F.far.2,Nat.lt_of_lt_of_le hl K.size,F.stk.next K (fun b _ hb=>.inl (.inl hb)) (fun b hb hx=>?_),F.lo,⟨fun hk=>?_,fun hk=>?_⟩,F.ne,fun k hk=>Nat.lt_of_lt_of_le (F.zlt k hk) K.size⟩
 ·rcases hx with (hx | hx) | hx
  ·rcases N b hx with q | q
   ·exact .inl (.inl q)
   ·omega
  ·exact .inl (.inr hx)
  ·exact .inr hx
 ·rcases N _ hk with q | q
  ·exact F.far.1 q
  ·omega
 ·rcases N _ hk with q | q
  ·exact F.far.2 q
  ·omega
theorem Fr.below (F:Fr E w L P m fr vs) (hb:Below w.heap.size w w'):Fr E w' L P m fr vs:=F.heap (kpB hb) same_own
theorem Fr.push (F:Fr E w L P m fr vs){st:List Vl}{v:Value}(hs:VS w (FX E L P) v st):Fr E (w.setCell ⟨P.cb,9,none⟩ v) L P m ⟨fr.loc,st,fr.at_⟩ v:=by
 have K:Kp (fun k=>k=P.cb) w (w.setCell ⟨P.cb,9,none⟩ v):=Kp.setCell (Kp.refl (fun k=>k=P.cb) w) (p:=⟨P.cb,9,none⟩) (.inl rfl) v
 refine ⟨?_,F.loc.next K (fun e=>F.ne e.symm),Nat.lt_of_lt_of_le F.lbw K.size,hs.next K (fun b _ e=>.inl (.inr (.inl e))) (fun _ _ e=>e),F.lo,F.far,F.ne,fun k hk=>Nat.lt_of_lt_of_le (F.zlt k hk) K.size⟩
 exact F.blk.set 9 (by simp [fcells,mcells]) v
theorem Fr.go (F:Fr E w L P m fr vs) (a:Nat):Fr E (w.setCell ⟨P.cb,10,none⟩ (.int .i64 a)) L P m ⟨fr.loc,fr.stk,a⟩ vs:=by
 have K:Kp (fun k=>k=P.cb) w (w.setCell ⟨P.cb,10,none⟩ (.int .i64 a)):=Kp.setCell (Kp.refl (fun k=>k=P.cb) w) (p:=⟨P.cb,10,none⟩) (.inl rfl) _
 refine ⟨?_,F.loc.next K (fun e=>F.ne e.symm),Nat.lt_of_lt_of_le F.lbw K.size,F.stk.next K (fun b _ e=>.inl (.inr (.inl e))) (fun _ _ e=>e),F.lo,F.far,F.ne,fun k hk=>Nat.lt_of_lt_of_le (F.zlt k hk) K.size⟩
 exact F.blk.set 10 (by simp [fcells,mcells]) _
theorem RH.frame (H:RH E w L h d s) (F:Fr E w L P m fr vs) (K:Kp (fun k=>k=P.cb∨k=P.lb) w w'):RH E w' L h d s :=
 H.keep K (fun k hk=>by
  rcases hk with e | e
  ·subst e;exact ⟨F.lo.1,F.far.1⟩
  ·subst e;exact ⟨F.lo.2,F.far.2⟩)
theorem kpC (P:Pl) (w:World) (j:Nat) (v:Value):Kp (fun k=>k=P.cb∨k=P.lb) w (w.setCell ⟨P.cb,j,none⟩ v):=Kp.setCell (Kp.refl _ w) (p:=⟨P.cb,j,none⟩) (.inl (.inl rfl)) v
theorem kpFX {X:Nat→Prop}(K:Kp X w w') (hX:∀ k,X k→KX E L P k):Kp (KX E L P) w w':=K.mono hX
theorem Fr.zone (F:Fr E w L P m fr vs) (hb:Below w.heap.size w w') (Z:Nat→Prop) (h1:∀ k,Z k→P.Z k∨w.heap.size≤k) (h2:∀ k,Z k→k < w'.heap.size):Fr E w' L (P.zone Z) m fr vs:=by
 have G:=F.below hb
 refine ⟨G.blk,G.loc,G.lbw,F.stk.next (kpB (X:=fun _=>False) hb) (fun _ _ e=>e.elim) (fun b hlt hx=>?_),G.lo,G.far,G.ne,h2⟩
 rcases hx with hx | hx
 ·exact .inl hx
 ·rcases h1 b hx with q | q
  ·exact .inr q
  ·omega
theorem Fr.unzone {Z:Nat→Prop}(F:Fr E w L (P.zone Z) m fr vs) (hZ:∀ k,P.Z k→Z k):Fr E w L P m fr vs :=
 ⟨F.blk,F.loc,F.lbw,F.stk.mono (fun b _ hx=>hx.imp_right (hZ b)),F.lo,F.far,F.ne,fun k hk=>F.zlt k (hZ k hk)⟩
theorem Fr.keep (F:Fr E w L P m fr vs){X:Nat→Prop}(K:Kp X w w') (hX:∀ k,X k→k < w.heap.size→P.Z k∧¬ KX E L P k):Fr E w' L P m fr vs:=by
 have no:∀ k,KX E L P k→k < w.heap.size→¬ X k:=fun k hk hl hx=>(hX k hx hl).2 hk
 refine ⟨F.blk.next K (no _ (.inr (.inl rfl)) F.cbw),F.loc.next K (no _ (.inr (.inr rfl)) F.lbw),Nat.lt_of_lt_of_le F.lbw K.size,F.stk.next K (fun b hl hx=>.inr (hX b hx hl).1) (fun _ _ e=>e),F.lo,F.far,F.ne,fun k hk=>Nat.lt_of_lt_of_le (F.zlt k hk) K.size⟩
def TakeR (E:Ev) (L:RL) (P:Pl) (m:Me) (h:Hp) (d:Nat) (s:Sv) (l:List Vl) (fr:Sf) (w:World) (e:Ending) (w':World):Prop :=
 ∃ vt vs',e=.returned vt∧VS w' (FX E L P) vt l∧Fr E w' L P m fr vs'∧RH E w' L h d s∧Kp (KX E L P) w w'
set_option maxRecDepth 100000 in
theorem takeOk (H:RH E w L h d Sv.run) (F:Fr E w L P m fr vs) (n:Nat) (hn:n≤fr.stk.length) (h1000:fr.stk.length≤1000) :
  Calls Tryz.prog 64 #[.pointer (some ⟨E.hb,0,none⟩),.pointer (some ⟨P.cb,0,none⟩),.int .i64 n] w (TakeR E L P m h d Sv.run (fr.stk.drop (fr.stk.length - n)) ⟨fr.loc,fr.stk.take (fr.stk.length - n),fr.at_⟩ w):=by
 have HH:=Lib.hid H
 have HF:=Lib.hid F
 have c9:=F.c9
 have f9:=F.fz 9 (by decide)
 obtain ⟨a,cap,rfl,k1,k2⟩:=F.stk.len
 have hle:((fr.stk.length:Int) - n≥0):=by omega
 have hd:decide ((0:Int)≤(fr.stk.length:Int) - n)=true:=by simp;omega
 have hk:fr.stk.length - n≤fr.stk.length:=by omega
 clear H F
 by_cases hcap:cap=fr.stk.length - n
 ·subst hcap
  go_enter Tryz.func64,Tryz.ntmps64
  go_wp2_with (go_at_call 63;refine (mustT HH.out rfl).mono ?_;rintro e w2 ⟨rfl,rfl⟩)
  go_ret
  have F2:=HF.out.push (HF.out.stk.take hk)
  exact ⟨_,_,rfl,(HF.out.stk.dropE).next (kpC P w 9 _) (fun b _ e=>.inl (.inr e)) (fun _ _ e=>e),F2,HH.out.frame HF.out (kpC P w 9 _),kpFX (kpC P w 9 _) (fun k e=>.inr e)⟩
 ·go_enter Tryz.func64,Tryz.ntmps64
  go_wp2_with (go_at_call 63;refine (mustT HH.out rfl).mono ?_;rintro e w2 ⟨rfl,rfl⟩)
  go_ret
  have F2:=HF.out.push (HF.out.stk.take hk)
  exact ⟨_,_,rfl,(HF.out.stk.dropA hk).next (kpC P w 9 _) (fun b _ e=>.inl (.inr e)) (fun _ _ e=>e),F2,HH.out.frame HF.out (kpC P w 9 _),kpFX (kpC P w 9 _) (fun k e=>.inr e)⟩
theorem info_val:(Tryz.prog.info? 72).map (fun i=>(i.zero,i.size,i.bytes))=some (some (.agg #[.int .i64 0,.int .i64 0]),2,16):=by kernel_rfl
theorem vcells_rep:∀ n:Nat,vcells (List.replicate n Vl.nil)=List.replicate (n*2) (.int .i64 0):=by
 intro n
 induction n with
 | zero=>rfl
 | succ n ih=>rw [show (n+1)*2=n*2+1+1 by omega,List.replicate_succ,List.replicate_succ,List.replicate_succ,← ih];rfl
theorem mkVals (n:Nat) (hn:n≤1000) (w:World):∃ w',(Instr.makeSlice 69 (.int .i64 (n:Int)) (.int .i64 (n:Int))).run Tryz.prog w=.ok (.slice (some ⟨w.heap.size,0,none⟩) n n) w'∧Blk w' w.heap.size (vcells (List.replicate n Vl.nil))∧Below w.heap.size w w'∧w.heap.size < w'.heap.size:=by
 obtain ⟨i,hi,hz,h1,h2⟩:=info_parts info_val
 obtain ⟨w',hrun,hown,hg⟩:=run_make_full (P:=Tryz.prog) (w:=w) w.heap.size 69 72 i (.agg #[.int .i64 0,.int .i64 0]) 2 Tryz.underlying69 hi hz h1 .i64 .i64 n (by rw [h2];omega) (by unfold maxLen;omega) (Nat.le_refl _)
 refine ⟨w',hrun,fun j hj=>?_,?_,(World.ownsRow.lt hown _ rfl).2⟩
 ·have hj2:(madeCells (Value.agg #[.int .i64 0,.int .i64 0]).cells (n*2)).toList[j]? = some ((vcells (List.replicate n Vl.nil))[j]):=by
   have hl:j < n*2:=by rw [vcells_len,List.length_replicate] at hj;exact hj
   have e2:(vcells (List.replicate n Vl.nil))[j]=.int .i64 0:=by
    have:=vcells_rep n
    simp only [this,List.getElem_replicate]
   rw [e2]
   have e3:(j % 2=0)∨(j % 2=1):=by omega
   rcases e3 with e3 | e3 <;> simp [madeCells,Value.cells,hl,e3]
  exact ⟨row_cell hown hj2,row_free hown⟩
 ·exact (Kp.of_grown (X:=fun _=>False) hg (fun k e=>by cases e)).below (Nat.le_refl _) (fun _ e=>e.elim)
set_option maxRecDepth 100000 in
theorem takeStuck (H:RH E w L h d Sv.run) (F:Fr E w L P m fr vs) (n:Nat) (hn:fr.stk.length < n) (h4:n≤4) (k:Int) (hk:k=n) :
  Calls Tryz.prog 64 #[.pointer (some ⟨E.hb,0,none⟩),.pointer (some ⟨P.cb,0,none⟩),.int .i64 k] w (TakeR E L P m h d (Sv.ends 6) (List.replicate n Vl.nil) fr w):=by
 have HH:=Lib.hid H
 have HF:=Lib.hid F
 have c9:=F.c9
 obtain ⟨a,cap,rfl,k1,k2⟩:=F.stk.len
 have e1:=ended H rfl 6 (Below.refl w.heap.size w)
 obtain ⟨w2,hrun,hblk,hbel,hlt⟩:=mkVals n (by omega) ((w.setCell ⟨E.hb,12,none⟩ (.bool true)).setCell ⟨E.hb,6,none⟩ (.int .i64 6))
 subst hk
 have hs:((w.setCell ⟨E.hb,12,none⟩ (.bool true)).setCell ⟨E.hb,6,none⟩ (.int .i64 6)).heap.size=w.heap.size:=by simp [World.setCell]
 rw [hs] at hblk hlt
 have E1:=Lib.hid e1
 clear hs
 have HB:=Lib.hid hblk
 have HL:=Lib.hid hbel
 have hd1:decide ((0:Int)≤(fr.stk.length:Int) - n)=false:=by simp;omega
 have hd2:decide ((n:Int)≤(fr.stk.length:Int))=false:=by simp;omega
 have hd3:decide (n≤fr.stk.length)=false:=by simp;omega
 have hd4:¬ ((0:Int)≤(fr.stk.length:Int) - n):=by omega
 clear H F e1 hblk hbel
 go_enter Tryz.func64,Tryz.ntmps64
 go_wp2_with (go_at_call 63;refine (mustF HH.out rfl).mono ?_;rintro e w2 ⟨rfl,rfl⟩)
 go_ret
 have hfx:¬ FX E L P w.heap.size:=fun hx=>by
  rcases hx with (hx | hx | hx) | hx
  ·exact (fresh_b HH.out (Nat.le_refl _)).2 hx
  ·have:=HF.out.cbw;omega
  ·have:=HF.out.lbw;omega
  ·have:=HF.out.zlt _ hx;omega
 have V:=VS.of_blk (l:=List.replicate n Vl.nil) (cap:=n) HB.out hfx (by simp) (by omega)
 rw [List.length_replicate] at V
 obtain ⟨A1,A2⟩:=E1.out
 exact ⟨_,_,rfl,V,(HF.out.heap A2 same_own).below HL.out,A1.below HL.out,(kb A2 HL.out).mono (fun k hk=>.inl hk)⟩
end
end Rhw
namespace Run
theorem stk_last {l:List Vl}(h:l≠[]):l=l.dropLast++[top l]:=by
 unfold top
 rw [List.getLast?_eq_some_getLast h]
 exact (List.dropLast_concat_getLast h).symm
theorem stk_drop1 {l:List Vl}(h:l≠[]):l.drop (l.length - 1)=[top l]:=by
 have e:=stk_last h
 have hl:l.length - 1=l.dropLast.length:=by simp
 rw [hl]
 conv=>lhs;rw [e]
 simp
theorem stk_take1 (l:List Vl):l.take (l.length - 1)=l.dropLast:=(List.dropLast_eq_take).symm
theorem stk_drop2 {l:List Vl}(h:l≠[]) (h2:l.dropLast≠[]):l.drop (l.length - 2)=[top l.dropLast,top l]:=by
 have e:=stk_last h
 have e2:=stk_last h2
 have hl:l.length - 2=l.dropLast.dropLast.length:=by simp;omega
 rw [hl]
 conv=>lhs;rw [e]
 rw [show l.dropLast++[top l]=l.dropLast.dropLast++[top l.dropLast,top l] by
                                                                                     conv=>lhs;rw [e2]
                                                                                     simp]
 simp
theorem stk_take2 (l:List Vl):l.take (l.length - 2)=l.dropLast.dropLast:=by
 rw [List.dropLast_eq_take,List.dropLast_eq_take,List.take_take,List.length_take]
 congr 1
 omega
theorem stk_ne {l:List Vl}(h:l≠[]):1≤l.length:=by cases l <;> simp_all
theorem stk_ne2 {l:List Vl}(h:l≠[]) (h2:l.dropLast≠[]):2≤l.length:=by
 have:=stk_ne h
 have h3:=stk_ne h2
 rw [List.length_dropLast] at h3
 omega
end Run
end Go.Proofs.YtncmhenfgbcihabGreat
