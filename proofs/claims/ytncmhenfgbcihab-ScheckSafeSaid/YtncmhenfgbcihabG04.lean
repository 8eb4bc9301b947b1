/- Parts of the proof: Se, Sf, Sg, Sh, Si. -/
import Derived.Test.YtncmhenfgbcihabG03
import Derived.BigQuiet
import Derived.Deep.RegionLaw
import Derived.BigRegion
import Derived.StillTailTactics
namespace Go.Proofs.Ytncmhenfgbcihab
open Go.RowKit
set_option linter.unusedSimpArgs false
set_option linter.unusedVariables false
namespace Sck
open Num Rd D Mem Hpw Flow HierW FormW
theorem news_of {W : World} {l : List Value} {T : TypeId} {b : Nat} (hb : b = W.heap.size) : ∀ j u,l[j]? = some u → (W.alloc (.cells l.toArray T)).cell? ((⟨b,0,none⟩ : Addr).add j) = some u:=fun j u hj=>by
  subst hb
  have hadd : (⟨W.heap.size,0,none⟩ : Addr).add j = ⟨W.heap.size,j,none⟩:=by unfold Addr.add;split <;> simp_all
  rw [hadd,World.cell?_alloc_new]
  simpa using hj
structure MS (E : FE) (w : World) (B0 mb : Nat) (vs vk : Value) (s : State) : Prop where
  blk : Blk w mb [.pointer (some ⟨E.cb,0,none⟩),vs,vk,.bool false]
  slots : TR w B0 vs s.slots
  stack : TR w B0 vk s.stack
  lo : B0 ≤ mb
  n1 : vs.ownBlock ≠ some mb
  n2 : vk.ownBlock ≠ some mb
  n3 : ∀ g,vs.ownBlock = some g → vk.ownBlock ≠ some g
  live : s.broken = false
  ck : ∃ bad,Blk w E.cb (ccells E bad)
  cls : Sl 2 ECls w B0 E.vc E.f.classes
  mes : Sl 8 EMe w B0 E.vm E.f.methods
  low : E.cb < B0
  may : Hier.may E.f.classes = true
def mo (mb : Nat) (vs vk : Value) (k : Nat) : Prop:=k = mb ∨ vs.ownBlock = some k ∨ vk.ownBlock = some k
section
variable {E : FE} {w w' : World} {B0 mb : Nat} {vs vk : Value} {s : State}
theorem MS.mbw (M : MS E w B0 mb vs vk s) : mb < w.heap.size:=cell_lt (M.blk 0 (by simp)).1
theorem MS.base (M : MS E w B0 mb vs vk s) : B0 ≤ w.heap.size:=Nat.le_of_lt (Nat.lt_of_le_of_lt M.lo M.mbw)
theorem MS.mo_lo (M : MS E w B0 mb vs vk s) {k : Nat} (hk : mo mb vs vk k) : B0 ≤ k ∧ k < w.heap.size:=by
  rcases hk with e | e | e
  · subst e;exact ⟨M.lo,M.mbw⟩
  · exact M.slots.lt e
  · exact M.stack.lt e
theorem MS.kb (M : MS E w B0 mb vs vk s) (K : Kp (mo mb vs vk) w w') : Below B0 w w':=K.below M.base (fun x hx=>(M.mo_lo hx).1)
theorem MS.below (M : MS E w B0 mb vs vk s) (hb : Below w.heap.size w w') : MS E w' B0 mb vs vk s:=by
  have hb0:=hb.mono M.base
  obtain ⟨bad,ck⟩:=M.ck
  exact ⟨M.blk.next (X:=fun _=>False) (Kp.of_below hb (Nat.le_refl _)) (fun e=>e),M.slots.below hb,M.stack.below hb,M.lo,M.n1,M.n2,M.n3,M.live,⟨bad,ck.next (X:=fun _=>False) (Kp.of_below hb (Nat.le_refl _)) (fun e=>e)⟩,M.cls.mono mCls hb0 (Nat.le_refl _),M.mes.mono mMe hb0 (Nat.le_refl _),M.low,M.may⟩
theorem MS.cs (M : MS E w B0 mb vs vk s) : Cs w E.vc E.f.classes:=M.cls.mono mCls (Below.refl _ _) M.base
theorem MS.wf (M : MS E w B0 mb vs vk s) : Hier.Wf E.f.classes:=Hier.wf_of_may M.may
theorem MS.setStack (M : MS E w B0 mb vs vk s) {v2 : Value} {st : List Ty} {w2 : World} (K : Kp (fun k=>vk.ownBlock = some k) w w2) (h : TR w2 B0 v2 st) (h2 : ∀ g,v2.ownBlock = some g → vk.ownBlock = some g ∨ w.heap.size ≤ g) : MS E (w2.setCell ⟨mb,2,none⟩ v2) B0 mb vs v2 ⟨s.slots,st,s.broken⟩ ∧ Kp (mo mb vs vk) w (w2.setCell ⟨mb,2,none⟩ v2):=by
  have K2 : Kp (fun k=>k = mb) w2 (w2.setCell ⟨mb,2,none⟩ v2):=Kp.setCell (Kp.refl (fun k=>k = mb) w2) (p:=⟨mb,2,none⟩) (.inl rfl) v2
  have hmb:=M.mbw
  have hKK : Kp (mo mb vs vk) w (w2.setCell ⟨mb,2,none⟩ v2):=(K.mono (fun k hk=>.inr (.inr hk))).trans K2 (fun y e=>.inl (.inl e))
  have hbB : Below B0 w (w2.setCell ⟨mb,2,none⟩ v2):=(K.below M.base (fun k hk=>(M.stack.lt hk).1)).trans (K2.below (Nat.le_trans M.base K.size) (fun k e=>by subst e;exact M.lo))
  obtain ⟨bad,ck⟩:=M.ck
  have hn2 : v2.ownBlock ≠ some mb:=fun e=>by
    rcases h2 mb e with q | q
    · exact M.n2 q
    · omega
  refine ⟨⟨?_,?_,h.keep K2 (fun g hg e=>hn2 (by rw [hg,e])),M.lo,M.n1,hn2,fun g h1 h3=>?_,M.live,⟨bad,fun j hj=>?_⟩,M.cls.mono mCls hbB (Nat.le_refl _),M.mes.mono mMe hbB (Nat.le_refl _),M.low,M.may⟩,hKK⟩
  · exact (M.blk.next K (fun e=>M.n2 e)).set 2 (by simp) v2
  · exact (M.slots.keep K (fun g hg e=>M.n3 g hg e)).keep K2 (fun g hg e=>M.n1 (by rw [hg,e]))
  · rcases h2 g h3 with q | q
    · exact M.n3 g h1 q
    · have:=(M.slots.lt h1).2;omega
  · exact ⟨kept hbB M.low (ck j hj).1,keptf hbB M.low (ck j hj).2⟩
def AnsO (E : FE) (B0 mb : Nat) (vs vk : Value) (w : World) (v : State → Value) (o : Option State) (e : Ending) (w' : World) : Prop :=
  match o with
  | some s'=>e = .returned (v s') ∧ (∃ vk',MS E w' B0 mb vs vk' s' ∧ ∀ g,vk'.ownBlock = some g → vk.ownBlock = some g ∨ w.heap.size ≤ g) ∧ Kp (mo mb vs vk) w w'
  | none=>e = .panicked [brk] ∧ (∃ x y z u,Blk w' mb [x,y,z,u]) ∧ Kp (mo mb vs vk) w w'
def unit_ (_ : State) : Value:=.tuple #[]
def tyV (t : Ty) : Value:=.agg #[.int .i64 t.kind,.int .i64 t.cls]
theorem last_get {l : List Ty} (h : l ≠ []) : l.getLast?.getD none_ = l.getD (l.length - 1) none_:=by
  rw [List.getLast?_eq_getElem?,List.getD_eq_getElem?_getD]
set_option maxHeartbeats 1000000 in
theorem anyP (M : MS E w B0 mb vs vk s) (h : s.stack = []) : Calls Try.prog 232 #[.pointer (some ⟨mb,0,none⟩)] w fun e w'=>e = .panicked [brk] ∧ Below w.heap.size w w':=by
  obtain ⟨a,cap,hv⟩:=M.stack.any
  have c2:=(M.blk 2 (by simp)).1
  have hmb:=M.mbw
  simp only [List.getElem_cons_zero,List.getElem_cons_succ] at c2
  rw [hv,h] at c2
  clear hv
  go_enter Try.func232,Try.ntmps232
  go_wp2_with (go_at_call 231;refine (mustF _).mono ?_;rintro e w2 ⟨rfl,rfl⟩)
  refine And.intro rfl ?_
  exact ⟨rfl,by exact Rd.byB⟩
set_option maxRecDepth 100000 in
set_option maxHeartbeats 2000000 in
theorem anyY (M : MS E w B0 mb vs vk s) (h : s.stack ≠ []) (hbig : s.stack.length ≤ 1000000) : Calls Try.prog 232 #[.pointer (some ⟨mb,0,none⟩)] w (AnsO E B0 mb vs vk w (fun _=>tyV (Chk.last s)) (some (Chk.pop s))):=by
  have hpos : 0 < s.stack.length:=List.length_pos_iff.2 h
  obtain ⟨g,cap,rfl,k1,k2,k3,k4,hcs⟩:=M.stack.form hpos
  have c2:=(M.blk 2 (by simp)).1
  have f2:=(M.blk 2 (by simp)).2
  have hmb:=M.mbw
  have hmb1 : mb < w.heap.size + 1:=by omega
  have hmb2 : mb < w.heap.size + 1 + 1:=by omega
  have g1 : g < w.heap.size + 1:=by omega
  have g2 : g < w.heap.size + 1 + 1:=by omega
  simp only [List.getElem_cons_zero,List.getElem_cons_succ] at c2
  obtain ⟨z0,z1,_,_⟩:=hcs (s.stack.length - 1) (by omega)
  obtain ⟨t,ht⟩ : ∃ t,Hid (s.stack.getD (s.stack.length - 1) none_ = t):=⟨_,Lib.hid rfl⟩
  have hl : Hid (Chk.last s = t):=by show _ = _;unfold Chk.last;rw [last_get h];exact ht.out
  rw [ht.out] at z0 z1
  have HM:=Lib.hid M
  obtain ⟨n,hn⟩ : ∃ n,s.stack.length = n + 1:=⟨s.stack.length - 1,by omega⟩
  rw [hn,Nat.add_sub_cancel] at z0 z1
  rw [hn] at c2
  have hnb : n + 1 ≤ 1000000:=by omega
  have s1 : IntKind.i64.wrap (((n + 1 : Nat) : Int) - 1) = (n : Int):=by rw [Num.wrap_i64,wrap64_id (by unfold Ok;omega)];omega
  have k1' : n + 1 ≤ cap:=by omega
  unfold AnsO
  simp only
  rw [hl.out]
  unfold tyV
  clear hcs h hbig M
  go_enter Try.func232,Try.ntmps232
  go_wp2_with (go_at_call 231;refine (mustT _).mono ?_;rintro e w2 ⟨rfl,rfl⟩)
  refine bodyPost_ret (v:=.agg #[.int .i64 t.kind,.int .i64 t.cls]) (by simp [results,Try.results232,go_sem] <;> go_simp) rfl ?_
  have HT : TR w B0 (.slice (some ⟨g,0,none⟩) n cap) s.stack.dropLast:=by
    have:=HM.out.stack.take (k:=n) (by omega)
    rw [List.dropLast_eq_take,hn]
    exact this
  obtain ⟨A,hb⟩:=HM.out.setStack (w2:=w) (Kp.refl _ w) HT (fun _ e=>.inl e)
  have hbs:=HM.out.base
  exact ⟨rfl,⟨_,A.below (by exact Rd.byB),fun g hg=>.inl hg⟩,hb.trans (Kp.of_below (X:=fun _=>False) (by exact Rd.byB) (Nat.le_refl _)) (fun _ e=>e.elim)⟩
set_option maxRecDepth 100000 in
set_option maxHeartbeats 2000000 in
theorem put (M : MS E w B0 mb vs vk s) (x : Ty) (hx : TOk x) (hbig : s.stack.length ≤ 1000000) : Calls Try.prog 228 #[.pointer (some ⟨mb,0,none⟩),tyV x] w (AnsO E B0 mb vs vk w unit_ (Chk.put E.m s x)):=by
  obtain ⟨io,hi',hy0,hy1,hy2⟩:=info_parts info_ty
  obtain ⟨a,cap,rfl⟩:=M.stack.any
  have c2:=(M.blk 2 (by simp)).1
  have c0:=(M.blk 0 (by simp)).1
  have f2:=(M.blk 2 (by simp)).2
  simp only [List.getElem_cons_zero,List.getElem_cons_succ] at c2 c0
  have hmb:=M.mbw
  have hmb1 : mb < w.heap.size + 1:=by omega
  obtain ⟨bad,hck⟩:=M.ck
  have ck6:=(hck 6 (by simp [ccells,meV])).1
  simp [ccells,meV] at ck6
  have hcb:=cell_lt ck6
  have hcb1 : E.cb < w.heap.size + 1:=by omega
  have HM:=Lib.hid M
  have hB0:=M.base
  have hst : Hid (w.ownsRow B0 51 2 (.slice a s.stack.length cap) s.stack.length (tcells s.stack)):=M.stack.1
  obtain ⟨xk,xc⟩:=x
  obtain ⟨S,hS⟩ : ∃ S,Hid (Form.slots (s.stack ++ [⟨xk,xc⟩]) = S):=⟨_,Lib.hid rfl⟩
  have hput : Hid (Chk.put E.m s ⟨xk,xc⟩ = if (S : Int) ≤ E.m.stack then some ⟨s.slots,s.stack ++ [⟨xk,xc⟩],s.broken⟩ else none):=by show _ = _;unfold Chk.put;rw [hS.out]
  obtain ⟨p,hp⟩ : ∃ p,decide ((S : Int) ≤ E.m.stack) = p:=⟨_,rfl⟩
  have hput2 : Hid (Chk.put E.m s ⟨xk,xc⟩ = if p = true then some ⟨s.slots,s.stack ++ [⟨xk,xc⟩],s.broken⟩ else none):=by show _ = _;rw [hput.out,← hp];simp
  unfold tyV
  clear hck M
  go_enter Try.func228,Try.ntmps228
  go_wp2
  go_region_law ((refine step_append_lies _ rfl (.tmp 9) (.tmp 11) 49 rfl B0 51 io (.agg #[.int .i64 0,.int .i64 0]) 2 16 Try.underlying49 hi' hy0 hy1 hy2 rfl (by decide) (.slice a s.stack.length cap) s.stack.length (tcells s.stack) (by simp [Act.eval,Act.put]) (by exact row_drew ((hst.out.alloc _).alloc _)) ⟨w.heap.size + 1,0,none⟩ 1 1 [.int .i64 xk,.int .i64 xc] (by simp [Act.eval,Act.put]) rfl (by exact news_of (by simp)) (by simp [Value.oneCell']) (by decide) (by unfold maxLen;omega) (by omega) (by simp;omega) _ rfl ?_;intro g2 cap2 w3 hown3 hgrow3 hat3 hlt3;have hK3 : Kp (fun k=>(Value.slice a s.stack.length cap).ownBlock = some k) w w3:=(Kp.of_below (by exact Rd.byB) (Nat.le_refl _)).trans (Kp.of_grown (X:=fun k=>(Value.slice a s.stack.length cap).ownBlock = some k) hgrow3 (fun k e=>e)) (fun y hy=>.inl hy);have q1 : w3.cell? ⟨mb,2,none⟩ = some (.slice a s.stack.length cap):=hK3.cell c2 (fun e=>HM.out.n2 e);have q2 : w3.frozen? ⟨mb,2,none⟩ = false:=hK3.frz f2 hmb (fun e=>HM.out.n2 e);have hat4 : (Value.slice a s.stack.length cap).ownBlock = some g2 ∨ w.heap.size ≤ g2:=(hat3.imp id (fun e=>by rw [e];simp;omega));have HA:=Lib.hid (HM.out.setStack (v2:=.slice (some ⟨g2,0,none⟩) (s.stack.length + 1) cap2) (st:=s.stack ++ [⟨xk,xc⟩]) hK3 ⟨by rw [List.length_append,tcells_append];exact hown3,HM.out.stack.2.append hx⟩ (fun g hg=>by have e : g = g2:=(by simpa [Value.ownBlock,eq_comm] using hg);subst e;exact hat4));replace hat4:=Lib.hid hat4;clear hown3 hgrow3 hat3 hK3))
  all_goals
    go_wp2_with fail
    obtain ⟨A,hbA⟩:=HA.out
    generalize w3.setCell ⟨mb,2,none⟩ (.slice (some ⟨g2,0,none⟩) (s.stack.length + 1) cap2) = W at A hbA ⊢
    have d0:=(A.blk 0 (by simp)).1
    have d2:=(A.blk 2 (by simp)).1
    obtain ⟨bad2,hck2⟩:=A.ck
    have d6:=(hck2 6 (by simp [ccells,meV])).1
    simp [ccells,meV] at d6
    simp only [List.getElem_cons_zero,List.getElem_cons_succ] at d0 d2
    clear HA hck2
    refine wp_region_held_drew (S:=fun w'=>w'.cell? ⟨mb,0,none⟩ = some (.pointer (some ⟨E.cb,0,none⟩)) ∧ w'.cell? ⟨mb,2,none⟩ = some (.slice (some ⟨g2,0,none⟩) (s.stack.length + 1) cap2) ∧ w'.cell? ⟨E.cb,6,none⟩ = some (.int .i64 E.m.stack)) (by kernel_rfl) (by (try dsimp only);exact ⟨d0,d2,d6⟩) (fun hHeld=>?_)
    refine Drawn.tk 0 (some 16) rfl rfl (by assumption) ?_
    try simp only [Act.put,Drawn.La,Drawn.Lb,Drawn.Lc]
    refine Drawn.tk 1 (some 17) rfl rfl (by assumption) ?_
    try simp only [Act.put,Drawn.La,Drawn.Lb,Drawn.Lc]
    refine Drawn.tk 2 (some 18) rfl rfl (by assumption) ?_
    try simp only [Act.put,Drawn.La,Drawn.Lb,Drawn.Lc]
    refine Drawn.tk 3 (some 19) rfl rfl (by assumption) ?_
    try simp only [Act.put,Drawn.La,Drawn.Lb,Drawn.Lc]
    refine Drawn.tk 4 (some 20) rfl rfl (by assumption) ?_
    try simp only [Act.put,Drawn.La,Drawn.Lb,Drawn.Lc]
    refine Drawn.tk 6 (some 22) rfl rfl (by assumption) ?_
    try simp only [Act.put,Drawn.La,Drawn.Lb,Drawn.Lc]
    refine Drawn.tk 7 (some 23) rfl rfl (by assumption) ?_
    try simp only [Act.put,Drawn.La,Drawn.Lb,Drawn.Lc]
    refine Drawn.tk 8 (some 24) rfl rfl (by assumption) ?_
    try simp only [Act.put,Drawn.La,Drawn.Lb,Drawn.Lc]
    refine Drawn.tk 9 (some 25) rfl rfl (by assumption) ?_
    try simp only [Act.put,Drawn.La,Drawn.Lb,Drawn.Lc]
    refine Drawn.tk 10 (some 26) rfl rfl (by assumption) ?_
    try simp only [Act.put,Drawn.La,Drawn.Lb,Drawn.Lc]
    refine Drawn.tk 11 (some 27) rfl rfl (by assumption) ?_
    try simp only [Act.put,Drawn.La,Drawn.Lb,Drawn.Lc]
    refine Drawn.tk 12 (some 28) rfl rfl (by assumption) ?_
    try simp only [Act.put,Drawn.La,Drawn.Lb,Drawn.Lc]
    refine Drawn.tk 13 (some 29) rfl rfl (by assumption) ?_
    try simp only [Act.put,Drawn.La,Drawn.Lb,Drawn.Lc]
    refine wpAnyH_ready (rs:=[5]) (by kernel_rfl) (by simp) ?_
    refine AllReadyH.cons rfl (fun K hK=>?_) AllReadyH.nil
    go_simp
    go_at_call 92
    refine (slotsV _ (s.stack ++ [⟨xk,xc⟩]) S _ (by have h:=(A.stack.ts (X:=fun _=>False) (fun _ _ e=>e)).below (X':=fun _=>False) (w':=W.drew) (by exact Rd.byB) (fun _ _ e=>e);simp only [List.length_append,List.length_cons,List.length_nil] at h;exact h.sl) (by simp;omega) hS.out).mono ?_
    rintro e w4 ⟨rfl,hb4⟩
    have hbW : Below W.heap.size W w4:=Below.trans (by exact Rd.byB) (hb4.mono Rd.byL)
    have A2:=Lib.hid (A.below hbW)
    have hlo:=A.low
    have e0:=kept hbW (cell_lt d0) d0
    have e2:=kept hbW (cell_lt d2) d2
    have e6:=kept hbW (cell_lt d6) d6
    go_wp2_with fail
    refine hK.out _ _ (by (try dsimp only);exact ⟨e0,e2,e6⟩) (fun hHeld=>?_)
    clear hK K
    try simp only [Act.put,Drawn.La,Drawn.Lb,Drawn.Lc]
    refine Drawn.tk 14 (some 30) rfl rfl (by assumption) ?_
    try simp only [Act.put,Drawn.La,Drawn.Lb,Drawn.Lc]
    refine wpAnyH_ready (rs:=[15]) (by kernel_rfl) (by simp) ?_
    refine AllReadyH.cons rfl (fun K hK=>?_) AllReadyH.nil
    go_simp
    cases p
    · refine (mustF _).mono ?_
      rintro e w5 ⟨rfl,rfl⟩
      refine And.intro rfl ?_
      rw [hput2.out]
      exact ⟨rfl,⟨_,_,_,_,A2.out.blk⟩,hbA.trans (Kp.of_below (X:=fun _=>False) hbW (Nat.le_refl _)) (fun _ e=>e.elim)⟩
    · refine (mustT _).mono ?_
      rintro e w5 ⟨rfl,rfl⟩
      go_wp2_with fail
      refine hK.out _ _ (by (try dsimp only);exact ⟨e0,e2,e6⟩) (fun hHeld=>?_)
      clear hK K
      try simp only [Act.put,Drawn.La,Drawn.Lb,Drawn.Lc]
      refine wpAnyH_done (by kernel_rfl) ?_ _
      go_wp2
      go_end0
      rw [hput2.out]
      exact ⟨rfl,⟨_,A2.out,fun g hg=>by have e : g = g2:=(by simpa [Value.ownBlock,eq_comm] using hg);subst e;exact hat4.out⟩,hbA.trans (Kp.of_below (X:=fun _=>False) hbW (Nat.le_refl _)) (fun _ e=>e.elim)⟩
end
end Sck
end Go.Proofs.Ytncmhenfgbcihab
namespace Go.Proofs.Ytncmhenfgbcihab
open Go.RowKit
set_option linter.unusedSimpArgs false
set_option linter.unusedVariables false
namespace Sck
open Num Rd D Mem Hpw Flow HierW FormW
section
variable {E : FE} {w w' : World} {B0 mb : Nat} {vs vk : Value} {s : State}
theorem ansN {v : State → Value} {e : Ending} {w' : World} {o : Option State} (ho : o = none) (he : e = .panicked [brk]) (B : ∃ x y z u,Blk w' mb [x,y,z,u]) (K : Kp (mo mb vs vk) w w') : AnsO E B0 mb vs vk w v o e w':=by
  subst ho;exact ⟨he,B,K⟩
theorem MS.ex (M : MS E w B0 mb vs vk s) : ∃ x y z u,Blk w mb [x,y,z,u]:=⟨_,_,_,_,M.blk⟩
theorem ansS {v : State → Value} {e : Ending} {w' : World} {o : Option State} {s' : State} {vk' : Value} (ho : o = some s') (he : e = .returned (v s')) (M : MS E w' B0 mb vs vk' s') (N : ∀ g,vk'.ownBlock = some g → vk.ownBlock = some g ∨ w.heap.size ≤ g) (K : Kp (mo mb vs vk) w w') : AnsO E B0 mb vs vk w v o e w':=by
  subst ho;exact ⟨he,⟨vk',M,N⟩,K⟩
theorem kpb {X : Nat → Prop} {w0 w1 w2 : World} (K : Kp X w0 w1) (hb : Below w1.heap.size w1 w2) : Kp X w0 w2:=K.trans (Kp.of_below (X:=fun _=>False) hb (Nat.le_refl _)) (fun _ h=>h.elim)
theorem take_nil {c : List Cls} {t : Ty} (h : s.stack = []) : Chk.take c t s some = none:=by unfold Chk.take Chk.any;rw [if_pos h]
theorem take_one {c : List Cls} {t : Ty} (h : s.stack ≠ []) : Chk.take c t s some = if Flow.fits c (Chk.last s) t then some (Chk.pop s) else none:=by unfold Chk.take Chk.any;rw [if_neg h]
set_option maxRecDepth 100000 in
set_option maxHeartbeats 2000000 in
theorem take (M : MS E w B0 mb vs vk s) (t : Ty) (hbig : s.stack.length ≤ 1000000) : Calls Try.prog 234 #[.pointer (some ⟨mb,0,none⟩),tyV t] w (AnsO E B0 mb vs vk w unit_ (Chk.take E.f.classes t s some)):=by
  have c0:=(M.blk 0 (by simp)).1
  simp only [List.getElem_cons_zero,List.getElem_cons_succ] at c0
  have hmb:=M.mbw
  have hmb1 : mb < w.heap.size + 1:=by omega
  obtain ⟨bad,hck⟩:=M.ck
  have ck1:=(hck 1 (by simp [ccells,meV])).1
  simp [ccells,meV] at ck1
  have hcb:=cell_lt ck1
  have hcb1 : E.cb < w.heap.size + 1:=by omega
  have HM:=Lib.hid M
  have hB0:=M.base
  obtain ⟨ca,ccap,hvc,_⟩:=M.cls
  have HC:=Lib.hid M.cs
  have hwf:=M.wf
  obtain ⟨tk,tc⟩:=t
  by_cases h : s.stack = []
  · have hr:=Lib.hid (take_nil (c:=E.f.classes) (t:=⟨tk,tc⟩) h)
    unfold tyV
    rw [hr.out]
    rw [hvc] at ck1
    clear hck M hvc
    go_enter Try.func234,Try.ntmps234
    go_wp2_with fail
    obtain ⟨W,hW⟩ : ∃ W,W = w.alloc (.cells #[.int .i64 tk,.int .i64 tc] 51):=⟨_,rfl⟩
    have d0 : W.cell? ⟨mb,0,none⟩ = some (.pointer (some ⟨E.cb,0,none⟩)):=by rw [hW];go_simp
    have d1 : W.cell? ⟨E.cb,1,none⟩ = some (.slice ca E.f.classes.length ccap):=by rw [hW];go_simp
    have b0 : W.cell? ⟨w.heap.size,0,none⟩ = some (.int .i64 tk):=by rw [hW];go_simp
    have b1 : W.cell? ⟨w.heap.size,1,none⟩ = some (.int .i64 tc):=by rw [hW];go_simp
    have hbW : Below w.heap.size w W:=by rw [hW];exact Rd.byB
    have A:=Lib.hid (HM.out.below hbW)
    rw [← hW]
    clear hW
    refine wp_region_held_drew (S:=fun w'=>(w'.cell? ⟨mb,0,none⟩ = some (.pointer (some ⟨E.cb,0,none⟩)) ∧ w'.cell? ⟨E.cb,1,none⟩ = some (.slice ca E.f.classes.length ccap)) ∧ w'.cell? ⟨w.heap.size,0,none⟩ = some (.int .i64 tk) ∧ w'.cell? ⟨w.heap.size,1,none⟩ = some (.int .i64 tc)) (by kernel_rfl) (by (try dsimp only);exact ⟨⟨d0,d1⟩,b0,b1⟩) (fun hHeld=>?_)
    refine Drawn.tk 0 (some 4) rfl rfl (by assumption) ?_
    try simp only [Act.put,Drawn.La,Drawn.Lb,Drawn.Lc]
    refine Drawn.tk 1 (some 5) rfl rfl (by assumption) ?_
    try simp only [Act.put,Drawn.La,Drawn.Lb,Drawn.Lc]
    refine Drawn.tk 2 (some 6) rfl rfl (by assumption) ?_
    try simp only [Act.put,Drawn.La,Drawn.Lb,Drawn.Lc]
    refine Drawn.tk 3 (some 7) rfl rfl (by assumption) ?_
    try simp only [Act.put,Drawn.La,Drawn.Lb,Drawn.Lc]
    refine Drawn.tk 4 (some 8) rfl rfl (by assumption) ?_
    try simp only [Act.put,Drawn.La,Drawn.Lb,Drawn.Lc]
    refine Drawn.tk 5 (some 9) rfl rfl (by assumption) ?_
    try simp only [Act.put,Drawn.La,Drawn.Lb,Drawn.Lc]
    refine Drawn.tk 6 (some 10) rfl rfl (by assumption) ?_
    try simp only [Act.put,Drawn.La,Drawn.Lb,Drawn.Lc]
    refine Drawn.tk 7 (some 11) rfl rfl (by assumption) ?_
    try simp only [Act.put,Drawn.La,Drawn.Lb,Drawn.Lc]
    refine Drawn.tk 8 (some 12) rfl rfl (by assumption) ?_
    try simp only [Act.put,Drawn.La,Drawn.Lb,Drawn.Lc]
    refine Drawn.tk 10 (some 14) rfl rfl (by assumption) ?_
    try simp only [Act.put,Drawn.La,Drawn.Lb,Drawn.Lc]
    refine wpAnyH_ready (rs:=[9]) (by kernel_rfl) (by simp) ?_
    refine AllReadyH.cons rfl (fun K hK=>?_) AllReadyH.nil
    go_simp
    go_at_call 232
    refine (anyP (A.out.below (by exact Rd.byB)) h).mono ?_
    rintro e w2 ⟨rfl,hb2⟩
    refine And.intro rfl ?_
    exact ansN rfl rfl (A.out.below (Below.trans (by exact Rd.byB) (hb2.mono Rd.byL))).ex (kpb (Kp.of_below hbW (Nat.le_refl _)) (Below.trans (by exact Rd.byB) (hb2.mono Rd.byL)))
  · obtain ⟨p,hp⟩ : ∃ p,Hid (Flow.fits E.f.classes (Chk.last s) ⟨tk,tc⟩ = p):=⟨_,Lib.hid rfl⟩
    have hr : Hid (Chk.take E.f.classes ⟨tk,tc⟩ s some = if p = true then some (Chk.pop s) else none):=by show _ = _;rw [take_one h,hp.out]
    unfold tyV
    generalize hres : Chk.take E.f.classes ⟨tk,tc⟩ s some = res at hr ⊢
    clear hres
    obtain ⟨⟨xk,xc⟩,hx⟩ : ∃ x,Hid (Chk.last s = x):=⟨_,Lib.hid rfl⟩
    rw [hx.out] at hp
    rw [hvc] at ck1
    clear hck M
    go_enter Try.func234,Try.ntmps234
    go_wp2_with fail
    obtain ⟨W,hW⟩ : ∃ W,W = w.alloc (.cells #[.int .i64 tk,.int .i64 tc] 51):=⟨_,rfl⟩
    have d0 : W.cell? ⟨mb,0,none⟩ = some (.pointer (some ⟨E.cb,0,none⟩)):=by rw [hW];go_simp
    have d1 : W.cell? ⟨E.cb,1,none⟩ = some (.slice ca E.f.classes.length ccap):=by rw [hW];go_simp
    have b0 : W.cell? ⟨w.heap.size,0,none⟩ = some (.int .i64 tk):=by rw [hW];go_simp
    have b1 : W.cell? ⟨w.heap.size,1,none⟩ = some (.int .i64 tc):=by rw [hW];go_simp
    have hbW : Below w.heap.size w W:=by rw [hW];exact Rd.byB
    have A:=Lib.hid (HM.out.below hbW)
    rw [← hW]
    clear hW
    refine wp_region_held_drew (S:=fun w'=>(w'.cell? ⟨mb,0,none⟩ = some (.pointer (some ⟨E.cb,0,none⟩)) ∧ w'.cell? ⟨E.cb,1,none⟩ = some (.slice ca E.f.classes.length ccap)) ∧ w'.cell? ⟨w.heap.size,0,none⟩ = some (.int .i64 tk) ∧ w'.cell? ⟨w.heap.size,1,none⟩ = some (.int .i64 tc)) (by kernel_rfl) (by (try dsimp only);exact ⟨⟨d0,d1⟩,b0,b1⟩) (fun hHeld=>?_)
    refine Drawn.tk 0 (some 4) rfl rfl (by assumption) ?_
    try simp only [Act.put,Drawn.La,Drawn.Lb,Drawn.Lc]
    refine Drawn.tk 1 (some 5) rfl rfl (by assumption) ?_
    try simp only [Act.put,Drawn.La,Drawn.Lb,Drawn.Lc]
    refine Drawn.tk 2 (some 6) rfl rfl (by assumption) ?_
    try simp only [Act.put,Drawn.La,Drawn.Lb,Drawn.Lc]
    refine Drawn.tk 3 (some 7) rfl rfl (by assumption) ?_
    try simp only [Act.put,Drawn.La,Drawn.Lb,Drawn.Lc]
    refine Drawn.tk 4 (some 8) rfl rfl (by assumption) ?_
    try simp only [Act.put,Drawn.La,Drawn.Lb,Drawn.Lc]
    refine Drawn.tk 5 (some 9) rfl rfl (by assumption) ?_
    try simp only [Act.put,Drawn.La,Drawn.Lb,Drawn.Lc]
    refine Drawn.tk 6 (some 10) rfl rfl (by assumption) ?_
    try simp only [Act.put,Drawn.La,Drawn.Lb,Drawn.Lc]
    refine Drawn.tk 7 (some 11) rfl rfl (by assumption) ?_
    try simp only [Act.put,Drawn.La,Drawn.Lb,Drawn.Lc]
    refine Drawn.tk 8 (some 12) rfl rfl (by assumption) ?_
    try simp only [Act.put,Drawn.La,Drawn.Lb,Drawn.Lc]
    refine Drawn.tk 10 (some 14) rfl rfl (by assumption) ?_
    try simp only [Act.put,Drawn.La,Drawn.Lb,Drawn.Lc]
    refine wpAnyH_ready (rs:=[9]) (by kernel_rfl) (by simp) ?_
    refine AllReadyH.cons rfl (fun K hK=>?_) AllReadyH.nil
    go_simp
    go_at_call 232
    refine (anyY (A.out.below (by exact Rd.byB)) h hbig).mono ?_
    rintro e w2 ⟨rfl,⟨vk2,M2,N2⟩,K2⟩
    simp only [tyV,hx.out]
    replace N2:=Lib.hid N2
    have hlow:=M2.low
    have hbz:=A.out.base
    have hhW:=hbW.size
    have nm : ∀ k,mo mb vs vk k → k < w.heap.size:=fun k hk=>(HM.out.mo_lo hk).2
    have cbl : ¬ mo mb vs vk E.cb:=fun hk=>by have:=(HM.out.mo_lo hk).1;omega
    have e0 : w2.cell? ⟨mb,0,none⟩ = some (.pointer (some ⟨E.cb,0,none⟩)):=(M2.blk 0 (by simp)).1
    have e1 : w2.cell? ⟨E.cb,1,none⟩ = some (.slice ca E.f.classes.length ccap):=K2.cell (by go_simp) cbl
    have e2 : w2.cell? ⟨w.heap.size,0,none⟩ = some (.int .i64 tk):=K2.cell (by go_simp) (fun hk=>by have:=nm _ hk;omega)
    have e3 : w2.cell? ⟨w.heap.size,1,none⟩ = some (.int .i64 tc):=K2.cell (by go_simp) (fun hk=>by have:=nm _ hk;omega)
    have KA : Kp (mo mb vs vk) w w2:=(Kp.of_below (X:=mo mb vs vk) (B:=w.heap.size) (Below.trans hbW (by exact Rd.byB)) (Nat.le_refl _)).trans K2 (fun y hy=>.inl hy)
    replace KA:=Lib.hid KA
    have C2:=Lib.hid M2.cs
    replace M2:=Lib.hid M2
    go_wp2_with fail
    refine hK.out _ _ (by (try dsimp only);exact ⟨⟨e0,e1⟩,e2,e3⟩) (fun hHeld=>?_)
    clear hK K
    try simp only [Act.put,Drawn.La,Drawn.Lb,Drawn.Lc]
    refine wpAnyH_ready (rs:=[11]) (by kernel_rfl) (by simp) ?_
    refine AllReadyH.cons rfl (fun K hK=>?_) AllReadyH.nil
    go_simp
    go_at_call 233
    rw [hvc] at C2
    refine (fits C2.out hwf ⟨xk,xc⟩ ⟨tk,tc⟩).mono ?_
    rintro e w3 ⟨rfl,hb3⟩
    rw [hp.out]
    have l2:=cell_lt e0
    have l3:=cell_lt e1
    have l4:=cell_lt e2
    have i0:=kept hb3 l2 e0
    have i1:=kept hb3 l3 e1
    have i2:=kept hb3 l4 e2
    have i3:=kept hb3 l4 e3
    go_wp2_with fail
    refine hK.out _ _ (by (try dsimp only);exact ⟨⟨i0,i1⟩,i2,i3⟩) (fun hHeld=>?_)
    clear hK K
    try simp only [Act.put,Drawn.La,Drawn.Lb,Drawn.Lc]
    refine wpAnyH_ready (rs:=[12]) (by kernel_rfl) (by simp) ?_
    refine AllReadyH.cons rfl (fun K hK=>?_) AllReadyH.nil
    go_simp
    cases p
    · refine (mustF _).mono ?_
      rintro e w5 ⟨rfl,rfl⟩
      refine And.intro rfl ?_
      exact ansN (by rw [hr.out];rfl) rfl (M2.out.below hb3).ex (kpb KA.out hb3)
    · refine (mustT _).mono ?_
      rintro e w5 ⟨rfl,rfl⟩
      go_wp2_with fail
      refine hK.out _ _ (by (try dsimp only);exact ⟨⟨i0,i1⟩,i2,i3⟩) (fun hHeld=>?_)
      clear hK K
      try simp only [Act.put,Drawn.La,Drawn.Lb,Drawn.Lc]
      refine wpAnyH_done (by kernel_rfl) ?_ _
      go_wp2
      go_end0
      exact ansS (by rw [hr.out];rfl) rfl (M2.out.below hb3) (fun g hg=>(N2.out g hg).imp id (fun e=>by simp at e;omega)) (kpb KA.out hb3)
end
end Sck
end Go.Proofs.Ytncmhenfgbcihab
namespace Go.Proofs.Ytncmhenfgbcihab
open Go.RowKit
set_option linter.unusedSimpArgs false
set_option linter.unusedVariables false
namespace Sck
open Num Rd D Mem Hpw Flow HierW FormW
section
variable {E : FE} {w0 w w' : World} {B0 mb : Nat} {vs vk0 vk : Value} {s : State}
structure Gon (E : FE) (B0 mb : Nat) (vs vk0 : Value) (w0 w : World) (vk : Value) (s : State) : Prop where
  M : MS E w B0 mb vs vk s
  N : ∀ g,vk.ownBlock = some g → vk0.ownBlock = some g ∨ w0.heap.size ≤ g
  K : Kp (mo mb vs vk0) w0 w
theorem Gon.start (M : MS E w B0 mb vs vk s) : Gon E B0 mb vs vk w w vk s:=⟨M,fun _ h=>.inl h,Kp.refl _ w⟩
theorem Gon.below (G : Gon E B0 mb vs vk0 w0 w vk s) (hb : Below w.heap.size w w') : Gon E B0 mb vs vk0 w0 w' vk s:=⟨G.M.below hb,G.N,kpb G.K hb⟩
theorem Gon.mo (G : Gon E B0 mb vs vk0 w0 w vk s) : ∀ k,Sck.mo mb vs vk k → Sck.mo mb vs vk0 k ∨ w0.heap.size ≤ k:=fun k hk=>by
  rcases hk with e | e | e
  · exact .inl (.inl e)
  · exact .inl (.inr (.inl e))
  · exact (G.N k e).imp (fun e=>.inr (.inr e)) id
theorem Gon.fin {v : State → Value} {o : Option State} {e : Ending} (G : Gon E B0 mb vs vk0 w0 w vk s) (A : AnsO E B0 mb vs vk w v o e w') : AnsO E B0 mb vs vk0 w0 v o e w':=by
  cases o with
  | none=>exact ⟨A.1,A.2.1,G.K.trans A.2.2 G.mo⟩
  | some s' =>
    obtain ⟨h1,⟨vk',M,N⟩,K⟩:=A
    exact ⟨h1,⟨vk',M,fun g hg=>(N g hg).elim (G.N g) (fun e=>.inr (Nat.le_trans G.K.size e))⟩,G.K.trans K G.mo⟩
theorem Gon.step {v : State → Value} {o : Option State} {e : Ending} {s' : State} (G : Gon E B0 mb vs vk0 w0 w vk s) (A : AnsO E B0 mb vs vk w v o e w') (h : o = some s') : ∃ vk',Gon E B0 mb vs vk0 w0 w' vk' s':=by
  have A2:=G.fin A
  subst h
  obtain ⟨h1,⟨vk',M,N⟩,K⟩:=A2
  exact ⟨vk',M,N,K⟩
theorem AnsO.cases {v : State → Value} {o : Option State} {e : Ending} (A : AnsO E B0 mb vs vk w v o e w') : (∃ s',o = some s' ∧ e = .returned (v s')) ∨ (o = none ∧ e = .panicked [brk]):=by
  cases o with
  | none=>exact .inr ⟨rfl,A.1⟩
  | some s'=>exact .inl ⟨s',rfl,A.1⟩
theorem Gon.none {v : State → Value} {o o2 : Option State} (G : Gon E B0 mb vs vk0 w0 w vk s) (A : AnsO E B0 mb vs vk w v o (.panicked [brk]) w') (h : o = none) (h2 : o2 = none) : AnsO E B0 mb vs vk0 w0 v o2 (.panicked [brk]) w':=by
  subst h2;subst h;exact G.fin A
theorem Gon.some {v : State → Value} {o2 : Option State} (G : Gon E B0 mb vs vk0 w0 w vk s) (h2 : o2 = some s) : AnsO E B0 mb vs vk0 w0 v o2 (.returned (v s)) w:=by
  subst h2;exact ⟨rfl,⟨vk,G.M,G.N⟩,G.K⟩
theorem take_len {c : List Cls} {t : Ty} {s s' : State} (h : Chk.take c t s some = some s') : s'.stack.length ≤ s.stack.length:=by
  unfold Chk.take Chk.any at h
  split at h
  · cases h
  · simp only at h
    split at h
    · injection h with h;subst h;simp [Chk.pop]
    · cases h
theorem put_len {m : Me} {x : Ty} {s s' : State} (h : Chk.put m s x = some s') : s'.stack.length ≤ s.stack.length + 1:=by
  unfold Chk.put at h
  split at h
  · injection h with h;subst h;simp
  · cases h
theorem take_bind {c : List Cls} {t : Ty} {s : State} {k : State → Option State} : Chk.take c t s k = (Chk.take c t s some).bind k:=by
  unfold Chk.take Chk.any
  split
  · rfl
  · simp only
    split <;> rfl
theorem tok (k c : Int) (h1 : Ok k) (h2 : Ok c) : TOk ⟨k,c⟩:=⟨h1,h2⟩
theorem tok0 (k : Int) (h : 0 ≤ k ∧ k ≤ 9) : TOk ⟨k,0⟩:=⟨by unfold Ok;simp only;omega,by unfold Ok;simp only;omega⟩
set_option maxRecDepth 100000 in
set_option maxHeartbeats 4000000 in
theorem op1 (M : MS E w B0 mb vs vk s) {o : Option State} (ia ib ic in_ : Int) (a : Option Addr) (n cap : Nat) (hbig : s.stack.length ≤ 1000) (oka : Ok ia) (ho : Hid (o = Chk.put E.m s ⟨1,0⟩)) : Calls Try.prog 197 #[.pointer (some ⟨mb,0,none⟩),.agg #[.int .i64 1,.int .i64 ia,.int .i64 ib,.int .i64 ic,.int .i64 in_,.slice a n cap]] w (AnsO E B0 mb vs vk w unit_ o):=by
  have G0:=Lib.hid (Gon.start M)
  have hb0:=M.base
  have nm : ∀ k,mo mb vs vk k → k < w.heap.size:=fun k hk=>(M.mo_lo hk).2
  have l0:=hbig
  clear M
  go_enter Try.func197,Try.ntmps197
  go_wp2_with (first | (go_at_call 229;refine (kind _ _).mono ?_;rintro e wk ⟨rfl,hbk⟩;replace G0:=Lib.hid (G0.out.below (Below.trans (by exact Rd.byB) (hbk.mono Rd.byL)));clear hbk) | (go_at_call 149;refine (ref _ _).mono ?_;rintro e wk ⟨rfl,hbk⟩;replace G0:=Lib.hid (G0.out.below (Below.trans (by exact Rd.byB) (hbk.mono Rd.byL)));clear hbk))
  refine (put G0.out.M ⟨1,0⟩ (tok0 1 (by decide)) (by omega)).mono ?_
  rintro e w1 A
  have A2:=Lib.hid (G0.out.fin A)
  rcases A.cases with ⟨s1,h1,rfl⟩ | ⟨h1,rfl⟩
  · clear A h1
    go_wp2
    first | go_end0 | ((try simp only [Exit.inBlock,Exit.then]);refine bodyPost_ret (results_none rfl _ _ _) rfl ?_)
    rw [ho.out]
    exact A2.out
  · refine And.intro rfl ?_
    rw [ho.out]
    exact A2.out
set_option maxRecDepth 100000 in
set_option maxHeartbeats 4000000 in
theorem op2 (M : MS E w B0 mb vs vk s) {o : Option State} (ia ib ic in_ : Int) (a : Option Addr) (n cap : Nat) (hbig : s.stack.length ≤ 1000) (oka : Ok ia) (ho : Hid (o = Chk.put E.m s ⟨2,0⟩)) : Calls Try.prog 197 #[.pointer (some ⟨mb,0,none⟩),.agg #[.int .i64 2,.int .i64 ia,.int .i64 ib,.int .i64 ic,.int .i64 in_,.slice a n cap]] w (AnsO E B0 mb vs vk w unit_ o):=by
  have G0:=Lib.hid (Gon.start M)
  have hb0:=M.base
  have nm : ∀ k,mo mb vs vk k → k < w.heap.size:=fun k hk=>(M.mo_lo hk).2
  have l0:=hbig
  clear M
  go_enter Try.func197,Try.ntmps197
  go_wp2_with (first | (go_at_call 229;refine (kind _ _).mono ?_;rintro e wk ⟨rfl,hbk⟩;replace G0:=Lib.hid (G0.out.below (Below.trans (by exact Rd.byB) (hbk.mono Rd.byL)));clear hbk) | (go_at_call 149;refine (ref _ _).mono ?_;rintro e wk ⟨rfl,hbk⟩;replace G0:=Lib.hid (G0.out.below (Below.trans (by exact Rd.byB) (hbk.mono Rd.byL)));clear hbk))
  refine (put G0.out.M ⟨2,0⟩ (tok0 2 (by decide)) (by omega)).mono ?_
  rintro e w1 A
  have A2:=Lib.hid (G0.out.fin A)
  rcases A.cases with ⟨s1,h1,rfl⟩ | ⟨h1,rfl⟩
  · clear A h1
    go_wp2
    first | go_end0 | ((try simp only [Exit.inBlock,Exit.then]);refine bodyPost_ret (results_none rfl _ _ _) rfl ?_)
    rw [ho.out]
    exact A2.out
  · refine And.intro rfl ?_
    rw [ho.out]
    exact A2.out
set_option maxRecDepth 100000 in
set_option maxHeartbeats 4000000 in
theorem op25 (M : MS E w B0 mb vs vk s) {o : Option State} (ia ib ic in_ : Int) (a : Option Addr) (n cap : Nat) (hbig : s.stack.length ≤ 1000) (oka : Ok ia) (ho : Hid (o = Chk.put E.m s ⟨2,0⟩)) : Calls Try.prog 197 #[.pointer (some ⟨mb,0,none⟩),.agg #[.int .i64 25,.int .i64 ia,.int .i64 ib,.int .i64 ic,.int .i64 in_,.slice a n cap]] w (AnsO E B0 mb vs vk w unit_ o):=by
  have G0:=Lib.hid (Gon.start M)
  have hb0:=M.base
  have nm : ∀ k,mo mb vs vk k → k < w.heap.size:=fun k hk=>(M.mo_lo hk).2
  have l0:=hbig
  clear M
  go_enter Try.func197,Try.ntmps197
  go_wp2_with (first | (go_at_call 229;refine (kind _ _).mono ?_;rintro e wk ⟨rfl,hbk⟩;replace G0:=Lib.hid (G0.out.below (Below.trans (by exact Rd.byB) (hbk.mono Rd.byL)));clear hbk) | (go_at_call 149;refine (ref _ _).mono ?_;rintro e wk ⟨rfl,hbk⟩;replace G0:=Lib.hid (G0.out.below (Below.trans (by exact Rd.byB) (hbk.mono Rd.byL)));clear hbk))
  refine (put G0.out.M ⟨2,0⟩ (tok0 2 (by decide)) (by omega)).mono ?_
  rintro e w1 A
  have A2:=Lib.hid (G0.out.fin A)
  rcases A.cases with ⟨s1,h1,rfl⟩ | ⟨h1,rfl⟩
  · clear A h1
    go_wp2
    first | go_end0 | ((try simp only [Exit.inBlock,Exit.then]);refine bodyPost_ret (results_none rfl _ _ _) rfl ?_)
    rw [ho.out]
    exact A2.out
  · refine And.intro rfl ?_
    rw [ho.out]
    exact A2.out
set_option maxRecDepth 100000 in
set_option maxHeartbeats 4000000 in
theorem op3 (M : MS E w B0 mb vs vk s) {o : Option State} (ia ib ic in_ : Int) (a : Option Addr) (n cap : Nat) (hbig : s.stack.length ≤ 1000) (oka : Ok ia) (ho : Hid (o = Chk.put E.m s ⟨7,0⟩)) : Calls Try.prog 197 #[.pointer (some ⟨mb,0,none⟩),.agg #[.int .i64 3,.int .i64 ia,.int .i64 ib,.int .i64 ic,.int .i64 in_,.slice a n cap]] w (AnsO E B0 mb vs vk w unit_ o):=by
  have G0:=Lib.hid (Gon.start M)
  have hb0:=M.base
  have nm : ∀ k,mo mb vs vk k → k < w.heap.size:=fun k hk=>(M.mo_lo hk).2
  have l0:=hbig
  clear M
  go_enter Try.func197,Try.ntmps197
  go_wp2_with (first | (go_at_call 229;refine (kind _ _).mono ?_;rintro e wk ⟨rfl,hbk⟩;replace G0:=Lib.hid (G0.out.below (Below.trans (by exact Rd.byB) (hbk.mono Rd.byL)));clear hbk) | (go_at_call 149;refine (ref _ _).mono ?_;rintro e wk ⟨rfl,hbk⟩;replace G0:=Lib.hid (G0.out.below (Below.trans (by exact Rd.byB) (hbk.mono Rd.byL)));clear hbk))
  refine (put G0.out.M ⟨7,0⟩ (tok0 7 (by decide)) (by omega)).mono ?_
  rintro e w1 A
  have A2:=Lib.hid (G0.out.fin A)
  rcases A.cases with ⟨s1,h1,rfl⟩ | ⟨h1,rfl⟩
  · clear A h1
    go_wp2
    first | go_end0 | ((try simp only [Exit.inBlock,Exit.then]);refine bodyPost_ret (results_none rfl _ _ _) rfl ?_)
    rw [ho.out]
    exact A2.out
  · refine And.intro rfl ?_
    rw [ho.out]
    exact A2.out
set_option maxRecDepth 100000 in
set_option maxHeartbeats 4000000 in
theorem op6 (M : MS E w B0 mb vs vk s) {o : Option State} (ia ib ic in_ : Int) (a : Option Addr) (n cap : Nat) (hbig : s.stack.length ≤ 1000) (oka : Ok ia) (ho : Hid (o = (Chk.take E.f.classes ⟨1,0⟩ s some).bind fun s=>(Chk.take E.f.classes ⟨1,0⟩ s some).bind fun s=>Chk.put E.m s ⟨1,0⟩)) : Calls Try.prog 197 #[.pointer (some ⟨mb,0,none⟩),.agg #[.int .i64 6,.int .i64 ia,.int .i64 ib,.int .i64 ic,.int .i64 in_,.slice a n cap]] w (AnsO E B0 mb vs vk w unit_ o):=by
  have G0:=Lib.hid (Gon.start M)
  have hb0:=M.base
  have nm : ∀ k,mo mb vs vk k → k < w.heap.size:=fun k hk=>(M.mo_lo hk).2
  have l0:=hbig
  clear M
  go_enter Try.func197,Try.ntmps197
  go_wp2_with (first | (go_at_call 229;refine (kind _ _).mono ?_;rintro e wk ⟨rfl,hbk⟩;replace G0:=Lib.hid (G0.out.below (Below.trans (by exact Rd.byB) (hbk.mono Rd.byL)));clear hbk) | (go_at_call 149;refine (ref _ _).mono ?_;rintro e wk ⟨rfl,hbk⟩;replace G0:=Lib.hid (G0.out.below (Below.trans (by exact Rd.byB) (hbk.mono Rd.byL)));clear hbk))
  refine (take G0.out.M ⟨1,0⟩ (by omega)).mono ?_
  rintro e w1 A
  rcases A.cases with ⟨s1,h1,rfl⟩ | ⟨h1,rfl⟩
  rotate_left
  · refine And.intro rfl ?_
    exact G0.out.none A h1 (by rw [ho.out,h1];rfl)
  obtain ⟨vk1,G1⟩:=G0.out.step A h1
  have l1:=take_len h1
  have h':=ho.out
  rw [h1,Option.bind_some] at h'
  replace ho:=Lib.hid h'
  replace G0:=Lib.hid G1
  clear A G1 h1 h'
  go_wp2_with (first | (go_at_call 229;refine (kind _ _).mono ?_;rintro e wk ⟨rfl,hbk⟩;replace G0:=Lib.hid (G0.out.below (Below.trans (by exact Rd.byB) (hbk.mono Rd.byL)));clear hbk) | (go_at_call 149;refine (ref _ _).mono ?_;rintro e wk ⟨rfl,hbk⟩;replace G0:=Lib.hid (G0.out.below (Below.trans (by exact Rd.byB) (hbk.mono Rd.byL)));clear hbk))
  refine (take G0.out.M ⟨1,0⟩ (by omega)).mono ?_
  rintro e w1 A
  rcases A.cases with ⟨s1,h1,rfl⟩ | ⟨h1,rfl⟩
  rotate_left
  · refine And.intro rfl ?_
    exact G0.out.none A h1 (by rw [ho.out,h1];rfl)
  obtain ⟨vk1,G1⟩:=G0.out.step A h1
  have l1:=take_len h1
  have h':=ho.out
  rw [h1,Option.bind_some] at h'
  replace ho:=Lib.hid h'
  replace G0:=Lib.hid G1
  clear A G1 h1 h'
  go_wp2_with (first | (go_at_call 229;refine (kind _ _).mono ?_;rintro e wk ⟨rfl,hbk⟩;replace G0:=Lib.hid (G0.out.below (Below.trans (by exact Rd.byB) (hbk.mono Rd.byL)));clear hbk) | (go_at_call 149;refine (ref _ _).mono ?_;rintro e wk ⟨rfl,hbk⟩;replace G0:=Lib.hid (G0.out.below (Below.trans (by exact Rd.byB) (hbk.mono Rd.byL)));clear hbk))
  refine (put G0.out.M ⟨1,0⟩ (tok0 1 (by decide)) (by omega)).mono ?_
  rintro e w1 A
  have A2:=Lib.hid (G0.out.fin A)
  rcases A.cases with ⟨s1,h1,rfl⟩ | ⟨h1,rfl⟩
  · clear A h1
    go_wp2
    first | go_end0 | ((try simp only [Exit.inBlock,Exit.then]);refine bodyPost_ret (results_none rfl _ _ _) rfl ?_)
    rw [ho.out]
    exact A2.out
  · refine And.intro rfl ?_
    rw [ho.out]
    exact A2.out
set_option maxRecDepth 100000 in
set_option maxHeartbeats 4000000 in
theorem op7 (M : MS E w B0 mb vs vk s) {o : Option State} (ia ib ic in_ : Int) (a : Option Addr) (n cap : Nat) (hbig : s.stack.length ≤ 1000) (oka : Ok ia) (ho : Hid (o = (Chk.take E.f.classes ⟨2,0⟩ s some).bind fun s=>(Chk.take E.f.classes ⟨2,0⟩ s some).bind fun s=>Chk.put E.m s ⟨2,0⟩)) : Calls Try.prog 197 #[.pointer (some ⟨mb,0,none⟩),.agg #[.int .i64 7,.int .i64 ia,.int .i64 ib,.int .i64 ic,.int .i64 in_,.slice a n cap]] w (AnsO E B0 mb vs vk w unit_ o):=by
  have G0:=Lib.hid (Gon.start M)
  have hb0:=M.base
  have nm : ∀ k,mo mb vs vk k → k < w.heap.size:=fun k hk=>(M.mo_lo hk).2
  have l0:=hbig
  clear M
  go_enter Try.func197,Try.ntmps197
  go_wp2_with (first | (go_at_call 229;refine (kind _ _).mono ?_;rintro e wk ⟨rfl,hbk⟩;replace G0:=Lib.hid (G0.out.below (Below.trans (by exact Rd.byB) (hbk.mono Rd.byL)));clear hbk) | (go_at_call 149;refine (ref _ _).mono ?_;rintro e wk ⟨rfl,hbk⟩;replace G0:=Lib.hid (G0.out.below (Below.trans (by exact Rd.byB) (hbk.mono Rd.byL)));clear hbk))
  refine (take G0.out.M ⟨2,0⟩ (by omega)).mono ?_
  rintro e w1 A
  rcases A.cases with ⟨s1,h1,rfl⟩ | ⟨h1,rfl⟩
  rotate_left
  · refine And.intro rfl ?_
    exact G0.out.none A h1 (by rw [ho.out,h1];rfl)
  obtain ⟨vk1,G1⟩:=G0.out.step A h1
  have l1:=take_len h1
  have h':=ho.out
  rw [h1,Option.bind_some] at h'
  replace ho:=Lib.hid h'
  replace G0:=Lib.hid G1
  clear A G1 h1 h'
  go_wp2_with (first | (go_at_call 229;refine (kind _ _).mono ?_;rintro e wk ⟨rfl,hbk⟩;replace G0:=Lib.hid (G0.out.below (Below.trans (by exact Rd.byB) (hbk.mono Rd.byL)));clear hbk) | (go_at_call 149;refine (ref _ _).mono ?_;rintro e wk ⟨rfl,hbk⟩;replace G0:=Lib.hid (G0.out.below (Below.trans (by exact Rd.byB) (hbk.mono Rd.byL)));clear hbk))
  refine (take G0.out.M ⟨2,0⟩ (by omega)).mono ?_
  rintro e w1 A
  rcases A.cases with ⟨s1,h1,rfl⟩ | ⟨h1,rfl⟩
  rotate_left
  · refine And.intro rfl ?_
    exact G0.out.none A h1 (by rw [ho.out,h1];rfl)
  obtain ⟨vk1,G1⟩:=G0.out.step A h1
  have l1:=take_len h1
  have h':=ho.out
  rw [h1,Option.bind_some] at h'
  replace ho:=Lib.hid h'
  replace G0:=Lib.hid G1
  clear A G1 h1 h'
  go_wp2_with (first | (go_at_call 229;refine (kind _ _).mono ?_;rintro e wk ⟨rfl,hbk⟩;replace G0:=Lib.hid (G0.out.below (Below.trans (by exact Rd.byB) (hbk.mono Rd.byL)));clear hbk) | (go_at_call 149;refine (ref _ _).mono ?_;rintro e wk ⟨rfl,hbk⟩;replace G0:=Lib.hid (G0.out.below (Below.trans (by exact Rd.byB) (hbk.mono Rd.byL)));clear hbk))
  refine (put G0.out.M ⟨2,0⟩ (tok0 2 (by decide)) (by omega)).mono ?_
  rintro e w1 A
  have A2:=Lib.hid (G0.out.fin A)
  rcases A.cases with ⟨s1,h1,rfl⟩ | ⟨h1,rfl⟩
  · clear A h1
    go_wp2
    first | go_end0 | ((try simp only [Exit.inBlock,Exit.then]);refine bodyPost_ret (results_none rfl _ _ _) rfl ?_)
    rw [ho.out]
    exact A2.out
  · refine And.intro rfl ?_
    rw [ho.out]
    exact A2.out
set_option maxRecDepth 100000 in
set_option maxHeartbeats 4000000 in
theorem op8 (M : MS E w B0 mb vs vk s) {o : Option State} (ia ib ic in_ : Int) (a : Option Addr) (n cap : Nat) (hbig : s.stack.length ≤ 1000) (oka : Ok ia) (ho : Hid (o = (Chk.take E.f.classes ⟨1,0⟩ s some).bind fun s=>Chk.put E.m s ⟨2,0⟩)) : Calls Try.prog 197 #[.pointer (some ⟨mb,0,none⟩),.agg #[.int .i64 8,.int .i64 ia,.int .i64 ib,.int .i64 ic,.int .i64 in_,.slice a n cap]] w (AnsO E B0 mb vs vk w unit_ o):=by
  have G0:=Lib.hid (Gon.start M)
  have hb0:=M.base
  have nm : ∀ k,mo mb vs vk k → k < w.heap.size:=fun k hk=>(M.mo_lo hk).2
  have l0:=hbig
  clear M
  go_enter Try.func197,Try.ntmps197
  go_wp2_with (first | (go_at_call 229;refine (kind _ _).mono ?_;rintro e wk ⟨rfl,hbk⟩;replace G0:=Lib.hid (G0.out.below (Below.trans (by exact Rd.byB) (hbk.mono Rd.byL)));clear hbk) | (go_at_call 149;refine (ref _ _).mono ?_;rintro e wk ⟨rfl,hbk⟩;replace G0:=Lib.hid (G0.out.below (Below.trans (by exact Rd.byB) (hbk.mono Rd.byL)));clear hbk))
  refine (take G0.out.M ⟨1,0⟩ (by omega)).mono ?_
  rintro e w1 A
  rcases A.cases with ⟨s1,h1,rfl⟩ | ⟨h1,rfl⟩
  rotate_left
  · refine And.intro rfl ?_
    exact G0.out.none A h1 (by rw [ho.out,h1];rfl)
  obtain ⟨vk1,G1⟩:=G0.out.step A h1
  have l1:=take_len h1
  have h':=ho.out
  rw [h1,Option.bind_some] at h'
  replace ho:=Lib.hid h'
  replace G0:=Lib.hid G1
  clear A G1 h1 h'
  go_wp2_with (first | (go_at_call 229;refine (kind _ _).mono ?_;rintro e wk ⟨rfl,hbk⟩;replace G0:=Lib.hid (G0.out.below (Below.trans (by exact Rd.byB) (hbk.mono Rd.byL)));clear hbk) | (go_at_call 149;refine (ref _ _).mono ?_;rintro e wk ⟨rfl,hbk⟩;replace G0:=Lib.hid (G0.out.below (Below.trans (by exact Rd.byB) (hbk.mono Rd.byL)));clear hbk))
  refine (put G0.out.M ⟨2,0⟩ (tok0 2 (by decide)) (by omega)).mono ?_
  rintro e w1 A
  have A2:=Lib.hid (G0.out.fin A)
  rcases A.cases with ⟨s1,h1,rfl⟩ | ⟨h1,rfl⟩
  · clear A h1
    go_wp2
    first | go_end0 | ((try simp only [Exit.inBlock,Exit.then]);refine bodyPost_ret (results_none rfl _ _ _) rfl ?_)
    rw [ho.out]
    exact A2.out
  · refine And.intro rfl ?_
    rw [ho.out]
    exact A2.out
set_option maxRecDepth 100000 in
set_option maxHeartbeats 4000000 in
theorem op9 (M : MS E w B0 mb vs vk s) {o : Option State} (ia ib ic in_ : Int) (a : Option Addr) (n cap : Nat) (hbig : s.stack.length ≤ 1000) (oka : Ok ia) (ho : Hid (o = (Chk.take E.f.classes ⟨2,0⟩ s some).bind fun s=>Chk.put E.m s ⟨1,0⟩)) : Calls Try.prog 197 #[.pointer (some ⟨mb,0,none⟩),.agg #[.int .i64 9,.int .i64 ia,.int .i64 ib,.int .i64 ic,.int .i64 in_,.slice a n cap]] w (AnsO E B0 mb vs vk w unit_ o):=by
  have G0:=Lib.hid (Gon.start M)
  have hb0:=M.base
  have nm : ∀ k,mo mb vs vk k → k < w.heap.size:=fun k hk=>(M.mo_lo hk).2
  have l0:=hbig
  clear M
  go_enter Try.func197,Try.ntmps197
  go_wp2_with (first | (go_at_call 229;refine (kind _ _).mono ?_;rintro e wk ⟨rfl,hbk⟩;replace G0:=Lib.hid (G0.out.below (Below.trans (by exact Rd.byB) (hbk.mono Rd.byL)));clear hbk) | (go_at_call 149;refine (ref _ _).mono ?_;rintro e wk ⟨rfl,hbk⟩;replace G0:=Lib.hid (G0.out.below (Below.trans (by exact Rd.byB) (hbk.mono Rd.byL)));clear hbk))
  refine (take G0.out.M ⟨2,0⟩ (by omega)).mono ?_
  rintro e w1 A
  rcases A.cases with ⟨s1,h1,rfl⟩ | ⟨h1,rfl⟩
  rotate_left
  · refine And.intro rfl ?_
    exact G0.out.none A h1 (by rw [ho.out,h1];rfl)
  obtain ⟨vk1,G1⟩:=G0.out.step A h1
  have l1:=take_len h1
  have h':=ho.out
  rw [h1,Option.bind_some] at h'
  replace ho:=Lib.hid h'
  replace G0:=Lib.hid G1
  clear A G1 h1 h'
  go_wp2_with (first | (go_at_call 229;refine (kind _ _).mono ?_;rintro e wk ⟨rfl,hbk⟩;replace G0:=Lib.hid (G0.out.below (Below.trans (by exact Rd.byB) (hbk.mono Rd.byL)));clear hbk) | (go_at_call 149;refine (ref _ _).mono ?_;rintro e wk ⟨rfl,hbk⟩;replace G0:=Lib.hid (G0.out.below (Below.trans (by exact Rd.byB) (hbk.mono Rd.byL)));clear hbk))
  refine (put G0.out.M ⟨1,0⟩ (tok0 1 (by decide)) (by omega)).mono ?_
  rintro e w1 A
  have A2:=Lib.hid (G0.out.fin A)
  rcases A.cases with ⟨s1,h1,rfl⟩ | ⟨h1,rfl⟩
  · clear A h1
    go_wp2
    first | go_end0 | ((try simp only [Exit.inBlock,Exit.then]);refine bodyPost_ret (results_none rfl _ _ _) rfl ?_)
    rw [ho.out]
    exact A2.out
  · refine And.intro rfl ?_
    rw [ho.out]
    exact A2.out
set_option maxRecDepth 100000 in
set_option maxHeartbeats 4000000 in
theorem op10 (M : MS E w B0 mb vs vk s) {o : Option State} (ia ib ic in_ : Int) (a : Option Addr) (n cap : Nat) (hbig : s.stack.length ≤ 1000) (oka : Ok ia) (ho : Hid (o = (Chk.take E.f.classes ⟨2,0⟩ s some).bind fun s=>(Chk.take E.f.classes ⟨2,0⟩ s some).bind fun s=>Chk.put E.m s ⟨1,0⟩)) : Calls Try.prog 197 #[.pointer (some ⟨mb,0,none⟩),.agg #[.int .i64 10,.int .i64 ia,.int .i64 ib,.int .i64 ic,.int .i64 in_,.slice a n cap]] w (AnsO E B0 mb vs vk w unit_ o):=by
  have G0:=Lib.hid (Gon.start M)
  have hb0:=M.base
  have nm : ∀ k,mo mb vs vk k → k < w.heap.size:=fun k hk=>(M.mo_lo hk).2
  have l0:=hbig
  clear M
  go_enter Try.func197,Try.ntmps197
  go_wp2_with (first | (go_at_call 229;refine (kind _ _).mono ?_;rintro e wk ⟨rfl,hbk⟩;replace G0:=Lib.hid (G0.out.below (Below.trans (by exact Rd.byB) (hbk.mono Rd.byL)));clear hbk) | (go_at_call 149;refine (ref _ _).mono ?_;rintro e wk ⟨rfl,hbk⟩;replace G0:=Lib.hid (G0.out.below (Below.trans (by exact Rd.byB) (hbk.mono Rd.byL)));clear hbk))
  refine (take G0.out.M ⟨2,0⟩ (by omega)).mono ?_
  rintro e w1 A
  rcases A.cases with ⟨s1,h1,rfl⟩ | ⟨h1,rfl⟩
  rotate_left
  · refine And.intro rfl ?_
    exact G0.out.none A h1 (by rw [ho.out,h1];rfl)
  obtain ⟨vk1,G1⟩:=G0.out.step A h1
  have l1:=take_len h1
  have h':=ho.out
  rw [h1,Option.bind_some] at h'
  replace ho:=Lib.hid h'
  replace G0:=Lib.hid G1
  clear A G1 h1 h'
  go_wp2_with (first | (go_at_call 229;refine (kind _ _).mono ?_;rintro e wk ⟨rfl,hbk⟩;replace G0:=Lib.hid (G0.out.below (Below.trans (by exact Rd.byB) (hbk.mono Rd.byL)));clear hbk) | (go_at_call 149;refine (ref _ _).mono ?_;rintro e wk ⟨rfl,hbk⟩;replace G0:=Lib.hid (G0.out.below (Below.trans (by exact Rd.byB) (hbk.mono Rd.byL)));clear hbk))
  refine (take G0.out.M ⟨2,0⟩ (by omega)).mono ?_
  rintro e w1 A
  rcases A.cases with ⟨s1,h1,rfl⟩ | ⟨h1,rfl⟩
  rotate_left
  · refine And.intro rfl ?_
    exact G0.out.none A h1 (by rw [ho.out,h1];rfl)
  obtain ⟨vk1,G1⟩:=G0.out.step A h1
  have l1:=take_len h1
  have h':=ho.out
  rw [h1,Option.bind_some] at h'
  replace ho:=Lib.hid h'
  replace G0:=Lib.hid G1
  clear A G1 h1 h'
  go_wp2_with (first | (go_at_call 229;refine (kind _ _).mono ?_;rintro e wk ⟨rfl,hbk⟩;replace G0:=Lib.hid (G0.out.below (Below.trans (by exact Rd.byB) (hbk.mono Rd.byL)));clear hbk) | (go_at_call 149;refine (ref _ _).mono ?_;rintro e wk ⟨rfl,hbk⟩;replace G0:=Lib.hid (G0.out.below (Below.trans (by exact Rd.byB) (hbk.mono Rd.byL)));clear hbk))
  refine (put G0.out.M ⟨1,0⟩ (tok0 1 (by decide)) (by omega)).mono ?_
  rintro e w1 A
  have A2:=Lib.hid (G0.out.fin A)
  rcases A.cases with ⟨s1,h1,rfl⟩ | ⟨h1,rfl⟩
  · clear A h1
    go_wp2
    first | go_end0 | ((try simp only [Exit.inBlock,Exit.then]);refine bodyPost_ret (results_none rfl _ _ _) rfl ?_)
    rw [ho.out]
    exact A2.out
  · refine And.intro rfl ?_
    rw [ho.out]
    exact A2.out
set_option maxRecDepth 100000 in
set_option maxHeartbeats 4000000 in
theorem op12 (M : MS E w B0 mb vs vk s) {o : Option State} (ia ib ic in_ : Int) (a : Option Addr) (n cap : Nat) (hbig : s.stack.length ≤ 1000) (oka : Ok ia) (ho : Hid (o = Chk.take E.f.classes ⟨1,0⟩ s some)) : Calls Try.prog 197 #[.pointer (some ⟨mb,0,none⟩),.agg #[.int .i64 12,.int .i64 ia,.int .i64 ib,.int .i64 ic,.int .i64 in_,.slice a n cap]] w (AnsO E B0 mb vs vk w unit_ o):=by
  have G0:=Lib.hid (Gon.start M)
  have hb0:=M.base
  have nm : ∀ k,mo mb vs vk k → k < w.heap.size:=fun k hk=>(M.mo_lo hk).2
  have l0:=hbig
  clear M
  go_enter Try.func197,Try.ntmps197
  go_wp2_with (first | (go_at_call 229;refine (kind _ _).mono ?_;rintro e wk ⟨rfl,hbk⟩;replace G0:=Lib.hid (G0.out.below (Below.trans (by exact Rd.byB) (hbk.mono Rd.byL)));clear hbk) | (go_at_call 149;refine (ref _ _).mono ?_;rintro e wk ⟨rfl,hbk⟩;replace G0:=Lib.hid (G0.out.below (Below.trans (by exact Rd.byB) (hbk.mono Rd.byL)));clear hbk))
  refine (take G0.out.M ⟨1,0⟩ (by omega)).mono ?_
  rintro e w1 A
  have A2:=Lib.hid (G0.out.fin A)
  rcases A.cases with ⟨s1,h1,rfl⟩ | ⟨h1,rfl⟩
  · clear A h1
    go_wp2
    first | go_end0 | ((try simp only [Exit.inBlock,Exit.then]);refine bodyPost_ret (results_none rfl _ _ _) rfl ?_)
    rw [ho.out]
    exact A2.out
  · refine And.intro rfl ?_
    rw [ho.out]
    exact A2.out
set_option maxRecDepth 100000 in
set_option maxHeartbeats 4000000 in
theorem ob13 (M : MS E w B0 mb vs vk s) {o : Option State} (ia ib ic in_ : Int) (a : Option Addr) (n cap : Nat) (hbig : s.stack.length ≤ 1000) (oka : Ok ia) (ho : Hid (o = Chk.take E.f.classes ⟨3,0⟩ s some)) : Calls Try.prog 235 #[.pointer (some ⟨mb,0,none⟩),.agg #[.int .i64 13,.int .i64 ia,.int .i64 ib,.int .i64 ic,.int .i64 in_,.slice a n cap]] w (AnsO E B0 mb vs vk w unit_ o):=by
  have G0:=Lib.hid (Gon.start M)
  have hb0:=M.base
  have nm : ∀ k,mo mb vs vk k → k < w.heap.size:=fun k hk=>(M.mo_lo hk).2
  have l0:=hbig
  clear M
  go_enter Try.func235,Try.ntmps235
  go_wp2_with (first | (go_at_call 229;refine (kind _ _).mono ?_;rintro e wk ⟨rfl,hbk⟩;replace G0:=Lib.hid (G0.out.below (Below.trans (by exact Rd.byB) (hbk.mono Rd.byL)));clear hbk) | (go_at_call 149;refine (ref _ _).mono ?_;rintro e wk ⟨rfl,hbk⟩;replace G0:=Lib.hid (G0.out.below (Below.trans (by exact Rd.byB) (hbk.mono Rd.byL)));clear hbk))
  refine (take G0.out.M ⟨3,0⟩ (by omega)).mono ?_
  rintro e w1 A
  have A2:=Lib.hid (G0.out.fin A)
  rcases A.cases with ⟨s1,h1,rfl⟩ | ⟨h1,rfl⟩
  · clear A h1
    go_wp2
    first | go_end0 | ((try simp only [Exit.inBlock,Exit.then]);refine bodyPost_ret (results_none rfl _ _ _) rfl ?_)
    rw [ho.out]
    exact A2.out
  · refine And.intro rfl ?_
    rw [ho.out]
    exact A2.out
set_option maxRecDepth 100000 in
set_option maxHeartbeats 4000000 in
theorem ob21 (M : MS E w B0 mb vs vk s) {o : Option State} (ia ib ic in_ : Int) (a : Option Addr) (n cap : Nat) (hbig : s.stack.length ≤ 1000) (oka : Ok ia) (ho : Hid (o = Chk.take E.f.classes ⟨3,0⟩ s some)) : Calls Try.prog 235 #[.pointer (some ⟨mb,0,none⟩),.agg #[.int .i64 21,.int .i64 ia,.int .i64 ib,.int .i64 ic,.int .i64 in_,.slice a n cap]] w (AnsO E B0 mb vs vk w unit_ o):=by
  have G0:=Lib.hid (Gon.start M)
  have hb0:=M.base
  have nm : ∀ k,mo mb vs vk k → k < w.heap.size:=fun k hk=>(M.mo_lo hk).2
  have l0:=hbig
  clear M
  go_enter Try.func235,Try.ntmps235
  go_wp2_with (first | (go_at_call 229;refine (kind _ _).mono ?_;rintro e wk ⟨rfl,hbk⟩;replace G0:=Lib.hid (G0.out.below (Below.trans (by exact Rd.byB) (hbk.mono Rd.byL)));clear hbk) | (go_at_call 149;refine (ref _ _).mono ?_;rintro e wk ⟨rfl,hbk⟩;replace G0:=Lib.hid (G0.out.below (Below.trans (by exact Rd.byB) (hbk.mono Rd.byL)));clear hbk))
  refine (take G0.out.M ⟨3,0⟩ (by omega)).mono ?_
  rintro e w1 A
  have A2:=Lib.hid (G0.out.fin A)
  rcases A.cases with ⟨s1,h1,rfl⟩ | ⟨h1,rfl⟩
  · clear A h1
    go_wp2
    first | go_end0 | ((try simp only [Exit.inBlock,Exit.then]);refine bodyPost_ret (results_none rfl _ _ _) rfl ?_)
    rw [ho.out]
    exact A2.out
  · refine And.intro rfl ?_
    rw [ho.out]
    exact A2.out
set_option maxRecDepth 100000 in
set_option maxHeartbeats 4000000 in
theorem ob18 (M : MS E w B0 mb vs vk s) {o : Option State} (ia ib ic in_ : Int) (a : Option Addr) (n cap : Nat) (hbig : s.stack.length ≤ 1000) (oka : Ok ia) (ho : Hid (o = (Chk.take E.f.classes ⟨3,0⟩ s some).bind fun s=>Chk.put E.m s ⟨1,0⟩)) : Calls Try.prog 235 #[.pointer (some ⟨mb,0,none⟩),.agg #[.int .i64 18,.int .i64 ia,.int .i64 ib,.int .i64 ic,.int .i64 in_,.slice a n cap]] w (AnsO E B0 mb vs vk w unit_ o):=by
  have G0:=Lib.hid (Gon.start M)
  have hb0:=M.base
  have nm : ∀ k,mo mb vs vk k → k < w.heap.size:=fun k hk=>(M.mo_lo hk).2
  have l0:=hbig
  clear M
  go_enter Try.func235,Try.ntmps235
  go_wp2_with (first | (go_at_call 229;refine (kind _ _).mono ?_;rintro e wk ⟨rfl,hbk⟩;replace G0:=Lib.hid (G0.out.below (Below.trans (by exact Rd.byB) (hbk.mono Rd.byL)));clear hbk) | (go_at_call 149;refine (ref _ _).mono ?_;rintro e wk ⟨rfl,hbk⟩;replace G0:=Lib.hid (G0.out.below (Below.trans (by exact Rd.byB) (hbk.mono Rd.byL)));clear hbk))
  refine (take G0.out.M ⟨3,0⟩ (by omega)).mono ?_
  rintro e w1 A
  rcases A.cases with ⟨s1,h1,rfl⟩ | ⟨h1,rfl⟩
  rotate_left
  · refine And.intro rfl ?_
    exact G0.out.none A h1 (by rw [ho.out,h1];rfl)
  obtain ⟨vk1,G1⟩:=G0.out.step A h1
  have l1:=take_len h1
  have h':=ho.out
  rw [h1,Option.bind_some] at h'
  replace ho:=Lib.hid h'
  replace G0:=Lib.hid G1
  clear A G1 h1 h'
  go_wp2_with (first | (go_at_call 229;refine (kind _ _).mono ?_;rintro e wk ⟨rfl,hbk⟩;replace G0:=Lib.hid (G0.out.below (Below.trans (by exact Rd.byB) (hbk.mono Rd.byL)));clear hbk) | (go_at_call 149;refine (ref _ _).mono ?_;rintro e wk ⟨rfl,hbk⟩;replace G0:=Lib.hid (G0.out.below (Below.trans (by exact Rd.byB) (hbk.mono Rd.byL)));clear hbk))
  refine (put G0.out.M ⟨1,0⟩ (tok0 1 (by decide)) (by omega)).mono ?_
  rintro e w1 A
  have A2:=Lib.hid (G0.out.fin A)
  rcases A.cases with ⟨s1,h1,rfl⟩ | ⟨h1,rfl⟩
  · clear A h1
    go_wp2
    first | go_end0 | ((try simp only [Exit.inBlock,Exit.then]);refine bodyPost_ret (results_none rfl _ _ _) rfl ?_)
    rw [ho.out]
    exact A2.out
  · refine And.intro rfl ?_
    rw [ho.out]
    exact A2.out
end
end Sck
end Go.Proofs.Ytncmhenfgbcihab
namespace Go.Proofs.Ytncmhenfgbcihab
open Go.RowKit
set_option linter.unusedSimpArgs false
set_option linter.unusedVariables false
namespace Sck
open Num Rd D Mem Hpw Flow HierW FormW
section
variable {E : FE} {w0 w w' : World} {B0 mb : Nat} {vs vk0 vk : Value} {s : State}
theorem AnsO.kp {v : State → Value} {o : Option State} {e : Ending} (A : AnsO E B0 mb vs vk w v o e w') : Kp (mo mb vs vk) w w':=by
  cases o with
  | none=>exact A.2.2
  | some s'=>exact A.2.2
theorem Gon.none2 {v v2 : State → Value} {o o2 : Option State} (G : Gon E B0 mb vs vk0 w0 w vk s) (A : AnsO E B0 mb vs vk w v o (.panicked [brk]) w') (h : o = Option.none) (h2 : o2 = Option.none) : AnsO E B0 mb vs vk0 w0 v2 o2 (.panicked [brk]) w':=by
  subst h2;subst h;exact ⟨rfl,A.2.1,G.K.trans A.2.2 G.mo⟩
theorem anyA (M : MS E w B0 mb vs vk s) (hbig : s.stack.length ≤ 1000000) : Calls Try.prog 232 #[.pointer (some ⟨mb,0,none⟩)] w (AnsO E B0 mb vs vk w (fun _=>tyV (Chk.last s)) (Chk.any s fun _ s=>some s)):=by
  by_cases h : s.stack = []
  · have e : (Chk.any s fun _ s=>some s) = none:=by unfold Chk.any;rw [if_pos h]
    rw [e]
    exact (anyP M h).mono fun e w' ⟨h1,h2⟩=>⟨h1,(M.below h2).ex,Kp.of_below h2 (Nat.le_refl _)⟩
  · have e : (Chk.any s fun _ s=>some s) = some (Chk.pop s):=by unfold Chk.any;rw [if_neg h]
    rw [e]
    exact anyY M h hbig
theorem any_some {s s' : State} (h : (Chk.any s fun _ s=>some s) = some s') : s.stack ≠ [] ∧ s' = Chk.pop s:=by
  unfold Chk.any at h
  split at h
  · cases h
  · rename_i hn;injection h with h;exact ⟨hn,h.symm⟩
theorem last_ok (M : MS E w B0 mb vs vk s) : TOk (Chk.last s):=by
  unfold Chk.last
  cases h : s.stack.getLast? with
  | none=>exact tok_none
  | some x=>exact M.stack.2 x (List.mem_of_getLast? h)
theorem load_ok (M : MS E w B0 mb vs vk s) (a : Nat) (k : Int) : TOk (loadV s.slots a k):=by
  unfold loadV
  split
  · exact tok0 2 (by decide)
  · exact M.slots.2.getD a
theorem field_cells (M : MS E w B0 mb vs vk s) {ka kb : Nat} (h1 : ka < E.f.classes.length) (h2 : kb < (Hier.at' E.f.classes ka).fields.length) :
    ∃ cb co ccap fb fo fcap,E.vc = .slice (some ⟨cb,co,none⟩) E.f.classes.length ccap ∧ E.f.classes.length ≤ ccap ∧ ccap ≤ 9223372036854775807 ∧ (Hier.at' E.f.classes ka).fields.length ≤ fcap ∧ fcap ≤ 9223372036854775807 ∧ cb < B0 ∧ fb < B0 ∧
      w.cell? ⟨cb,co + ka * 2 + 1,none⟩ = some (.slice (some ⟨fb,fo,none⟩) (Hier.at' E.f.classes ka).fields.length fcap) ∧ w.cell? ⟨fb,fo + kb * 2,none⟩ = some (.int .i64 (Run.ftype E.f.classes ka kb).kind) ∧ w.cell? ⟨fb,fo + kb * 2 + 1,none⟩ = some (.int .i64 (Run.ftype E.f.classes ka kb).cls) ∧ TOk (Run.ftype E.f.classes ka kb):=by
  obtain ⟨a,ccap,e,c1,c2,hel⟩:=M.cls
  obtain ⟨cb,co,rfl,hcb,hs,_,v,hv,hf⟩:=hel ka h1
  have ea : Hier.at' E.f.classes ka = E.f.classes[ka]:=by unfold Hier.at';rw [List.getD_eq_getElem?_getD,List.getElem?_eq_getElem h1];rfl
  obtain ⟨fa,fcap,rfl,f1,f2,hef⟩:=hf
  rw [ea] at h2 ⊢
  obtain ⟨fb,fo,rfl,hfb,g1,g2,g3,g4⟩:=hef kb h2
  have ef : Run.ftype E.f.classes ka kb = E.f.classes[ka].fields[kb]:=by
    unfold Run.ftype
    rw [show ((ka : Int)).toNat = ka by omega,show ((kb : Int)).toNat = kb by omega,ea,List.getD_eq_getElem?_getD,List.getElem?_eq_getElem h2];rfl
  rw [ef]
  exact ⟨cb,co,ccap,fb,fo,fcap,e,c1,c2,f1,f2,hcb,hfb,hv,g1,g2,g3,g4⟩
set_option maxRecDepth 100000 in
set_option maxHeartbeats 4000000 in
theorem op24 (M : MS E w B0 mb vs vk s) {o : Option State} (ia ib ic in_ : Int) (a : Option Addr) (n cap : Nat) (hbig : s.stack.length ≤ 1000) (oka : Ok ia) (ho : Hid (o = Chk.take E.f.classes ⟨ia,0⟩ s some)) : Calls Try.prog 197 #[.pointer (some ⟨mb,0,none⟩),.agg #[.int .i64 24,.int .i64 ia,.int .i64 ib,.int .i64 ic,.int .i64 in_,.slice a n cap]] w (AnsO E B0 mb vs vk w unit_ o):=by
  have G0:=Lib.hid (Gon.start M)
  have d0:=(M.blk 0 (by simp)).1
  have d1:=(M.blk 1 (by simp)).1
  simp only [List.getElem_cons_zero,List.getElem_cons_succ] at d0 d1
  obtain ⟨bad,hck⟩:=M.ck
  have c1:=(hck 1 (by simp [ccells,meV])).1
  have c2:=(hck 2 (by simp [ccells,meV])).1
  have r4:=(hck 4 (by simp [ccells,meV])).1
  have r5:=(hck 5 (by simp [ccells,meV])).1
  simp [ccells,meV] at c1 c2 r4 r5
  have lmb:=M.mbw
  have lcb:=cell_lt c1
  have hb0:=M.base
  have hlow:=M.low
  have nm : ∀ k,mo mb vs vk k → k < w.heap.size:=fun k hk=>(M.mo_lo hk).2
  have ncb : ¬ mo mb vs vk E.cb:=fun hk=>by have:=(M.mo_lo hk).1;omega
  have nbx : ¬ mo mb vs vk w.heap.size:=fun hk=>by have:=nm _ hk;omega
  have nlow : ∀ k,k < B0 → ¬ mo mb vs vk k:=fun k hk hm=>by have:=(M.mo_lo hm).1;omega
  clear hck M
  go_enter Try.func197,Try.ntmps197
  go_wp2_with fail
  obtain ⟨W,hW⟩ : ∃ W,W = w.alloc (.cells #[.int .i64 24,.int .i64 ia,.int .i64 ib,.int .i64 ic,.int .i64 in_,.slice a n cap] 63):=⟨_,rfl⟩
  have hbW : Below w.heap.size w W:=by rw [hW];exact Rd.byB
  have hsW : W.heap.size = w.heap.size + 1:=by rw [hW];simp
  have b0 : W.cell? ⟨w.heap.size,0,none⟩ = some (.int .i64 24):=by rw [hW];go_simp
  have b1 : W.cell? ⟨w.heap.size,1,none⟩ = some (.int .i64 ia):=by rw [hW];go_simp
  have b2 : W.cell? ⟨w.heap.size,2,none⟩ = some (.int .i64 ib):=by rw [hW];go_simp
  replace d0:=kept hbW lmb d0
  replace d1:=kept hbW lmb d1
  replace c1:=kept hbW lcb c1
  replace c2:=kept hbW lcb c2
  replace r4:=kept hbW lcb r4
  replace r5:=kept hbW lcb r5
  replace G0:=Lib.hid (G0.out.below hbW)
  rw [← hW]
  clear hW
  go_wp2_with (first | (go_at_call 229;refine (kind _ _).mono ?_;rintro e wk ⟨rfl,hbk⟩;have hbk2 : Below W.heap.size W wk:=Below.trans (by exact Rd.byB) (hbk.mono Rd.byL);replace G0:=Lib.hid (G0.out.below hbk2);  clear hbk) | (go_at_call 149;refine (ref _ _).mono ?_;rintro e wk ⟨rfl,hbk⟩;have hbk2 : Below W.heap.size W wk:=Below.trans (by exact Rd.byB) (hbk.mono Rd.byL);replace G0:=Lib.hid (G0.out.below hbk2);  clear hbk))
  refine (take G0.out.M ⟨ia,0⟩ (by omega)).mono ?_
  rintro e w1 A
  have A2:=Lib.hid (G0.out.fin A)
  rcases A.cases with ⟨s1,h1,rfl⟩ | ⟨h1,rfl⟩
  · clear A h1
    go_wp2
    first | go_end0 | ((try simp only [Exit.inBlock,Exit.then]);refine bodyPost_ret (results_none rfl _ _ _) rfl ?_)
    rw [ho.out]
    exact A2.out
  · refine And.intro rfl ?_
    rw [ho.out]
    exact A2.out
set_option maxRecDepth 100000 in
set_option maxHeartbeats 4000000 in
theorem ob14 (M : MS E w B0 mb vs vk s) {o : Option State} (ia ib ic in_ : Int) (a : Option Addr) (n cap : Nat) (hbig : s.stack.length ≤ 1000) (oka : Ok ia) (ho : Hid (o = Chk.put E.m s ⟨3,ia⟩)) : Calls Try.prog 235 #[.pointer (some ⟨mb,0,none⟩),.agg #[.int .i64 14,.int .i64 ia,.int .i64 ib,.int .i64 ic,.int .i64 in_,.slice a n cap]] w (AnsO E B0 mb vs vk w unit_ o):=by
  have G0:=Lib.hid (Gon.start M)
  have d0:=(M.blk 0 (by simp)).1
  have d1:=(M.blk 1 (by simp)).1
  simp only [List.getElem_cons_zero,List.getElem_cons_succ] at d0 d1
  obtain ⟨bad,hck⟩:=M.ck
  have c1:=(hck 1 (by simp [ccells,meV])).1
  have c2:=(hck 2 (by simp [ccells,meV])).1
  have r4:=(hck 4 (by simp [ccells,meV])).1
  have r5:=(hck 5 (by simp [ccells,meV])).1
  simp [ccells,meV] at c1 c2 r4 r5
  have lmb:=M.mbw
  have lcb:=cell_lt c1
  have hb0:=M.base
  have hlow:=M.low
  have nm : ∀ k,mo mb vs vk k → k < w.heap.size:=fun k hk=>(M.mo_lo hk).2
  have ncb : ¬ mo mb vs vk E.cb:=fun hk=>by have:=(M.mo_lo hk).1;omega
  have nbx : ¬ mo mb vs vk w.heap.size:=fun hk=>by have:=nm _ hk;omega
  have nlow : ∀ k,k < B0 → ¬ mo mb vs vk k:=fun k hk hm=>by have:=(M.mo_lo hm).1;omega
  clear hck M
  go_enter Try.func235,Try.ntmps235
  go_wp2_with fail
  obtain ⟨W,hW⟩ : ∃ W,W = w.alloc (.cells #[.int .i64 14,.int .i64 ia,.int .i64 ib,.int .i64 ic,.int .i64 in_,.slice a n cap] 63):=⟨_,rfl⟩
  have hbW : Below w.heap.size w W:=by rw [hW];exact Rd.byB
  have hsW : W.heap.size = w.heap.size + 1:=by rw [hW];simp
  have b0 : W.cell? ⟨w.heap.size,0,none⟩ = some (.int .i64 14):=by rw [hW];go_simp
  have b1 : W.cell? ⟨w.heap.size,1,none⟩ = some (.int .i64 ia):=by rw [hW];go_simp
  have b2 : W.cell? ⟨w.heap.size,2,none⟩ = some (.int .i64 ib):=by rw [hW];go_simp
  replace d0:=kept hbW lmb d0
  replace d1:=kept hbW lmb d1
  replace c1:=kept hbW lcb c1
  replace c2:=kept hbW lcb c2
  replace r4:=kept hbW lcb r4
  replace r5:=kept hbW lcb r5
  replace G0:=Lib.hid (G0.out.below hbW)
  rw [← hW]
  clear hW
  go_wp2_with (first | (go_at_call 229;refine (kind _ _).mono ?_;rintro e wk ⟨rfl,hbk⟩;have hbk2 : Below W.heap.size W wk:=Below.trans (by exact Rd.byB) (hbk.mono Rd.byL);replace G0:=Lib.hid (G0.out.below hbk2);  clear hbk) | (go_at_call 149;refine (ref _ _).mono ?_;rintro e wk ⟨rfl,hbk⟩;have hbk2 : Below W.heap.size W wk:=Below.trans (by exact Rd.byB) (hbk.mono Rd.byL);replace G0:=Lib.hid (G0.out.below hbk2);  clear hbk))
  refine (put G0.out.M ⟨3,ia⟩ (tok 3 ia (by unfold Ok;omega) oka) (by omega)).mono ?_
  rintro e w1 A
  have A2:=Lib.hid (G0.out.fin A)
  rcases A.cases with ⟨s1,h1,rfl⟩ | ⟨h1,rfl⟩
  · clear A h1
    go_wp2
    first | go_end0 | ((try simp only [Exit.inBlock,Exit.then]);refine bodyPost_ret (results_none rfl _ _ _) rfl ?_)
    rw [ho.out]
    exact A2.out
  · refine And.intro rfl ?_
    rw [ho.out]
    exact A2.out
set_option maxRecDepth 100000 in
set_option maxHeartbeats 4000000 in
theorem ob17 (M : MS E w B0 mb vs vk s) {o : Option State} (ia ib ic in_ : Int) (a : Option Addr) (n cap : Nat) (hbig : s.stack.length ≤ 1000) (oka : Ok ia) (ho : Hid (o = (Chk.take E.f.classes ⟨3,0⟩ s some).bind fun s=>Chk.put E.m s ⟨3,ia⟩)) : Calls Try.prog 235 #[.pointer (some ⟨mb,0,none⟩),.agg #[.int .i64 17,.int .i64 ia,.int .i64 ib,.int .i64 ic,.int .i64 in_,.slice a n cap]] w (AnsO E B0 mb vs vk w unit_ o):=by
  have G0:=Lib.hid (Gon.start M)
  have d0:=(M.blk 0 (by simp)).1
  have d1:=(M.blk 1 (by simp)).1
  simp only [List.getElem_cons_zero,List.getElem_cons_succ] at d0 d1
  obtain ⟨bad,hck⟩:=M.ck
  have c1:=(hck 1 (by simp [ccells,meV])).1
  have c2:=(hck 2 (by simp [ccells,meV])).1
  have r4:=(hck 4 (by simp [ccells,meV])).1
  have r5:=(hck 5 (by simp [ccells,meV])).1
  simp [ccells,meV] at c1 c2 r4 r5
  have lmb:=M.mbw
  have lcb:=cell_lt c1
  have hb0:=M.base
  have hlow:=M.low
  have nm : ∀ k,mo mb vs vk k → k < w.heap.size:=fun k hk=>(M.mo_lo hk).2
  have ncb : ¬ mo mb vs vk E.cb:=fun hk=>by have:=(M.mo_lo hk).1;omega
  have nbx : ¬ mo mb vs vk w.heap.size:=fun hk=>by have:=nm _ hk;omega
  have nlow : ∀ k,k < B0 → ¬ mo mb vs vk k:=fun k hk hm=>by have:=(M.mo_lo hm).1;omega
  clear hck M
  go_enter Try.func235,Try.ntmps235
  go_wp2_with fail
  obtain ⟨W,hW⟩ : ∃ W,W = w.alloc (.cells #[.int .i64 17,.int .i64 ia,.int .i64 ib,.int .i64 ic,.int .i64 in_,.slice a n cap] 63):=⟨_,rfl⟩
  have hbW : Below w.heap.size w W:=by rw [hW];exact Rd.byB
  have hsW : W.heap.size = w.heap.size + 1:=by rw [hW];simp
  have b0 : W.cell? ⟨w.heap.size,0,none⟩ = some (.int .i64 17):=by rw [hW];go_simp
  have b1 : W.cell? ⟨w.heap.size,1,none⟩ = some (.int .i64 ia):=by rw [hW];go_simp
  have b2 : W.cell? ⟨w.heap.size,2,none⟩ = some (.int .i64 ib):=by rw [hW];go_simp
  replace d0:=kept hbW lmb d0
  replace d1:=kept hbW lmb d1
  replace c1:=kept hbW lcb c1
  replace c2:=kept hbW lcb c2
  replace r4:=kept hbW lcb r4
  replace r5:=kept hbW lcb r5
  replace G0:=Lib.hid (G0.out.below hbW)
  rw [← hW]
  clear hW
  go_wp2_with (first | (go_at_call 229;refine (kind _ _).mono ?_;rintro e wk ⟨rfl,hbk⟩;have hbk2 : Below W.heap.size W wk:=Below.trans (by exact Rd.byB) (hbk.mono Rd.byL);replace G0:=Lib.hid (G0.out.below hbk2);replace b1:=kept hbk2 (cell_lt b1) b1;  clear hbk) | (go_at_call 149;refine (ref _ _).mono ?_;rintro e wk ⟨rfl,hbk⟩;have hbk2 : Below W.heap.size W wk:=Below.trans (by exact Rd.byB) (hbk.mono Rd.byL);replace G0:=Lib.hid (G0.out.below hbk2);replace b1:=kept hbk2 (cell_lt b1) b1;  clear hbk))
  refine (take G0.out.M ⟨3,0⟩ (by omega)).mono ?_
  rintro e w1 A
  rcases A.cases with ⟨s1,h1,rfl⟩ | ⟨h1,rfl⟩
  rotate_left
  · refine And.intro rfl ?_
    exact G0.out.none2 A h1 (by rw [ho.out,h1];rfl)
  obtain ⟨vk1,G1⟩:=G0.out.step A h1
  have l1:=take_len h1
  have KA:=A.kp
  replace b1:=KA.cell b1 nbx
  have h':=ho.out
  rw [h1,Option.bind_some] at h'
  replace ho:=Lib.hid h'
  replace d0:=(G1.M.blk 0 (by simp)).1
  simp only [List.getElem_cons_zero] at d0
  replace G0:=Lib.hid G1
  clear A G1 h1 h' KA
  obtain ⟨W,rfl⟩ : ∃ W : World,W = w1:=⟨_,rfl⟩
  go_wp2_with (first | (go_at_call 229;refine (kind _ _).mono ?_;rintro e wk ⟨rfl,hbk⟩;have hbk2 : Below W.heap.size W wk:=Below.trans (by exact Rd.byB) (hbk.mono Rd.byL);replace G0:=Lib.hid (G0.out.below hbk2);  clear hbk) | (go_at_call 149;refine (ref _ _).mono ?_;rintro e wk ⟨rfl,hbk⟩;have hbk2 : Below W.heap.size W wk:=Below.trans (by exact Rd.byB) (hbk.mono Rd.byL);replace G0:=Lib.hid (G0.out.below hbk2);  clear hbk))
  refine (put G0.out.M ⟨3,ia⟩ (tok 3 ia (by unfold Ok;omega) oka) (by omega)).mono ?_
  rintro e w1 A
  have A2:=Lib.hid (G0.out.fin A)
  rcases A.cases with ⟨s1,h1,rfl⟩ | ⟨h1,rfl⟩
  · clear A h1
    go_wp2
    first | go_end0 | ((try simp only [Exit.inBlock,Exit.then]);refine bodyPost_ret (results_none rfl _ _ _) rfl ?_)
    rw [ho.out]
    exact A2.out
  · refine And.intro rfl ?_
    rw [ho.out]
    exact A2.out
set_option maxRecDepth 100000 in
set_option maxHeartbeats 4000000 in
theorem ob15 (M : MS E w B0 mb vs vk s) {o : Option State} (ia ib ic in_ : Int) (a : Option Addr) (n cap : Nat) (hbig : s.stack.length ≤ 1000) (oka : Ok ia) {ka kb : Nat} (h1a : ka < E.f.classes.length) (h2a : kb < (Hier.at' E.f.classes ka).fields.length) (eka : ia = ka) (ekb : ib = kb) (ho : Hid (o = (Chk.take E.f.classes ⟨3,ia⟩ s some).bind fun s=>Chk.put E.m s (Run.ftype E.f.classes ia ib))) : Calls Try.prog 235 #[.pointer (some ⟨mb,0,none⟩),.agg #[.int .i64 15,.int .i64 ia,.int .i64 ib,.int .i64 ic,.int .i64 in_,.slice a n cap]] w (AnsO E B0 mb vs vk w unit_ o):=by
  subst eka;subst ekb
  have G0:=Lib.hid (Gon.start M)
  have d0:=(M.blk 0 (by simp)).1
  have d1:=(M.blk 1 (by simp)).1
  simp only [List.getElem_cons_zero,List.getElem_cons_succ] at d0 d1
  obtain ⟨bad,hck⟩:=M.ck
  have c1:=(hck 1 (by simp [ccells,meV])).1
  have c2:=(hck 2 (by simp [ccells,meV])).1
  have r4:=(hck 4 (by simp [ccells,meV])).1
  have r5:=(hck 5 (by simp [ccells,meV])).1
  simp [ccells,meV] at c1 c2 r4 r5
  have lmb:=M.mbw
  have lcb:=cell_lt c1
  have hb0:=M.base
  have hlow:=M.low
  have nm : ∀ k,mo mb vs vk k → k < w.heap.size:=fun k hk=>(M.mo_lo hk).2
  have ncb : ¬ mo mb vs vk E.cb:=fun hk=>by have:=(M.mo_lo hk).1;omega
  have nbx : ¬ mo mb vs vk w.heap.size:=fun hk=>by have:=nm _ hk;omega
  have nlow : ∀ k,k < B0 → ¬ mo mb vs vk k:=fun k hk hm=>by have:=(M.mo_lo hm).1;omega
  clear hck M
  go_enter Try.func235,Try.ntmps235
  go_wp2_with fail
  obtain ⟨W,hW⟩ : ∃ W,W = w.alloc (.cells #[.int .i64 15,.int .i64 ka,.int .i64 kb,.int .i64 ic,.int .i64 in_,.slice a n cap] 63):=⟨_,rfl⟩
  have hbW : Below w.heap.size w W:=by rw [hW];exact Rd.byB
  have hsW : W.heap.size = w.heap.size + 1:=by rw [hW];simp
  have b0 : W.cell? ⟨w.heap.size,0,none⟩ = some (.int .i64 15):=by rw [hW];go_simp
  have b1 : W.cell? ⟨w.heap.size,1,none⟩ = some (.int .i64 ka):=by rw [hW];go_simp
  have b2 : W.cell? ⟨w.heap.size,2,none⟩ = some (.int .i64 kb):=by rw [hW];go_simp
  replace d0:=kept hbW lmb d0
  replace d1:=kept hbW lmb d1
  replace c1:=kept hbW lcb c1
  replace c2:=kept hbW lcb c2
  replace r4:=kept hbW lcb r4
  replace r5:=kept hbW lcb r5
  replace G0:=Lib.hid (G0.out.below hbW)
  rw [← hW]
  clear hW
  go_wp2_with (first | (go_at_call 229;refine (kind _ _).mono ?_;rintro e wk ⟨rfl,hbk⟩;have hbk2 : Below W.heap.size W wk:=Below.trans (by exact Rd.byB) (hbk.mono Rd.byL);replace G0:=Lib.hid (G0.out.below hbk2);replace b1:=kept hbk2 (cell_lt b1) b1;replace b2:=kept hbk2 (cell_lt b2) b2;replace c1:=kept hbk2 (cell_lt c1) c1;  clear hbk) | (go_at_call 149;refine (ref _ _).mono ?_;rintro e wk ⟨rfl,hbk⟩;have hbk2 : Below W.heap.size W wk:=Below.trans (by exact Rd.byB) (hbk.mono Rd.byL);replace G0:=Lib.hid (G0.out.below hbk2);replace b1:=kept hbk2 (cell_lt b1) b1;replace b2:=kept hbk2 (cell_lt b2) b2;replace c1:=kept hbk2 (cell_lt c1) c1;  clear hbk))
  refine (take G0.out.M ⟨3,ka⟩ (by omega)).mono ?_
  rintro e w1 A
  rcases A.cases with ⟨s1,h1,rfl⟩ | ⟨h1,rfl⟩
  rotate_left
  · refine And.intro rfl ?_
    exact G0.out.none2 A h1 (by rw [ho.out,h1];rfl)
  obtain ⟨vk1,G1⟩:=G0.out.step A h1
  have l1:=take_len h1
  have KA:=A.kp
  replace b1:=KA.cell b1 nbx
  replace b2:=KA.cell b2 nbx
  replace c1:=KA.cell c1 ncb
  have h':=ho.out
  rw [h1,Option.bind_some] at h'
  replace ho:=Lib.hid h'
  replace d0:=(G1.M.blk 0 (by simp)).1
  simp only [List.getElem_cons_zero] at d0
  replace G0:=Lib.hid G1
  clear A G1 h1 h' KA
  obtain ⟨cb,co,ccap,fb,fo,fcap,evc,x1,x2,x3,x4,lcb2,lfb,y1,y2,y3,ftok⟩:=field_cells G0.out.M h1a h2a
  rw [evc] at c1
  obtain ⟨ft,hft⟩ : ∃ ft,Hid (Run.ftype E.f.classes ka kb = ft):=⟨_,Lib.hid rfl⟩
  rw [hft.out] at y2 y3 ftok
  have i1 : (ka : Int) < E.f.classes.length:=by omega
  have i2 : (kb : Int) < ((Hier.at' E.f.classes ka).fields.length : Int):=by omega
  rw [hft.out] at ho
  obtain ⟨fk,fc⟩:=ft
  obtain ⟨W,rfl⟩ : ∃ W : World,W = w1:=⟨_,rfl⟩
  go_wp2_with fail
  go_still_tail 18,(by kernel_rfl)
  go_wp2_with fail
  refine (put (G0.out.M.below (w':=W.drew) (by exact Rd.byB)) ⟨fk,fc⟩ ftok (by omega)).mono ?_
  replace G0:=Lib.hid (G0.out.below (w':=W.drew) (by exact Rd.byB))
  rintro e w1 A
  have A2:=Lib.hid (G0.out.fin A)
  rcases A.cases with ⟨s1,h1,rfl⟩ | ⟨h1,rfl⟩
  · clear A h1
    go_wp2
    first | go_end0 | ((try simp only [Exit.inBlock,Exit.then]);refine bodyPost_ret (results_none rfl _ _ _) rfl ?_)
    rw [ho.out]
    exact A2.out
  · refine And.intro rfl ?_
    rw [ho.out]
    exact A2.out
set_option maxRecDepth 100000 in
set_option maxHeartbeats 4000000 in
theorem ob16 (M : MS E w B0 mb vs vk s) {o : Option State} (ia ib ic in_ : Int) (a : Option Addr) (n cap : Nat) (hbig : s.stack.length ≤ 1000) (oka : Ok ia) {ka kb : Nat} (h1a : ka < E.f.classes.length) (h2a : kb < (Hier.at' E.f.classes ka).fields.length) (eka : ia = ka) (ekb : ib = kb) (ho : Hid (o = (Chk.take E.f.classes (Run.ftype E.f.classes ia ib) s some).bind fun s=>Chk.take E.f.classes ⟨3,ia⟩ s some)) : Calls Try.prog 235 #[.pointer (some ⟨mb,0,none⟩),.agg #[.int .i64 16,.int .i64 ia,.int .i64 ib,.int .i64 ic,.int .i64 in_,.slice a n cap]] w (AnsO E B0 mb vs vk w unit_ o):=by
  subst eka;subst ekb
  have G0:=Lib.hid (Gon.start M)
  have d0:=(M.blk 0 (by simp)).1
  have d1:=(M.blk 1 (by simp)).1
  simp only [List.getElem_cons_zero,List.getElem_cons_succ] at d0 d1
  obtain ⟨bad,hck⟩:=M.ck
  have c1:=(hck 1 (by simp [ccells,meV])).1
  have c2:=(hck 2 (by simp [ccells,meV])).1
  have r4:=(hck 4 (by simp [ccells,meV])).1
  have r5:=(hck 5 (by simp [ccells,meV])).1
  simp [ccells,meV] at c1 c2 r4 r5
  have lmb:=M.mbw
  have lcb:=cell_lt c1
  have hb0:=M.base
  have hlow:=M.low
  have nm : ∀ k,mo mb vs vk k → k < w.heap.size:=fun k hk=>(M.mo_lo hk).2
  have ncb : ¬ mo mb vs vk E.cb:=fun hk=>by have:=(M.mo_lo hk).1;omega
  have nbx : ¬ mo mb vs vk w.heap.size:=fun hk=>by have:=nm _ hk;omega
  have nlow : ∀ k,k < B0 → ¬ mo mb vs vk k:=fun k hk hm=>by have:=(M.mo_lo hm).1;omega
  clear hck M
  go_enter Try.func235,Try.ntmps235
  go_wp2_with fail
  obtain ⟨W,hW⟩ : ∃ W,W = w.alloc (.cells #[.int .i64 16,.int .i64 ka,.int .i64 kb,.int .i64 ic,.int .i64 in_,.slice a n cap] 63):=⟨_,rfl⟩
  have hbW : Below w.heap.size w W:=by rw [hW];exact Rd.byB
  have hsW : W.heap.size = w.heap.size + 1:=by rw [hW];simp
  have b0 : W.cell? ⟨w.heap.size,0,none⟩ = some (.int .i64 16):=by rw [hW];go_simp
  have b1 : W.cell? ⟨w.heap.size,1,none⟩ = some (.int .i64 ka):=by rw [hW];go_simp
  have b2 : W.cell? ⟨w.heap.size,2,none⟩ = some (.int .i64 kb):=by rw [hW];go_simp
  replace d0:=kept hbW lmb d0
  replace d1:=kept hbW lmb d1
  replace c1:=kept hbW lcb c1
  replace c2:=kept hbW lcb c2
  replace r4:=kept hbW lcb r4
  replace r5:=kept hbW lcb r5
  replace G0:=Lib.hid (G0.out.below hbW)
  rw [← hW]
  clear hW
  obtain ⟨cb,co,ccap,fb,fo,fcap,evc,x1,x2,x3,x4,lcb2,lfb,y1,y2,y3,ftok⟩:=field_cells G0.out.M h1a h2a
  rw [evc] at c1
  obtain ⟨ft,hft⟩ : ∃ ft,Hid (Run.ftype E.f.classes ka kb = ft):=⟨_,Lib.hid rfl⟩
  rw [hft.out] at y2 y3 ftok
  have i1 : (ka : Int) < E.f.classes.length:=by omega
  have i2 : (kb : Int) < ((Hier.at' E.f.classes ka).fields.length : Int):=by omega
  rw [hft.out] at ho
  obtain ⟨fk,fc⟩:=ft
  go_wp2_with fail
  go_still_tail 18,(by kernel_rfl)
  go_wp2_with fail
  refine (take (G0.out.M.below (w':=W.drew) (by exact Rd.byB)) ⟨fk,fc⟩ (by omega)).mono ?_
  replace G0:=Lib.hid (G0.out.below (w':=W.drew) (by exact Rd.byB))
  have b1 : W.drew.cell? ⟨w.heap.size,1,none⟩ = some (.int .i64 ka):=by go_simp
  rintro e w1 A
  rcases A.cases with ⟨s1,h1,rfl⟩ | ⟨h1,rfl⟩
  rotate_left
  · refine And.intro rfl ?_
    exact G0.out.none2 A h1 (by rw [ho.out,h1];rfl)
  obtain ⟨vk1,G1⟩:=G0.out.step A h1
  have l1:=take_len h1
  have KA:=A.kp
  replace b1:=KA.cell b1 nbx
  have h':=ho.out
  rw [h1,Option.bind_some] at h'
  replace ho:=Lib.hid h'
  replace d0:=(G1.M.blk 0 (by simp)).1
  simp only [List.getElem_cons_zero] at d0
  replace G0:=Lib.hid G1
  clear A G1 h1 h' KA
  obtain ⟨W,rfl⟩ : ∃ W : World,W = w1:=⟨_,rfl⟩
  go_wp2_with (first | (go_at_call 229;refine (kind _ _).mono ?_;rintro e wk ⟨rfl,hbk⟩;have hbk2 : Below W.heap.size W wk:=Below.trans (by exact Rd.byB) (hbk.mono Rd.byL);replace G0:=Lib.hid (G0.out.below hbk2);  clear hbk) | (go_at_call 149;refine (ref _ _).mono ?_;rintro e wk ⟨rfl,hbk⟩;have hbk2 : Below W.heap.size W wk:=Below.trans (by exact Rd.byB) (hbk.mono Rd.byL);replace G0:=Lib.hid (G0.out.below hbk2);  clear hbk))
  refine (take G0.out.M ⟨3,ka⟩ (by omega)).mono ?_
  rintro e w1 A
  have A2:=Lib.hid (G0.out.fin A)
  rcases A.cases with ⟨s1,h1,rfl⟩ | ⟨h1,rfl⟩
  · clear A h1
    go_wp2
    first | go_end0 | ((try simp only [Exit.inBlock,Exit.then]);refine bodyPost_ret (results_none rfl _ _ _) rfl ?_)
    rw [ho.out]
    exact A2.out
  · refine And.intro rfl ?_
    rw [ho.out]
    exact A2.out
end
end Sck
end Go.Proofs.Ytncmhenfgbcihab
namespace Go.Proofs.Ytncmhenfgbcihab
open Go.RowKit
set_option linter.unusedSimpArgs false
set_option linter.unusedVariables false
namespace Sck
open Num Rd D Mem Hpw Flow HierW FormW
section
variable {E : FE} {w0 w w' : World} {B0 mb : Nat} {vs vk0 vk : Value} {s : State}
theorem Gon.setSlots (G : Gon E B0 mb vs vk0 w0 w vk s) {l : List Ty} (K : Kp (fun k=>vs.ownBlock = Option.some k) w w') (h : TR w' B0 vs l) : Gon E B0 mb vs vk0 w0 w' vk ⟨l,s.stack,s.broken⟩:=by
  have M:=G.M
  have hbB : Below B0 w w':=K.below M.base (fun k hk=>(M.slots.lt hk).1)
  obtain ⟨bad,ck⟩:=M.ck
  refine ⟨⟨M.blk.next K (fun e=>M.n1 e),h,M.stack.keep K (fun g hg e=>M.n3 g e hg),M.lo,M.n1,M.n2,M.n3,M.live,⟨bad,fun j hj=>⟨kept hbB M.low (ck j hj).1,keptf hbB M.low (ck j hj).2⟩⟩,M.cls.mono mCls hbB (Nat.le_refl _),M.mes.mono mMe hbB (Nat.le_refl _),M.low,M.may⟩,G.N,G.K.trans K (fun y e=>.inl (.inr (.inl e)))⟩
theorem fits_ok {c : List Cls} {x : Ty} {k : Int} (h : k = 3) : Chk.okS c x k = Flow.fits c x ⟨3,0⟩:=by unfold Chk.okS;rw [if_pos h]
theorem fits_no {c : List Cls} {x : Ty} {k : Int} (h : k ≠ 3) : Chk.okS c x k = decide (x.kind = k):=by unfold Chk.okS;rw [if_neg h]
set_option maxRecDepth 100000 in
set_option maxHeartbeats 4000000 in
theorem op22 (M : MS E w B0 mb vs vk s) {o : Option State} (ia ib ic in_ : Int) (a : Option Addr) (n cap : Nat) (hbig : s.stack.length ≤ 1000) (oka : Ok ia) (ho : Hid (o = Chk.any s fun _ s=>some s)) : Calls Try.prog 197 #[.pointer (some ⟨mb,0,none⟩),.agg #[.int .i64 22,.int .i64 ia,.int .i64 ib,.int .i64 ic,.int .i64 in_,.slice a n cap]] w (AnsO E B0 mb vs vk w unit_ o):=by
  have G0:=Lib.hid (Gon.start M)
  have d0:=(M.blk 0 (by simp)).1
  have d1:=(M.blk 1 (by simp)).1
  simp only [List.getElem_cons_zero,List.getElem_cons_succ] at d0 d1
  obtain ⟨bad,hck⟩:=M.ck
  have c1:=(hck 1 (by simp [ccells,meV])).1
  have c2:=(hck 2 (by simp [ccells,meV])).1
  have r4:=(hck 4 (by simp [ccells,meV])).1
  have r5:=(hck 5 (by simp [ccells,meV])).1
  simp [ccells,meV] at c1 c2 r4 r5
  have lmb:=M.mbw
  have lcb:=cell_lt c1
  have hb0:=M.base
  have hlow:=M.low
  have nm : ∀ k,mo mb vs vk k → k < w.heap.size:=fun k hk=>(M.mo_lo hk).2
  have ncb : ¬ mo mb vs vk E.cb:=fun hk=>by have:=(M.mo_lo hk).1;omega
  have nbx : ¬ mo mb vs vk w.heap.size:=fun hk=>by have:=nm _ hk;omega
  have nlow : ∀ k,k < B0 → ¬ mo mb vs vk k:=fun k hk hm=>by have:=(M.mo_lo hm).1;omega
  clear hck M
  go_enter Try.func197,Try.ntmps197
  go_wp2_with fail
  obtain ⟨W,hW⟩ : ∃ W,W = w.alloc (.cells #[.int .i64 22,.int .i64 ia,.int .i64 ib,.int .i64 ic,.int .i64 in_,.slice a n cap] 63):=⟨_,rfl⟩
  have hbW : Below w.heap.size w W:=by rw [hW];exact Rd.byB
  have hsW : W.heap.size = w.heap.size + 1:=by rw [hW];simp
  have b0 : W.cell? ⟨w.heap.size,0,none⟩ = some (.int .i64 22):=by rw [hW];go_simp
  have b1 : W.cell? ⟨w.heap.size,1,none⟩ = some (.int .i64 ia):=by rw [hW];go_simp
  have b2 : W.cell? ⟨w.heap.size,2,none⟩ = some (.int .i64 ib):=by rw [hW];go_simp
  replace d0:=kept hbW lmb d0
  replace d1:=kept hbW lmb d1
  replace c1:=kept hbW lcb c1
  replace c2:=kept hbW lcb c2
  replace r4:=kept hbW lcb r4
  replace r5:=kept hbW lcb r5
  replace G0:=Lib.hid (G0.out.below hbW)
  rw [← hW]
  clear hW
  go_wp2_with fail
  refine (anyA G0.out.M (by omega)).mono ?_
  rintro e w1 A
  rcases A.cases with ⟨s1,h1,rfl⟩ | ⟨h1,rfl⟩
  rotate_left
  · refine And.intro rfl ?_
    exact G0.out.none2 A h1 (by rw [ho.out,h1])
  obtain ⟨vk1,G1⟩:=G0.out.step A h1
  have h':=ho.out
  rw [h1] at h'
  replace h':=Lib.hid h'
  clear A h1
  simp only [tyV]
  go_wp2
  first | go_end0 | ((try simp only [Exit.inBlock,Exit.then]);refine bodyPost_ret (results_none rfl _ _ _) rfl ?_)
  exact G1.some h'.out
set_option maxRecDepth 100000 in
set_option maxHeartbeats 4000000 in
theorem ob11 (M : MS E w B0 mb vs vk s) {o : Option State} (ia ib ic in_ : Int) (a : Option Addr) (n cap : Nat) (hbig : s.stack.length ≤ 1000) (oka : Ok ia) (ho : Hid (o = some s)) : Calls Try.prog 235 #[.pointer (some ⟨mb,0,none⟩),.agg #[.int .i64 11,.int .i64 ia,.int .i64 ib,.int .i64 ic,.int .i64 in_,.slice a n cap]] w (AnsO E B0 mb vs vk w unit_ o):=by
  have G0:=Lib.hid (Gon.start M)
  have d0:=(M.blk 0 (by simp)).1
  have d1:=(M.blk 1 (by simp)).1
  simp only [List.getElem_cons_zero,List.getElem_cons_succ] at d0 d1
  obtain ⟨bad,hck⟩:=M.ck
  have c1:=(hck 1 (by simp [ccells,meV])).1
  have c2:=(hck 2 (by simp [ccells,meV])).1
  have r4:=(hck 4 (by simp [ccells,meV])).1
  have r5:=(hck 5 (by simp [ccells,meV])).1
  simp [ccells,meV] at c1 c2 r4 r5
  have lmb:=M.mbw
  have lcb:=cell_lt c1
  have hb0:=M.base
  have hlow:=M.low
  have nm : ∀ k,mo mb vs vk k → k < w.heap.size:=fun k hk=>(M.mo_lo hk).2
  have ncb : ¬ mo mb vs vk E.cb:=fun hk=>by have:=(M.mo_lo hk).1;omega
  have nbx : ¬ mo mb vs vk w.heap.size:=fun hk=>by have:=nm _ hk;omega
  have nlow : ∀ k,k < B0 → ¬ mo mb vs vk k:=fun k hk hm=>by have:=(M.mo_lo hm).1;omega
  clear hck M
  go_enter Try.func235,Try.ntmps235
  go_wp2_with fail
  obtain ⟨W,hW⟩ : ∃ W,W = w.alloc (.cells #[.int .i64 11,.int .i64 ia,.int .i64 ib,.int .i64 ic,.int .i64 in_,.slice a n cap] 63):=⟨_,rfl⟩
  have hbW : Below w.heap.size w W:=by rw [hW];exact Rd.byB
  have hsW : W.heap.size = w.heap.size + 1:=by rw [hW];simp
  have b0 : W.cell? ⟨w.heap.size,0,none⟩ = some (.int .i64 11):=by rw [hW];go_simp
  have b1 : W.cell? ⟨w.heap.size,1,none⟩ = some (.int .i64 ia):=by rw [hW];go_simp
  have b2 : W.cell? ⟨w.heap.size,2,none⟩ = some (.int .i64 ib):=by rw [hW];go_simp
  replace d0:=kept hbW lmb d0
  replace d1:=kept hbW lmb d1
  replace c1:=kept hbW lcb c1
  replace c2:=kept hbW lcb c2
  replace r4:=kept hbW lcb r4
  replace r5:=kept hbW lcb r5
  replace G0:=Lib.hid (G0.out.below hbW)
  rw [← hW]
  clear hW
  go_wp2
  first | go_end0 | ((try simp only [Exit.inBlock,Exit.then]);refine bodyPost_ret (results_none rfl _ _ _) rfl ?_)
  exact G0.out.some ho.out
set_option maxRecDepth 100000 in
set_option maxHeartbeats 4000000 in
theorem op23 (M : MS E w B0 mb vs vk s) {o : Option State} (ia ib ic in_ : Int) (a : Option Addr) (n cap : Nat) (hbig : s.stack.length ≤ 1000) (oka : Ok ia) (ho : Hid (o = (Chk.any s fun _ s=>some s).bind fun s1=>(Chk.put E.m s1 (Chk.last s)).bind fun s2=>Chk.put E.m s2 (Chk.last s))) : Calls Try.prog 197 #[.pointer (some ⟨mb,0,none⟩),.agg #[.int .i64 23,.int .i64 ia,.int .i64 ib,.int .i64 ic,.int .i64 in_,.slice a n cap]] w (AnsO E B0 mb vs vk w unit_ o):=by
  have G0:=Lib.hid (Gon.start M)
  have d0:=(M.blk 0 (by simp)).1
  have d1:=(M.blk 1 (by simp)).1
  simp only [List.getElem_cons_zero,List.getElem_cons_succ] at d0 d1
  obtain ⟨bad,hck⟩:=M.ck
  have c1:=(hck 1 (by simp [ccells,meV])).1
  have c2:=(hck 2 (by simp [ccells,meV])).1
  have r4:=(hck 4 (by simp [ccells,meV])).1
  have r5:=(hck 5 (by simp [ccells,meV])).1
  simp [ccells,meV] at c1 c2 r4 r5
  have lmb:=M.mbw
  have lcb:=cell_lt c1
  have hb0:=M.base
  have hlow:=M.low
  have nm : ∀ k,mo mb vs vk k → k < w.heap.size:=fun k hk=>(M.mo_lo hk).2
  have ncb : ¬ mo mb vs vk E.cb:=fun hk=>by have:=(M.mo_lo hk).1;omega
  have nbx : ¬ mo mb vs vk w.heap.size:=fun hk=>by have:=nm _ hk;omega
  have nlow : ∀ k,k < B0 → ¬ mo mb vs vk k:=fun k hk hm=>by have:=(M.mo_lo hm).1;omega
  have hxk:=last_ok M
  obtain ⟨⟨xk,xc⟩,hx⟩ : ∃ x,Hid (Chk.last s = x):=⟨_,Lib.hid rfl⟩
  rw [hx.out] at hxk ho
  clear hck M
  go_enter Try.func197,Try.ntmps197
  go_wp2_with fail
  obtain ⟨W,hW⟩ : ∃ W,W = w.alloc (.cells #[.int .i64 23,.int .i64 ia,.int .i64 ib,.int .i64 ic,.int .i64 in_,.slice a n cap] 63):=⟨_,rfl⟩
  have hbW : Below w.heap.size w W:=by rw [hW];exact Rd.byB
  have hsW : W.heap.size = w.heap.size + 1:=by rw [hW];simp
  have b0 : W.cell? ⟨w.heap.size,0,none⟩ = some (.int .i64 23):=by rw [hW];go_simp
  have b1 : W.cell? ⟨w.heap.size,1,none⟩ = some (.int .i64 ia):=by rw [hW];go_simp
  have b2 : W.cell? ⟨w.heap.size,2,none⟩ = some (.int .i64 ib):=by rw [hW];go_simp
  replace d0:=kept hbW lmb d0
  replace d1:=kept hbW lmb d1
  replace c1:=kept hbW lcb c1
  replace c2:=kept hbW lcb c2
  replace r4:=kept hbW lcb r4
  replace r5:=kept hbW lcb r5
  replace G0:=Lib.hid (G0.out.below hbW)
  rw [← hW]
  clear hW
  go_wp2_with fail
  refine (anyA G0.out.M (by omega)).mono ?_
  rintro e w1 A
  rcases A.cases with ⟨s1,h1,rfl⟩ | ⟨h1,rfl⟩
  rotate_left
  · refine And.intro rfl ?_
    exact G0.out.none2 A h1 (by rw [ho.out,h1];rfl)
  obtain ⟨vk1,G1⟩:=G0.out.step A h1
  have l1:=(by rw [(any_some h1).2];simp [Chk.pop] : s1.stack.length ≤ s.stack.length)
  have KA:=A.kp
  have h':=ho.out
  rw [h1,Option.bind_some] at h'
  replace ho:=Lib.hid h'
  replace d0:=(G1.M.blk 0 (by simp)).1
  simp only [List.getElem_cons_zero] at d0
  replace G0:=Lib.hid G1
  have hpop:=(any_some h1).2
  clear A G1 h1 h' KA
  simp only [tyV,hx.out]
  go_wp2_with fail
  obtain ⟨W,hW⟩ : ∃ W,W = w1.alloc (.cells #[.int .i64 xk,.int .i64 xc] 51):=⟨_,rfl⟩
  have x0 : W.cell? ⟨w1.heap.size,0,none⟩ = some (.int .i64 xk):=by rw [hW];go_simp
  have x1 : W.cell? ⟨w1.heap.size,1,none⟩ = some (.int .i64 xc):=by rw [hW];go_simp
  have hbW2 : Below w1.heap.size w1 W:=by rw [hW];exact Rd.byB
  have nbx2 : ¬ mo mb vs vk1 w1.heap.size:=fun hk=>by have:=(G0.out.M.mo_lo hk).2;omega
  rw [← hW]
  clear hW
  replace G0:=Lib.hid (G0.out.below hbW2)
  refine (put G0.out.M ⟨xk,xc⟩ hxk (by omega)).mono ?_
  rintro e w2 A
  rcases A.cases with ⟨s2,h1,rfl⟩ | ⟨h1,rfl⟩
  rotate_left
  · refine And.intro rfl ?_
    exact G0.out.none2 A h1 (by rw [ho.out,h1];rfl)
  obtain ⟨vk2,G1⟩:=G0.out.step A h1
  have l2:=put_len h1
  have KA:=A.kp
  replace x0:=KA.cell x0 nbx2
  replace x1:=KA.cell x1 nbx2
  have h':=ho.out
  rw [h1,Option.bind_some] at h'
  replace ho:=Lib.hid h'
  replace d0:=(G1.M.blk 0 (by simp)).1
  simp only [List.getElem_cons_zero] at d0
  replace G0:=Lib.hid G1
  clear A G1 h1 h' KA
  go_wp2_with fail
  refine (put G0.out.M ⟨xk,xc⟩ hxk (by omega)).mono ?_
  rintro e w3 A
  have A2:=Lib.hid (G0.out.fin A)
  rcases A.cases with ⟨s3,h1,rfl⟩ | ⟨h1,rfl⟩
  · clear A h1
    go_wp2
    first | go_end0 | ((try simp only [Exit.inBlock,Exit.then]);refine bodyPost_ret (results_none rfl _ _ _) rfl ?_)
    rw [ho.out]
    exact A2.out
  · refine And.intro rfl ?_
    rw [ho.out]
    exact A2.out
set_option maxRecDepth 100000 in
set_option maxHeartbeats 4000000 in
theorem op4 (M : MS E w B0 mb vs vk s) {o : Option State} (ia ib ic in_ : Int) (a : Option Addr) (n cap : Nat) (hbig : s.stack.length ≤ 1000) (oka : Ok ia) {ka : Nat} (eka : ia = ka) (hka : ka < s.slots.length) (hpr : Paired s.slots) (hsl : s.slots.length ≤ 1000) (ho : Hid (o = if loadB s.slots ka ib = true then Chk.put E.m s (loadV s.slots ka ib) else none)) : Calls Try.prog 197 #[.pointer (some ⟨mb,0,none⟩),.agg #[.int .i64 4,.int .i64 ia,.int .i64 ib,.int .i64 ic,.int .i64 in_,.slice a n cap]] w (AnsO E B0 mb vs vk w unit_ o):=by
  subst eka
  have G0:=Lib.hid (Gon.start M)
  have d0:=(M.blk 0 (by simp)).1
  have d1:=(M.blk 1 (by simp)).1
  simp only [List.getElem_cons_zero,List.getElem_cons_succ] at d0 d1
  obtain ⟨bad,hck⟩:=M.ck
  have c1:=(hck 1 (by simp [ccells,meV])).1
  have c2:=(hck 2 (by simp [ccells,meV])).1
  have r4:=(hck 4 (by simp [ccells,meV])).1
  have r5:=(hck 5 (by simp [ccells,meV])).1
  simp [ccells,meV] at c1 c2 r4 r5
  have lmb:=M.mbw
  have lcb:=cell_lt c1
  have hb0:=M.base
  have hlow:=M.low
  have nm : ∀ k,mo mb vs vk k → k < w.heap.size:=fun k hk=>(M.mo_lo hk).2
  have ncb : ¬ mo mb vs vk E.cb:=fun hk=>by have:=(M.mo_lo hk).1;omega
  have nbx : ¬ mo mb vs vk w.heap.size:=fun hk=>by have:=nm _ hk;omega
  have nlow : ∀ k,k < B0 → ¬ mo mb vs vk k:=fun k hk hm=>by have:=(M.mo_lo hm).1;omega
  have hxk:=load_ok M ka ib
  obtain ⟨⟨xk,xc⟩,hx⟩ : ∃ x,Hid (loadV s.slots ka ib = x):=⟨_,Lib.hid rfl⟩
  obtain ⟨p,hp⟩ : ∃ p,Hid (loadB s.slots ka ib = p):=⟨_,Lib.hid rfl⟩
  rw [hx.out] at hxk ho
  rw [hp.out] at ho
  clear hck M
  go_enter Try.func197,Try.ntmps197
  go_wp2_with fail
  obtain ⟨W,hW⟩ : ∃ W,W = w.alloc (.cells #[.int .i64 4,.int .i64 ka,.int .i64 ib,.int .i64 ic,.int .i64 in_,.slice a n cap] 63):=⟨_,rfl⟩
  have hbW : Below w.heap.size w W:=by rw [hW];exact Rd.byB
  have hsW : W.heap.size = w.heap.size + 1:=by rw [hW];simp
  have b0 : W.cell? ⟨w.heap.size,0,none⟩ = some (.int .i64 4):=by rw [hW];go_simp
  have b1 : W.cell? ⟨w.heap.size,1,none⟩ = some (.int .i64 ka):=by rw [hW];go_simp
  have b2 : W.cell? ⟨w.heap.size,2,none⟩ = some (.int .i64 ib):=by rw [hW];go_simp
  replace d0:=kept hbW lmb d0
  replace d1:=kept hbW lmb d1
  replace c1:=kept hbW lcb c1
  replace c2:=kept hbW lcb c2
  replace r4:=kept hbW lcb r4
  replace r5:=kept hbW lcb r5
  replace G0:=Lib.hid (G0.out.below hbW)
  rw [← hW]
  clear hW
  have lmb2 : mb < W.heap.size:=by omega
  have G00:=Lib.hid G0.out
  go_wp2_with fail
  refine wp_region_held_drew (S:=fun w'=>w'.cell? ⟨w.heap.size,1,none⟩ = some (.int .i64 ka) ∧ w'.cell? ⟨w.heap.size,2,none⟩ = some (.int .i64 ib)) (by kernel_rfl) (by (try dsimp only);exact ⟨b1,b2⟩) (fun hHeld=>?_)
  refine Drawn.tk 0 (some 32) rfl rfl (by assumption) ?_
  try simp only [Act.put,Drawn.La,Drawn.Lb,Drawn.Lc]
  refine Drawn.tk 1 (some 33) rfl rfl (by assumption) ?_
  try simp only [Act.put,Drawn.La,Drawn.Lb,Drawn.Lc]
  refine Drawn.tk 2 (some 34) rfl rfl (by assumption) ?_
  try simp only [Act.put,Drawn.La,Drawn.Lb,Drawn.Lc]
  refine Drawn.tk 3 (some 35) rfl rfl (by assumption) ?_
  try simp only [Act.put,Drawn.La,Drawn.Lb,Drawn.Lc]
  refine Drawn.tk 4 (some 36) rfl rfl (by assumption) ?_
  try simp only [Act.put,Drawn.La,Drawn.Lb,Drawn.Lc]
  refine Drawn.tk 5 (some 37) rfl rfl (by assumption) ?_
  try simp only [Act.put,Drawn.La,Drawn.Lb,Drawn.Lc]
  refine Drawn.tk 6 (some 38) rfl rfl (by assumption) ?_
  try simp only [Act.put,Drawn.La,Drawn.Lb,Drawn.Lc]
  refine wpAnyH_ready (rs:=[7,11]) (by kernel_rfl) (by simp) ?_
  refine AllReadyH.cons rfl (fun K hK=>?_) (AllReadyH.cons rfl (fun K hK=>?_) AllReadyH.nil)
  · go_simp
    go_at_call 230
    refine (load (b:=mb) (o:=1) (l:=s.slots) (vs:=vs) (base:=B0) (by go_simp) ((G00.out.below (by exact Rd.byB)).M.slots) ka ib hka hpr (by omega)).mono ?_
    rintro e w2 ⟨rfl,hb2⟩
    rw [hx.out,hp.out]
    have hbW2 : Below W.heap.size W w2:=Below.trans (by exact Rd.byB) (hb2.mono Rd.byL)
    have lw2:=hbW2.size
    have lw3 : w.heap.size < w2.heap.size:=by omega
    replace G0:=Lib.hid (G00.out.below hbW2)
    have e1:=kept hbW2 (cell_lt b1) b1
    have e2:=kept hbW2 (cell_lt b2) b2
    go_wp2_with fail
    refine hK.out _ _ (by (try dsimp only);exact ⟨e1,e2⟩) (fun hHeld=>?_)
    clear hK K
    try simp only [Act.put,Drawn.La,Drawn.Lb,Drawn.Lc]
    refine Drawn.tk 8 (some 31) rfl rfl (by assumption) ?_
    try simp only [Act.put,Drawn.La,Drawn.Lb,Drawn.Lc]
    refine Drawn.tk 9 (some 40) rfl rfl (by assumption) ?_
    try simp only [Act.put,Drawn.La,Drawn.Lb,Drawn.Lc]
    refine Drawn.tk 10 (some 41) rfl rfl (by assumption) ?_
    try simp only [Act.put,Drawn.La,Drawn.Lb,Drawn.Lc]
    refine wpAnyH_ready (rs:=[11]) (by kernel_rfl) (by simp) ?_
    refine AllReadyH.cons rfl (fun K hK=>?_) AllReadyH.nil
    go_simp
    refine hK.out _ _ (by (try dsimp only);refine ⟨?_,?_⟩ <;> go_simp) (fun hHeld=>?_)
    clear hK K
    try simp only [Act.put,Drawn.La,Drawn.Lb,Drawn.Lc]
    refine wpAnyH_ready (rs:=[12]) (by kernel_rfl) (by simp) ?_
    refine AllReadyH.cons rfl (fun K hK=>?_) AllReadyH.nil
    go_simp
    refine hK.out _ _ (by (try dsimp only);refine ⟨?_,?_⟩ <;> go_simp) (fun hHeld=>?_)
    clear hK K
    try simp only [Act.put,Drawn.La,Drawn.Lb,Drawn.Lc]
    refine Drawn.tk 13 (some 5) rfl rfl (by assumption) ?_
    try simp only [Act.put,Drawn.La,Drawn.Lb,Drawn.Lc]
    refine wpAnyH_done (by kernel_rfl) ?_ _
    go_wp2_with fail
    cases p
    · refine (mustF _).mono ?_
      rintro e w9 ⟨rfl,rfl⟩
      refine And.intro rfl ?_
      exact ansN (by rw [ho.out];rfl) rfl (G00.out.below (by exact Rd.byB)).M.ex (G00.out.below (by exact Rd.byB)).K
    refine (mustT _).mono ?_
    rintro e w9 ⟨rfl,rfl⟩
    go_wp2_with fail
    refine (put (G00.out.below (by exact Rd.byB)).M ⟨xk,xc⟩ hxk (by omega)).mono ?_
    rintro e w3 A
    have A2:=Lib.hid ((G00.out.below (by exact Rd.byB)).fin A)
    rcases A.cases with ⟨s3,h1,rfl⟩ | ⟨h1,rfl⟩
    · clear A h1
      go_wp2
      first | go_end0 | ((try simp only [Exit.inBlock,Exit.then]);refine bodyPost_ret (results_none rfl _ _ _) rfl ?_)
      rw [ho.out];first | rw [if_pos rfl] | rw [if_pos trivial]
      exact A2.out
    · refine And.intro rfl ?_
      rw [ho.out];first | rw [if_pos rfl] | rw [if_pos trivial]
      exact A2.out
  · go_simp
    refine hK.out _ _ (by (try dsimp only);refine ⟨?_,?_⟩ <;> go_simp) (fun hHeld=>?_)
    clear hK K
    try simp only [Act.put,Drawn.La,Drawn.Lb,Drawn.Lc]
    refine wpAnyH_ready (rs:=[7]) (by kernel_rfl) (by simp) ?_
    refine AllReadyH.cons rfl (fun K hK=>?_) AllReadyH.nil
    go_simp
    go_at_call 230
    refine (load (b:=mb) (o:=1) (l:=s.slots) (vs:=vs) (base:=B0) (by go_simp) ((G00.out.below (by exact Rd.byB)).M.slots) ka ib hka hpr (by omega)).mono ?_
    rintro e w2 ⟨rfl,hb2⟩
    rw [hx.out,hp.out]
    have hbW2 : Below W.heap.size W w2:=Below.trans (by exact Rd.byB) (hb2.mono Rd.byL)
    have lw2:=hbW2.size
    have lw3 : w.heap.size < w2.heap.size:=by omega
    have e1:=kept hbW2 (cell_lt b1) b1
    have e2:=kept hbW2 (cell_lt b2) b2
    have z0 : w2.cell? ⟨w.heap.size + 1,0,none⟩ = some (.int .i64 0):=kept hb2 Rd.byL (by rw [← hsW];go_simp)
    have z1 : w2.cell? ⟨w.heap.size + 1,1,none⟩ = some (.int .i64 0):=kept hb2 Rd.byL (by rw [← hsW];go_simp)
    have z2 : w2.frozen? ⟨w.heap.size + 1,0,none⟩ = false:=keptf hb2 Rd.byL (by rw [← hsW];go_simp)
    have z3 : w2.frozen? ⟨w.heap.size + 1,1,none⟩ = false:=keptf hb2 Rd.byL (by rw [← hsW];go_simp)
    go_wp2_with fail
    refine hK.out _ _ (by (try dsimp only);exact ⟨e1,e2⟩) (fun hHeld=>?_)
    clear hK K
    try simp only [Act.put,Drawn.La,Drawn.Lb,Drawn.Lc]
    refine Drawn.tk 8 (some 31) rfl rfl (by assumption) ?_
    try simp only [Act.put,Drawn.La,Drawn.Lb,Drawn.Lc]
    refine Drawn.tk 9 (some 40) rfl rfl (by assumption) ?_
    try simp only [Act.put,Drawn.La,Drawn.Lb,Drawn.Lc]
    refine Drawn.tk 10 (some 41) rfl rfl (by assumption) ?_
    try simp only [Act.put,Drawn.La,Drawn.Lb,Drawn.Lc]
    refine wpAnyH_ready (rs:=[12]) (by kernel_rfl) (by simp) ?_
    refine AllReadyH.cons rfl (fun K hK=>?_) AllReadyH.nil
    go_simp
    refine hK.out _ _ (by (try dsimp only);refine ⟨?_,?_⟩ <;> go_simp) (fun hHeld=>?_)
    clear hK K
    try simp only [Act.put,Drawn.La,Drawn.Lb,Drawn.Lc]
    refine Drawn.tk 13 (some 5) rfl rfl (by assumption) ?_
    try simp only [Act.put,Drawn.La,Drawn.Lb,Drawn.Lc]
    refine wpAnyH_done (by kernel_rfl) ?_ _
    go_wp2_with fail
    cases p
    · refine (mustF _).mono ?_
      rintro e w9 ⟨rfl,rfl⟩
      refine And.intro rfl ?_
      exact ansN (by rw [ho.out];rfl) rfl (G00.out.below (by exact Rd.byB)).M.ex (G00.out.below (by exact Rd.byB)).K
    refine (mustT _).mono ?_
    rintro e w9 ⟨rfl,rfl⟩
    go_wp2_with fail
    refine (put (G00.out.below (by exact Rd.byB)).M ⟨xk,xc⟩ hxk (by omega)).mono ?_
    rintro e w3 A
    have A2:=Lib.hid ((G00.out.below (by exact Rd.byB)).fin A)
    rcases A.cases with ⟨s3,h1,rfl⟩ | ⟨h1,rfl⟩
    · clear A h1
      go_wp2
      first | go_end0 | ((try simp only [Exit.inBlock,Exit.then]);refine bodyPost_ret (results_none rfl _ _ _) rfl ?_)
      rw [ho.out];first | rw [if_pos rfl] | rw [if_pos trivial]
      exact A2.out
    · refine And.intro rfl ?_
      rw [ho.out];first | rw [if_pos rfl] | rw [if_pos trivial]
      exact A2.out
set_option maxRecDepth 100000 in
set_option maxHeartbeats 4000000 in
theorem op5b (M : MS E w B0 mb vs vk s) {o : Option State} (ia ib ic in_ : Int) (a : Option Addr) (n cap : Nat) (hbig : s.stack.length ≤ 1000) (oka : Ok ia) {ka : Nat} (eka : ia = ka) (hka : ka < s.slots.length) (hpr : Paired s.slots) (hsl : s.slots.length ≤ 1000) (hib : ib ≠ 3) (h2s : (Chk.last s).kind = ib → ib = 2 → ka + 1 < s.slots.length) (ho : Hid (o = (Chk.any s fun _ s=>some s).bind fun s1=>if ((Chk.last s).kind == ib) = true then some ⟨Flow.store s1.slots ka (Chk.last s),s1.stack,s1.broken⟩ else none)) : Calls Try.prog 197 #[.pointer (some ⟨mb,0,none⟩),.agg #[.int .i64 5,.int .i64 ia,.int .i64 ib,.int .i64 ic,.int .i64 in_,.slice a n cap]] w (AnsO E B0 mb vs vk w unit_ o):=by
  subst eka
  have G0:=Lib.hid (Gon.start M)
  have d0:=(M.blk 0 (by simp)).1
  have d1:=(M.blk 1 (by simp)).1
  simp only [List.getElem_cons_zero,List.getElem_cons_succ] at d0 d1
  obtain ⟨bad,hck⟩:=M.ck
  have c1:=(hck 1 (by simp [ccells,meV])).1
  have c2:=(hck 2 (by simp [ccells,meV])).1
  have r4:=(hck 4 (by simp [ccells,meV])).1
  have r5:=(hck 5 (by simp [ccells,meV])).1
  simp [ccells,meV] at c1 c2 r4 r5
  have lmb:=M.mbw
  have lcb:=cell_lt c1
  have hb0:=M.base
  have hlow:=M.low
  have nm : ∀ k,mo mb vs vk k → k < w.heap.size:=fun k hk=>(M.mo_lo hk).2
  have ncb : ¬ mo mb vs vk E.cb:=fun hk=>by have:=(M.mo_lo hk).1;omega
  have nbx : ¬ mo mb vs vk w.heap.size:=fun hk=>by have:=nm _ hk;omega
  have nlow : ∀ k,k < B0 → ¬ mo mb vs vk k:=fun k hk hm=>by have:=(M.mo_lo hm).1;omega
  have hxk:=last_ok M
  obtain ⟨⟨xk,xc⟩,hx⟩ : ∃ x,Hid (Chk.last s = x):=⟨_,Lib.hid rfl⟩
  rw [hx.out] at hxk ho h2s
  obtain ⟨p,hp⟩ : ∃ p,Hid ((xk == ib) = p):=⟨_,Lib.hid rfl⟩
  rw [hp.out] at ho
  obtain ⟨ca,ccap,evc,_⟩:=M.cls
  have hwf:=M.wf
  simp only at h2s
  clear hck M
  go_enter Try.func197,Try.ntmps197
  go_wp2_with fail
  obtain ⟨W,hW⟩ : ∃ W,W = w.alloc (.cells #[.int .i64 5,.int .i64 ka,.int .i64 ib,.int .i64 ic,.int .i64 in_,.slice a n cap] 63):=⟨_,rfl⟩
  have hbW : Below w.heap.size w W:=by rw [hW];exact Rd.byB
  have hsW : W.heap.size = w.heap.size + 1:=by rw [hW];simp
  have b0 : W.cell? ⟨w.heap.size,0,none⟩ = some (.int .i64 5):=by rw [hW];go_simp
  have b1 : W.cell? ⟨w.heap.size,1,none⟩ = some (.int .i64 ka):=by rw [hW];go_simp
  have b2 : W.cell? ⟨w.heap.size,2,none⟩ = some (.int .i64 ib):=by rw [hW];go_simp
  replace d0:=kept hbW lmb d0
  replace d1:=kept hbW lmb d1
  replace c1:=kept hbW lcb c1
  replace c2:=kept hbW lcb c2
  replace r4:=kept hbW lcb r4
  replace r5:=kept hbW lcb r5
  replace G0:=Lib.hid (G0.out.below hbW)
  rw [← hW]
  clear hW
  go_wp2_with fail
  refine (anyA G0.out.M (by omega)).mono ?_
  rintro e w1 A
  rcases A.cases with ⟨s1,h1,rfl⟩ | ⟨h1,rfl⟩
  rotate_left
  · refine And.intro rfl ?_
    exact G0.out.none2 A h1 (by rw [ho.out,h1];rfl)
  obtain ⟨vk1,G1⟩:=G0.out.step A h1
  have l1:=(by rw [(any_some h1).2];simp [Chk.pop] : s1.stack.length ≤ s.stack.length)
  have KA:=A.kp
  replace b1:=KA.cell b1 nbx
  replace b2:=KA.cell b2 nbx
  replace c1:=KA.cell c1 ncb
  have h':=ho.out
  rw [h1,Option.bind_some] at h'
  replace ho:=Lib.hid h'
  replace d0:=(G1.M.blk 0 (by simp)).1
  simp only [List.getElem_cons_zero] at d0
  replace G0:=Lib.hid G1
  have hpop:=(any_some h1).2
  clear A G1 h1 h' KA
  have lw1 : w.heap.size < w1.heap.size:=cell_lt b1
  have lcb1:=cell_lt c1
  have lmb1:=cell_lt d0
  have d1:=(G0.out.M.blk 1 (by simp)).1
  simp only [List.getElem_cons_zero,List.getElem_cons_succ] at d1
  have hsl1 : s1.slots = s.slots:=by rw [hpop];rfl
  rw [hsl1] at ho
  rw [evc] at c1
  simp only [tyV,hx.out]
  have q3 : (ib == 3) = false:=by simpa using hib
  have hp':=hp.out
  go_wp2_with fail
  obtain ⟨W,hW⟩ : ∃ W,W = w1.alloc (.cells #[.int .i64 xk,.int .i64 xc] 51):=⟨_,rfl⟩
  have x0 : W.cell? ⟨w1.heap.size,0,none⟩ = some (.int .i64 xk):=by rw [hW];go_simp
  have x1 : W.cell? ⟨w1.heap.size,1,none⟩ = some (.int .i64 xc):=by rw [hW];go_simp
  have hbW2 : Below w1.heap.size w1 W:=by rw [hW];exact Rd.byB
  have nbx2 : ¬ mo mb vs vk1 w1.heap.size:=fun hk=>by have:=(G0.out.M.mo_lo hk).2;omega
  replace b1:=kept hbW2 lw1 b1
  replace b2:=kept hbW2 lw1 b2
  replace c1:=kept hbW2 lcb1 c1
  replace d0:=kept hbW2 lmb1 d0
  replace d1:=kept hbW2 lmb1 d1
  rw [← hW]
  replace G0:=Lib.hid (G0.out.below hbW2)
  have hsW2 : W.heap.size = w1.heap.size + 1:=by rw [hW];simp
  clear hW
  cases p
  · refine (mustF _).mono ?_
    rintro e w9 ⟨rfl,rfl⟩
    refine And.intro rfl ?_
    exact ansN (by rw [ho.out];rfl) rfl G0.out.M.ex G0.out.K
  refine (mustT _).mono ?_
  rintro e w9 ⟨rfl,rfl⟩
  have h2t : (⟨xk,xc⟩ : Ty).kind = 2 → ka + 1 < s.slots.length:=fun e=>by
    have e1 : xk = ib:=by simpa using hp.out
    exact h2s e1 (by rw [← e1];exact e)
  go_wp2_with fail
  go_still_tail 6,(by kernel_rfl)
  replace G0:=Lib.hid (G0.out.below (w':=W.drew) (by exact Rd.byB))
  have d1' : W.drew.cell? ⟨mb,1,none⟩ = some vs:=by go_simp
  go_wp2_with (go_at_call 91;refine (store (b:=mb) (o:=1) d1' G0.out.M.slots G0.out.M.n1 ka ⟨xk,xc⟩ hxk (by rw [hsl1];exact hka) (by rw [hsl1];exact h2t) (by rw [hsl1];exact hpr) (by rw [hsl1];omega)).mono ?_;rintro e w3 ⟨rfl,T3,K3⟩;have G3:=Lib.hid (G0.out.setSlots K3 T3))
  first | go_end0 | ((try simp only [Exit.inBlock,Exit.then]);refine bodyPost_ret (results_none rfl _ _ _) rfl ?_)
  rw [hsl1] at G3
  exact G3.out.some (by rw [ho.out];first | rw [if_pos rfl] | rw [if_pos trivial])
set_option maxRecDepth 100000 in
set_option maxHeartbeats 4000000 in
theorem op5a (M : MS E w B0 mb vs vk s) {o : Option State} (ia ib ic in_ : Int) (a : Option Addr) (n cap : Nat) (hbig : s.stack.length ≤ 1000) (oka : Ok ia) {ka : Nat} (eka : ia = ka) (hka : ka < s.slots.length) (hpr : Paired s.slots) (hsl : s.slots.length ≤ 1000) (hib : ib = 3) (h2s : (Chk.last s).kind = ib → ib = 2 → ka + 1 < s.slots.length) (ho : Hid (o = (Chk.any s fun _ s=>some s).bind fun s1=>if Flow.fits E.f.classes (Chk.last s) ⟨3,0⟩ = true then some ⟨Flow.store s1.slots ka (Chk.last s),s1.stack,s1.broken⟩ else none)) : Calls Try.prog 197 #[.pointer (some ⟨mb,0,none⟩),.agg #[.int .i64 5,.int .i64 ia,.int .i64 ib,.int .i64 ic,.int .i64 in_,.slice a n cap]] w (AnsO E B0 mb vs vk w unit_ o):=by
  subst eka
  subst hib
  have G0:=Lib.hid (Gon.start M)
  have d0:=(M.blk 0 (by simp)).1
  have d1:=(M.blk 1 (by simp)).1
  simp only [List.getElem_cons_zero,List.getElem_cons_succ] at d0 d1
  obtain ⟨bad,hck⟩:=M.ck
  have c1:=(hck 1 (by simp [ccells,meV])).1
  have c2:=(hck 2 (by simp [ccells,meV])).1
  have r4:=(hck 4 (by simp [ccells,meV])).1
  have r5:=(hck 5 (by simp [ccells,meV])).1
  simp [ccells,meV] at c1 c2 r4 r5
  have lmb:=M.mbw
  have lcb:=cell_lt c1
  have hb0:=M.base
  have hlow:=M.low
  have nm : ∀ k,mo mb vs vk k → k < w.heap.size:=fun k hk=>(M.mo_lo hk).2
  have ncb : ¬ mo mb vs vk E.cb:=fun hk=>by have:=(M.mo_lo hk).1;omega
  have nbx : ¬ mo mb vs vk w.heap.size:=fun hk=>by have:=nm _ hk;omega
  have nlow : ∀ k,k < B0 → ¬ mo mb vs vk k:=fun k hk hm=>by have:=(M.mo_lo hm).1;omega
  have hxk:=last_ok M
  obtain ⟨⟨xk,xc⟩,hx⟩ : ∃ x,Hid (Chk.last s = x):=⟨_,Lib.hid rfl⟩
  rw [hx.out] at hxk ho h2s
  obtain ⟨p,hp⟩ : ∃ p,Hid ((Flow.fits E.f.classes ((⟨xk,xc⟩ : Ty)) ⟨3,0⟩) = p):=⟨_,Lib.hid rfl⟩
  rw [hp.out] at ho
  obtain ⟨ca,ccap,evc,_⟩:=M.cls
  have hwf:=M.wf
  simp only at h2s
  clear hck M
  go_enter Try.func197,Try.ntmps197
  go_wp2_with fail
  obtain ⟨W,hW⟩ : ∃ W,W = w.alloc (.cells #[.int .i64 5,.int .i64 ka,.int .i64 3,.int .i64 ic,.int .i64 in_,.slice a n cap] 63):=⟨_,rfl⟩
  have hbW : Below w.heap.size w W:=by rw [hW];exact Rd.byB
  have hsW : W.heap.size = w.heap.size + 1:=by rw [hW];simp
  have b0 : W.cell? ⟨w.heap.size,0,none⟩ = some (.int .i64 5):=by rw [hW];go_simp
  have b1 : W.cell? ⟨w.heap.size,1,none⟩ = some (.int .i64 ka):=by rw [hW];go_simp
  have b2 : W.cell? ⟨w.heap.size,2,none⟩ = some (.int .i64 3):=by rw [hW];go_simp
  replace d0:=kept hbW lmb d0
  replace d1:=kept hbW lmb d1
  replace c1:=kept hbW lcb c1
  replace c2:=kept hbW lcb c2
  replace r4:=kept hbW lcb r4
  replace r5:=kept hbW lcb r5
  replace G0:=Lib.hid (G0.out.below hbW)
  rw [← hW]
  clear hW
  go_wp2_with fail
  refine (anyA G0.out.M (by omega)).mono ?_
  rintro e w1 A
  rcases A.cases with ⟨s1,h1,rfl⟩ | ⟨h1,rfl⟩
  rotate_left
  · refine And.intro rfl ?_
    exact G0.out.none2 A h1 (by rw [ho.out,h1];rfl)
  obtain ⟨vk1,G1⟩:=G0.out.step A h1
  have l1:=(by rw [(any_some h1).2];simp [Chk.pop] : s1.stack.length ≤ s.stack.length)
  have KA:=A.kp
  replace b1:=KA.cell b1 nbx
  replace b2:=KA.cell b2 nbx
  replace c1:=KA.cell c1 ncb
  have h':=ho.out
  rw [h1,Option.bind_some] at h'
  replace ho:=Lib.hid h'
  replace d0:=(G1.M.blk 0 (by simp)).1
  simp only [List.getElem_cons_zero] at d0
  replace G0:=Lib.hid G1
  have hpop:=(any_some h1).2
  clear A G1 h1 h' KA
  have lw1 : w.heap.size < w1.heap.size:=cell_lt b1
  have lcb1:=cell_lt c1
  have lmb1:=cell_lt d0
  have d1:=(G0.out.M.blk 1 (by simp)).1
  simp only [List.getElem_cons_zero,List.getElem_cons_succ] at d1
  have hsl1 : s1.slots = s.slots:=by rw [hpop];rfl
  rw [hsl1] at ho
  rw [evc] at c1
  simp only [tyV,hx.out]
  go_wp2_with fail
  obtain ⟨W,hW⟩ : ∃ W,W = w1.alloc (.cells #[.int .i64 xk,.int .i64 xc] 51):=⟨_,rfl⟩
  have x0 : W.cell? ⟨w1.heap.size,0,none⟩ = some (.int .i64 xk):=by rw [hW];go_simp
  have x1 : W.cell? ⟨w1.heap.size,1,none⟩ = some (.int .i64 xc):=by rw [hW];go_simp
  have hbW2 : Below w1.heap.size w1 W:=by rw [hW];exact Rd.byB
  have nbx2 : ¬ mo mb vs vk1 w1.heap.size:=fun hk=>by have:=(G0.out.M.mo_lo hk).2;omega
  replace b1:=kept hbW2 lw1 b1
  replace b2:=kept hbW2 lw1 b2
  replace c1:=kept hbW2 lcb1 c1
  replace d0:=kept hbW2 lmb1 d0
  replace d1:=kept hbW2 lmb1 d1
  rw [← hW]
  replace G0:=Lib.hid (G0.out.below hbW2)
  have hsW2 : W.heap.size = w1.heap.size + 1:=by rw [hW];simp
  clear hW
  refine wp_region_held_drew (S:=fun w'=>(w'.cell? ⟨mb,0,none⟩ = some (.pointer (some ⟨E.cb,0,none⟩)) ∧ w'.cell? ⟨E.cb,1,none⟩ = some (.slice ca E.f.classes.length ccap)) ∧ w'.cell? ⟨w1.heap.size,0,none⟩ = some (.int .i64 xk) ∧ w'.cell? ⟨w1.heap.size,1,none⟩ = some (.int .i64 xc)) (by kernel_rfl) (by (try dsimp only);exact ⟨⟨d0,c1⟩,x0,x1⟩) (fun hHeld=>?_)
  refine Drawn.tk 0 (some 54) rfl rfl (by assumption) ?_
  try simp only [Act.put,Drawn.La,Drawn.Lb,Drawn.Lc]
  refine Drawn.tk 1 (some 55) rfl rfl (by assumption) ?_
  try simp only [Act.put,Drawn.La,Drawn.Lb,Drawn.Lc]
  refine Drawn.tk 2 (some 56) rfl rfl (by assumption) ?_
  try simp only [Act.put,Drawn.La,Drawn.Lb,Drawn.Lc]
  refine Drawn.tk 3 (some 57) rfl rfl (by assumption) ?_
  try simp only [Act.put,Drawn.La,Drawn.Lb,Drawn.Lc]
  refine Drawn.tk 4 (some 58) rfl rfl (by assumption) ?_
  try simp only [Act.put,Drawn.La,Drawn.Lb,Drawn.Lc]
  refine Drawn.tk 5 (some 59) rfl rfl (by assumption) ?_
  try simp only [Act.put,Drawn.La,Drawn.Lb,Drawn.Lc]
  refine Drawn.tk 6 (some 60) rfl rfl (by assumption) ?_
  try simp only [Act.put,Drawn.La,Drawn.Lb,Drawn.Lc]
  refine Drawn.tk 7 (some 61) rfl rfl (by assumption) ?_
  try simp only [Act.put,Drawn.La,Drawn.Lb,Drawn.Lc]
  refine Drawn.tk 8 (some 62) rfl rfl (by assumption) ?_
  try simp only [Act.put,Drawn.La,Drawn.Lb,Drawn.Lc]
  refine wpAnyH_ready (rs:=[9]) (by kernel_rfl) (by simp) ?_
  refine AllReadyH.cons rfl (fun K hK=>?_) AllReadyH.nil
  go_simp
  go_at_call 149
  refine (ref _ _).mono ?_
  rintro e w4 ⟨rfl,hb4⟩
  have hb4W : Below W.heap.size W w4:=Below.trans (by exact Rd.byB) (hb4.mono Rd.byL)
  have C4:=Lib.hid (G0.out.below hb4W).M.cs
  replace G0:=Lib.hid (G0.out.below hb4W)
  have i0:=kept hb4W (cell_lt d0) d0
  have i1:=kept hb4W (cell_lt c1) c1
  have i2:=kept hb4W (cell_lt x0) x0
  have i3:=kept hb4W (cell_lt x1) x1
  go_wp2_with fail
  refine hK.out _ _ (by (try dsimp only);exact ⟨⟨i0,i1⟩,i2,i3⟩) (fun hHeld=>?_)
  clear hK K
  try simp only [Act.put,Drawn.La,Drawn.Lb,Drawn.Lc]
  refine wpAnyH_ready (rs:=[10]) (by kernel_rfl) (by simp) ?_
  refine AllReadyH.cons rfl (fun K hK=>?_) AllReadyH.nil
  go_simp
  go_at_call 233
  rw [evc] at C4
  refine (fits C4.out hwf ⟨xk,xc⟩ ⟨3,0⟩).mono ?_
  rintro e w5 ⟨rfl,hb5⟩
  rw [hp.out]
  replace G0:=Lib.hid (G0.out.below hb5)
  replace i0:=kept hb5 (cell_lt i0) i0
  replace i1:=kept hb5 (cell_lt i1) i1
  replace i2:=kept hb5 (cell_lt i2) i2
  replace i3:=kept hb5 (cell_lt i3) i3
  go_wp2_with fail
  refine hK.out _ _ (by (try dsimp only);exact ⟨⟨i0,i1⟩,i2,i3⟩) (fun hHeld=>?_)
  clear hK K
  try simp only [Act.put,Drawn.La,Drawn.Lb,Drawn.Lc]
  refine wpAnyH_ready (rs:=[11]) (by kernel_rfl) (by simp) ?_
  refine AllReadyH.cons rfl (fun K hK=>?_) AllReadyH.nil
  go_simp
  cases p
  · refine (mustF _).mono ?_
    rintro e w9 ⟨rfl,rfl⟩
    refine And.intro rfl ?_
    exact ansN (by rw [ho.out];rfl) rfl G0.out.M.ex G0.out.K
  refine (mustT _).mono ?_
  rintro e w9 ⟨rfl,rfl⟩
  go_wp2_with fail
  refine hK.out _ _ (by (try dsimp only);exact ⟨⟨i0,i1⟩,i2,i3⟩) (fun hHeld=>?_)
  clear hK K
  try simp only [Act.put,Drawn.La,Drawn.Lb,Drawn.Lc]
  refine wpAnyH_done (by kernel_rfl) ?_ _
  have hb5W : Below W.heap.size W w5:=hb4W.trans (hb5.mono hb4W.size)
  replace b1:=kept hb5W (cell_lt b1) b1
  replace d1:=kept hb5W (cell_lt d1) d1
  replace x0:=kept hb5W (cell_lt x0) x0
  replace x1:=kept hb5W (cell_lt x1) x1
  obtain ⟨W,rfl⟩ : ∃ W : World,W = w5:=⟨_,rfl⟩
  have h2t : (⟨xk,xc⟩ : Ty).kind = 2 → ka + 1 < s.slots.length:=fun e=>by
    simp only at e
    subst e
    have:=hp.out
    simp [Flow.fits] at this
  go_wp2_with fail
  go_still_tail 6,(by kernel_rfl)
  replace G0:=Lib.hid (G0.out.below (w':=W.drew) (by exact Rd.byB))
  have d1' : W.drew.cell? ⟨mb,1,none⟩ = some vs:=by go_simp
  go_wp2_with (go_at_call 91;refine (store (b:=mb) (o:=1) d1' G0.out.M.slots G0.out.M.n1 ka ⟨xk,xc⟩ hxk (by rw [hsl1];exact hka) (by rw [hsl1];exact h2t) (by rw [hsl1];exact hpr) (by rw [hsl1];omega)).mono ?_;rintro e w3 ⟨rfl,T3,K3⟩;have G3:=Lib.hid (G0.out.setSlots K3 T3))
  first | go_end0 | ((try simp only [Exit.inBlock,Exit.then]);refine bodyPost_ret (results_none rfl _ _ _) rfl ?_)
  rw [hsl1] at G3
  exact G3.out.some (by rw [ho.out];first | rw [if_pos rfl] | rw [if_pos trivial])
set_option maxRecDepth 100000 in
set_option maxHeartbeats 4000000 in
theorem ob20 (M : MS E w B0 mb vs vk s) {o : Option State} (ia ib ic in_ : Int) (a : Option Addr) (n cap : Nat) (hbig : s.stack.length ≤ 1000) (oka : Ok ia) (ho : Hid (o = if E.m.ret.kind = 0 then some s else Chk.take E.f.classes E.m.ret s some)) : Calls Try.prog 235 #[.pointer (some ⟨mb,0,none⟩),.agg #[.int .i64 20,.int .i64 ia,.int .i64 ib,.int .i64 ic,.int .i64 in_,.slice a n cap]] w (AnsO E B0 mb vs vk w unit_ o):=by
  have G0:=Lib.hid (Gon.start M)
  have d0:=(M.blk 0 (by simp)).1
  have d1:=(M.blk 1 (by simp)).1
  simp only [List.getElem_cons_zero,List.getElem_cons_succ] at d0 d1
  obtain ⟨bad,hck⟩:=M.ck
  have c1:=(hck 1 (by simp [ccells,meV])).1
  have c2:=(hck 2 (by simp [ccells,meV])).1
  have r4:=(hck 4 (by simp [ccells,meV])).1
  have r5:=(hck 5 (by simp [ccells,meV])).1
  simp [ccells,meV] at c1 c2 r4 r5
  have lmb:=M.mbw
  have lcb:=cell_lt c1
  have hb0:=M.base
  have hlow:=M.low
  have nm : ∀ k,mo mb vs vk k → k < w.heap.size:=fun k hk=>(M.mo_lo hk).2
  have ncb : ¬ mo mb vs vk E.cb:=fun hk=>by have:=(M.mo_lo hk).1;omega
  have nbx : ¬ mo mb vs vk w.heap.size:=fun hk=>by have:=nm _ hk;omega
  have nlow : ∀ k,k < B0 → ¬ mo mb vs vk k:=fun k hk hm=>by have:=(M.mo_lo hm).1;omega
  obtain ⟨⟨rk,rc⟩,hr⟩ : ∃ x,Hid (E.m.ret = x):=⟨_,Lib.hid rfl⟩
  rw [hr.out] at r4 r5 ho
  simp only at r4 r5
  by_cases q : rk = 0
  rotate_left
  · have q0 : (rk != 0) = true:=by simpa using q
    replace ho:=Lib.hid (ho.out.trans (if_neg q))
    clear hck M
    go_enter Try.func235,Try.ntmps235
    go_wp2_with fail
    obtain ⟨W,hW⟩ : ∃ W,W = w.alloc (.cells #[.int .i64 20,.int .i64 ia,.int .i64 ib,.int .i64 ic,.int .i64 in_,.slice a n cap] 63):=⟨_,rfl⟩
    have hbW : Below w.heap.size w W:=by rw [hW];exact Rd.byB
    have hsW : W.heap.size = w.heap.size + 1:=by rw [hW];simp
    have b0 : W.cell? ⟨w.heap.size,0,none⟩ = some (.int .i64 20):=by rw [hW];go_simp
    have b1 : W.cell? ⟨w.heap.size,1,none⟩ = some (.int .i64 ia):=by rw [hW];go_simp
    have b2 : W.cell? ⟨w.heap.size,2,none⟩ = some (.int .i64 ib):=by rw [hW];go_simp
    replace d0:=kept hbW lmb d0
    replace d1:=kept hbW lmb d1
    replace c1:=kept hbW lcb c1
    replace c2:=kept hbW lcb c2
    replace r4:=kept hbW lcb r4
    replace r5:=kept hbW lcb r5
    replace G0:=Lib.hid (G0.out.below hbW)
    rw [← hW]
    clear hW
    go_wp2_with fail
    refine (take G0.out.M ⟨rk,rc⟩ (by omega)).mono ?_
    rintro e w1 A
    have A2:=Lib.hid (G0.out.fin A)
    rcases A.cases with ⟨s1,h1,rfl⟩ | ⟨h1,rfl⟩
    · clear A h1
      go_wp2
      first | go_end0 | ((try simp only [Exit.inBlock,Exit.then]);refine bodyPost_ret (results_none rfl _ _ _) rfl ?_)
      rw [ho.out]
      exact A2.out
    · refine And.intro rfl ?_
      rw [ho.out]
      exact A2.out
  · have q0 : (rk != 0) = false:=by simpa using q
    replace ho:=Lib.hid (ho.out.trans (if_pos q))
    clear hck M
    go_enter Try.func235,Try.ntmps235
    go_wp2_with fail
    obtain ⟨W,hW⟩ : ∃ W,W = w.alloc (.cells #[.int .i64 20,.int .i64 ia,.int .i64 ib,.int .i64 ic,.int .i64 in_,.slice a n cap] 63):=⟨_,rfl⟩
    have hbW : Below w.heap.size w W:=by rw [hW];exact Rd.byB
    have hsW : W.heap.size = w.heap.size + 1:=by rw [hW];simp
    have b0 : W.cell? ⟨w.heap.size,0,none⟩ = some (.int .i64 20):=by rw [hW];go_simp
    have b1 : W.cell? ⟨w.heap.size,1,none⟩ = some (.int .i64 ia):=by rw [hW];go_simp
    have b2 : W.cell? ⟨w.heap.size,2,none⟩ = some (.int .i64 ib):=by rw [hW];go_simp
    replace d0:=kept hbW lmb d0
    replace d1:=kept hbW lmb d1
    replace c1:=kept hbW lcb c1
    replace c2:=kept hbW lcb c2
    replace r4:=kept hbW lcb r4
    replace r5:=kept hbW lcb r5
    replace G0:=Lib.hid (G0.out.below hbW)
    rw [← hW]
    clear hW
    go_wp2
    first | go_end0 | ((try simp only [Exit.inBlock,Exit.then]);refine bodyPost_ret (results_none rfl _ _ _) rfl ?_)
    exact G0.out.some ho.out
end
end Sck
end Go.Proofs.Ytncmhenfgbcihab
