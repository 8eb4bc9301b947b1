/- Parts of the proof: Su. -/
import Derived.Test.YtncmhenfgbcihabG05
namespace Go.Proofs.Ytncmhenfgbcihab
open Go.RowKit
set_option linter.unusedSimpArgs false
set_option linter.unusedVariables false
namespace Sck
open Num Rd D Mem Hpw Flow HierW FormW
section
variable {E : FE} {w w' : World} {vw : Value} {R : Flow.Run} {v : Value} {s : State}
def MO (E : FE) (B0 mb : Nat) (w : World) : Option State → Prop
  | some s'=>∃ vs vk,MS E w B0 mb vs vk s'
  | none=>∃ x y z u,Blk w mb [x,y,z,u]
theorem MO.ex {B0 mb : Nat} {o : Option State} (h : MO E B0 mb w o) : ∃ x y z u,Blk w mb [x,y,z,u]:=by
  cases o with
  | none=>exact h
  | some s'=>obtain ⟨vs,vk,M⟩:=h;exact M.ex
theorem MO.below {B0 mb : Nat} {o : Option State} (h : MO E B0 mb w o) (hb : Below w.heap.size w w') : MO E B0 mb w' o:=by
  cases o with
  | none=>obtain ⟨x,y,z,u,B⟩:=h;exact ⟨x,y,z,u,B.next (X:=fun _=>False) (Kp.of_below hb (Nat.le_refl _)) (fun e=>e)⟩
  | some s'=>obtain ⟨vs,vk,M⟩:=h;exact ⟨vs,vk,M.below hb⟩
def MG (E : FE) (mb : Nat) (X : Nat → Prop) (w : World) (g : State) : Prop:=∃ xa xb,w.cell? ⟨mb,1,none⟩ = some xa ∧ w.cell? ⟨mb,2,none⟩ = some xb ∧ w.cell? ⟨mb,3,none⟩ = some (.bool g.broken) ∧ TS w X xa g.slots ∧ TS w X xb g.stack
def pairs1 (nx : List Nat) (g : State) : List (Nat × State):=nx.map fun k=>(k,g)
theorem leads_snoc {c : List Cls} {R : Flow.Run} {l : List (Nat × State)} {p : Nat × State} : leads c R (l ++ [p]) = Flow.lead c (leads c R l) p.1 p.2:=by unfold leads;rw [List.foldl_append];rfl
theorem leads_app {c : List Cls} {R : Flow.Run} {l m : List (Nat × State)} : leads c R (l ++ m) = leads c (leads c R l) m:=by unfold leads;rw [List.foldl_append]
theorem all_take {l : List Nat} {f : Nat → Bool} {n : Nat} (h : n < l.length) : (l.take (n + 1)).all f = ((l.take n).all f && f (l.getD n 0)):=by
  rw [List.take_succ_eq_append_getElem h,List.all_append,List.getD_eq_getElem?_getD,List.getElem?_eq_getElem h];simp
theorem pg_eq {od og : Option State} {nx : List Nat} {f : Nat → Bool} (h : og = od.bind fun s'=>if nx.all f = true then some s' else none) : (od.isSome && nx.all f) = og.isSome:=by
  subst h
  cases od with
  | none=>rfl
  | some s'=>cases hh : nx.all f <;> simp [hh]
theorem below_setCell2 {B : Nat} {w w' : World} (h : Below B w w') (p : Addr) (u : Value) : Below B (w.setCell p u) (w'.setCell p u) :=
  ⟨h.os,h.tape,h.output,by simpa [World.setCell] using h.size,fun k hk=>by simp [World.setCell,Array.getElem?_modify,h.block k hk]⟩
theorem runOk_bad {n nl ns len : Nat} {R : Flow.Run} {b : Bool} (h : RunOk n nl ns len R) : RunOk n nl ns len ⟨R.states,R.work,b⟩:=⟨h.1,h.2.1,h.2.2⟩
theorem work_le (nl ns : Nat) (R : Flow.Run) : R.work.length ≤ meas nl ns R:=by unfold meas;omega
theorem pairs_take {nx : List Nat} {g : State} {n : Nat} (h : n < nx.length) : pairs1 (nx.take (n + 1)) g = pairs1 (nx.take n) g ++ [(nx.getD n 0,g)]:=by
  unfold pairs1
  rw [List.take_succ_eq_append_getElem h,List.map_append,List.getD_eq_getElem?_getD,List.getElem?_eq_getElem h];rfl
def hls (m : Me) (s : State) (ok : Bool) (a n : Nat) : List (Nat × State):=((m.handlers.take n).filter fun h=>Chk.covers h a).map fun h=>(h.go.toNat,Chk.hstate m s ok h)
theorem hls_yes {m : Me} {s : State} {ok : Bool} {a n : Nat} (h : n < m.handlers.length) (hc : Chk.covers m.handlers[n] a = true) : hls m s ok a (n + 1) = hls m s ok a n ++ [((m.handlers[n]).go.toNat,Chk.hstate m s ok m.handlers[n])]:=by
  unfold hls
  rw [List.take_succ_eq_append_getElem h,List.filter_append,List.map_append]
  simp [hc]
theorem hls_no {m : Me} {s : State} {ok : Bool} {a n : Nat} (h : n < m.handlers.length) (hc : Chk.covers m.handlers[n] a = false) : hls m s ok a (n + 1) = hls m s ok a n:=by
  unfold hls
  rw [List.take_succ_eq_append_getElem h,List.filter_append,List.map_append]
  simp [hc]
theorem hls_all (m : Me) (s : State) (ok : Bool) (a : Nat) : hls m s ok a m.handlers.length = (m.handlers.filter fun h=>Chk.covers h a).map fun h=>(h.go.toNat,Chk.hstate m s ok h):=by
  unfold hls;rw [List.take_of_length_le (Nat.le_refl _)]
theorem hls_sub {m : Me} {s : State} {ok : Bool} {a n : Nat} : ∀ p ∈ hls m s ok a n,p ∈ (m.handlers.filter fun h=>Chk.covers h a).map fun h=>(h.go.toNat,Chk.hstate m s ok h):=by
  intro p hp
  unfold hls at hp
  obtain ⟨h,hh,rfl⟩:=List.mem_map.1 hp
  obtain ⟨h1,h2⟩:=List.mem_filter.1 hh
  exact List.mem_map.2 ⟨h,List.mem_filter.2 ⟨List.take_subset _ _ h1,h2⟩,rfl⟩
set_option maxRecDepth 100000 in
set_option maxHeartbeats 6000000 in
theorem oneA (F : Fw E w vw R) (S : Run.FiS E.f) (hmem : E.m ∈ E.f.methods) (hR : RunOk E.f.classes.length E.m.locals.toNat E.m.stack.toNat E.m.code.length R) (hv : VSt w (zone E vw) v s) (os : StOk E.f.classes.length E.m.locals.toNat E.m.stack.toNat s) (a : Nat) (ha : a < E.m.code.length) (hme : meas E.m.locals.toNat E.m.stack.toNat R ≤ 10000000) (hbr : s.broken = false) :
    Calls Try.prog 95 #[.pointer (some ⟨E.cb,0,none⟩),.int .i64 a,v] w (LeadR E vw w (leads E.f.classes ⟨R.states,R.work,R.bad || !(Chk.one E.f E.m a s).1⟩ (Chk.one E.f E.m a s).2)):=by
  have MM:=S.mes E.m hmem
  have hm:=S.may
  have hcl:=MM.code
  have hlc:=MM.locals
  have hst:=MM.stack
  have hI:=Chk.insAt_mem ha
  have hi:=MM.ins _ hI.1
  have G:=Chk.gd_of os hbr
  have HV:=Lib.hid hv
  have HF:=Lib.hid F
  have HR:=Lib.hid hR
  have OS:=Lib.hid os
  have HME:=Lib.hid hme
  obtain ⟨x,y,rfl,t1,t2⟩:=hv
  obtain ⟨c1,n1,rfl,_⟩:=t1.len
  obtain ⟨c2,n2,rfl,_⟩:=t2.len
  have S1:=Lib.hid t1
  clear t1 t2
  have zl:=zlt F
  have hck:=F.ck
  have k9:=(hck 9 (by simp [ccells,meV])).1
  have k10:=(hck 10 (by simp [ccells,meV])).1
  have k6:=(hck 6 (by simp [ccells,meV])).1
  have k0:=(hck 0 (by simp [ccells,meV])).1
  have k11:=(hck 11 (by simp [ccells,meV])).1
  have z11:=(hck 11 (by simp [ccells,meV])).2
  simp [ccells,meV] at k9 k10 k6 k0 k11
  have lcb:=cell_lt k9
  have lcb1 : E.cb < w.heap.size + 1:=by omega
  have lcb2 : E.cb < w.heap.size + 1 + 1:=by omega
  obtain ⟨da,dcap,evd,q1,q2,hel⟩:=F.code
  obtain ⟨db,dof,rfl,hdb,i0,i1,i2,i3,i4,oki,va,i5,hva⟩:=hel a ha
  obtain ⟨aa,acap,rfl,_⟩:=hva
  have eI : Chk.insAt E.m a = E.m.code[a]:=by unfold Chk.insAt;rw [List.getD_eq_getElem?_getD,List.getElem?_eq_getElem ha];rfl
  rw [← eI] at i0 i1 i2 i3 i4 i5 oki
  rw [evd] at k9
  obtain ⟨ha0,hacap,evh,hq1,hq2,heh⟩:=F.hands
  rw [evh] at k10
  have HEH:=Lib.hid heh
  have hbase:=F.base
  have ldb : db < w.heap.size:=by omega
  have ldb1 : db < w.heap.size + 1:=by omega
  have ha2 : (a : Int) < E.m.code.length:=by omega
  obtain ⟨ins,hins⟩ : ∃ ins,Hid (Chk.insAt E.m a = ins):=⟨_,Lib.hid rfl⟩
  obtain ⟨nx,hnx⟩ : ∃ nx,Hid (Chk.nexts ins a = nx):=⟨_,Lib.hid rfl⟩
  obtain ⟨od,hod⟩ : ∃ od,Hid (Chk.does E.f E.m ins s = od):=⟨_,Lib.hid rfl⟩
  obtain ⟨og,hog⟩ : ∃ og,Hid (Chk.goes E.f E.m a s = og):=⟨_,Lib.hid rfl⟩
  have hgo : Hid (og = od.bind fun s'=>if nx.all (fun k=>decide (k < E.m.code.length)) = true then some s' else none):=by
    show _ = _
    rw [← hog.out,← hod.out,← hnx.out];unfold Chk.goes;rw [if_neg (by rw [hbr];simp),hins.out]
  rw [hins.out] at i0 i1 i2 i3 i4 i5 oki hi
  have hone : Hid (Chk.one E.f E.m a s = (og.isSome,pairs1 nx (og.getD State.bad) ++ (E.m.handlers.filter fun h=>Chk.covers h a).map fun h=>(h.go.toNat,Chk.hstate E.m s og.isSome h))):=by
    show _ = _
    unfold Chk.one;rw [hog.out,hins.out,hnx.out];rfl
  have hno : ∀ p ∈ (Chk.one E.f E.m a s).2,StOk E.f.classes.length E.m.locals.toNat E.m.stack.toNat p.2:=Chk.one_ok S hmem a s os
  rw [hone.out] at hno ⊢
  replace hno:=Lib.hid hno
  simp only
  generalize hres : leads E.f.classes ⟨R.states,R.work,R.bad || !og.isSome⟩ (pairs1 nx (og.getD State.bad) ++ (E.m.handlers.filter fun h=>Chk.covers h a).map fun h=>(h.go.toNat,Chk.hstate E.m s og.isSome h)) = RES
  replace hres:=Lib.hid hres
  obtain ⟨op,ia,ib,ic,in_,iargs⟩:=ins
  simp only at i0 i1 i2 i3 i4 i5 oki
  have hjmp:=hi.jump
  simp only at hjmp
  have hopr:=hi.op
  simp only at hopr
  clear hck hel heh F hR os hme
  replace hbr:=Lib.hid hbr
  go_enter Try.func95,Try.ntmps95
  go_wp2_with fail
  have hw1 : Below w.heap.size w ((w.alloc (.cells #[.slice c1 s.slots.length n1,.slice c2 s.stack.length n2,.bool s.broken] 157)).alloc (.cells #[.int .i64 op,.int .i64 ia,.int .i64 ib,.int .i64 ic,.int .i64 in_,.slice aa iargs.length acap] 63)):=Rd.byB
  have HL:=Lib.hid (stok_len OS.out (by omega) (by omega))
  refine (clone (HV.out.below (X':=fun _=>False) (by exact Rd.byB) (fun _ _ e=>e.elim)) HL.out.1 HL.out.2).mono ?_
  rintro e w2 ⟨vs,vk,rfl,R1,R2,N12,hb2⟩
  obtain ⟨g1,d1,rfl⟩:=R1.any
  obtain ⟨g2,d2,rfl⟩:=R2.any
  replace R1:=Lib.hid R1
  replace R2:=Lib.hid R2
  replace N12:=Lib.hid N12
  go_upto_region 4 with (fail)
  obtain ⟨W3,hW3⟩ : ∃ W3,W3 = w2.alloc (.cells #[.pointer (some ⟨E.cb,0,none⟩),.slice g1 s.slots.length d1,.slice g2 s.stack.length d2,.bool s.broken] 243):=⟨_,rfl⟩
  obtain ⟨mb,hmb⟩ : ∃ mb,mb = w2.heap.size:=⟨_,rfl⟩
  have hs2:=hb2.size
  simp at hs2
  have hal : Below w2.heap.size w2 W3:=by rw [hW3];exact Rd.byB
  have hb2w : Below w.heap.size w w2:=hw1.trans (hb2.mono (by simp <;> omega))
  have hb3w : Below w.heap.size w W3:=hb2w.trans (hal.mono (by omega))
  have hbx : ∀ k (x : Value),((w.alloc (.cells #[.slice c1 s.slots.length n1,.slice c2 s.stack.length n2,.bool s.broken] 157)).alloc (.cells #[.int .i64 op,.int .i64 ia,.int .i64 ib,.int .i64 ic,.int .i64 in_,.slice aa iargs.length acap] 63)).cell? ⟨w.heap.size + 1,k,none⟩ = some x → W3.cell? ⟨w.heap.size + 1,k,none⟩ = some x:=fun k x h=>kept hal (by omega) (kept hb2 (by simp) h)
  have x0:=hbx 0 (.int .i64 op) (by go_simp)
  have x1:=hbx 1 (.int .i64 ia) (by go_simp)
  have x2:=hbx 2 (.int .i64 ib) (by go_simp)
  have x3:=hbx 3 (.int .i64 ic) (by go_simp)
  have x4:=hbx 4 (.int .i64 in_) (by go_simp)
  have x5:=hbx 5 (.slice aa iargs.length acap) (by go_simp)
  have u2 : W3.cell? ⟨w.heap.size,2,none⟩ = some (.bool s.broken):=kept hal (by omega) (kept hb2 (by simp <;> omega) (by go_simp))
  have R1L : ∀ g,(Value.slice g1 s.slots.length d1).ownBlock = some g → w.heap.size + 2 ≤ g ∧ g < mb:=fun g hg=>by have:=R1.out.lt hg;simp at this;omega
  have R2L : ∀ g,(Value.slice g2 s.stack.length d2).ownBlock = some g → w.heap.size + 2 ≤ g ∧ g < mb:=fun g hg=>by have:=R2.out.lt hg;simp at this;omega
  have F3:=HF.out.below hb3w
  have M3 : MS E W3 w.heap.size mb (.slice g1 s.slots.length d1) (.slice g2 s.stack.length d2) s:=by
    refine ⟨?_,(R1.out.below hal).low (by simp <;> omega),(R2.out.below hal).low (by simp <;> omega),by omega,fun e=>by have:=(R1L _ e).2;omega,fun e=>by have:=(R2L _ e).2;omega,N12.out,hbr.out,⟨_,F3.ck⟩,F3.cls.mono mCls (Below.refl _ _) hbase,F3.mes.mono mMe (Below.refl _ _) hbase,lcb,hm⟩
    rw [hmb,hW3,hbr.out]
    exact Blk.made w2 [.pointer (some ⟨E.cb,0,none⟩),.slice g1 s.slots.length d1,.slice g2 s.stack.length d2,.bool false] _
  rw [← hW3,← hmb]
  have nbx : ¬ mo mb (.slice g1 s.slots.length d1) (.slice g2 s.stack.length d2) (w.heap.size + 1):=fun hk=>by
    rcases hk with e | e | e
    · omega
    · have:=(R1L _ e).1;omega
    · have:=(R2L _ e).1;omega
  replace M3:=Lib.hid M3
  replace nbx:=Lib.hid nbx
  have hmbw : w.heap.size + 2 ≤ mb:=by omega
  clear hW3 hbx hal hb2 R1 R2 N12 R1L R2L F3 hb2w hw1 hmb i0 i1 i2 i3 i4 i5
  have hbr':=hbr.out
  go_wp2_with fail
  refine (try_ M3.out S MM hi G oki.2.1 aa iargs.length acap).mono ?_
  rw [hod.out]
  rintro e w4 ⟨rfl,K4,A4⟩
  clear hbr'
  have hb4w : Below w.heap.size w w4:=hb3w.trans (M3.out.kb K4)
  have MO4 : Hid (MO E w.heap.size mb w4 od):=by
    show MO _ _ _ _ _
    cases od with
    | none=>exact A4
    | some s'=>obtain ⟨vk',M',_⟩:=A4;exact ⟨_,_,M'⟩
  replace x0:=K4.cell x0 nbx.out
  replace x1:=K4.cell x1 nbx.out
  replace x2:=K4.cell x2 nbx.out
  replace x3:=K4.cell x3 nbx.out
  replace x4:=K4.cell x4 nbx.out
  replace x5:=K4.cell x5 nbx.out
  clear K4 A4 M3 nbx u2
  obtain ⟨p0,hp0⟩ : ∃ p,Hid (od.isSome = p):=⟨_,Lib.hid rfl⟩
  rw [hp0.out]
  have F4:=HF.out.below hb4w
  have hszw4:=hb4w.size
  have j9:=kept hb4w lcb k9
  have j10:=kept hb4w lcb k10
  have j6:=kept hb4w lcb k6
  have j0:=kept hb4w lcb k0
  have j11:=kept hb4w lcb k11
  have y11:=keptf hb4w lcb z11
  clear k9 k10 k6 k0 k11 z11 F4
  have lw4:=cell_lt x0
  have lcb4:=cell_lt j9
  replace lcb:=Lib.hid lcb
  clear lcb1 lcb2
  go_wp2_with (go_at_call 148;refine (nexts op ia ib ic in_ iargs aa iargs.length acap a (by omega) (fun h=>(hjmp h).1)).mono ?_;rintro e w5 ⟨v1,rfl,N1,hb5⟩;rw [hnx.out] at N1;obtain ⟨na,ncap,rfl,nq1,nq2,hn1⟩:=N1;replace hn1:=Lib.hid hn1)
  have hb5w : Below w.heap.size w w5:=hb4w.trans (hb5.mono hszw4)
  have hszw5:=hb5w.size
  have hs5:=hb5.size
  replace j9:=kept hb5 lcb4 j9
  replace j10:=kept hb5 lcb4 j10
  replace j6:=kept hb5 lcb4 j6
  replace j0:=kept hb5 lcb4 j0
  replace j11:=kept hb5 lcb4 j11
  replace y11:=keptf hb5 lcb4 y11
  replace x0:=kept hb5 lw4 x0
  replace x1:=kept hb5 lw4 x1
  replace x2:=kept hb5 lw4 x2
  replace x3:=kept hb5 lw4 x3
  replace x4:=kept hb5 lw4 x4
  replace x5:=kept hb5 lw4 x5
  replace MO4:=Lib.hid (MO4.out.below hb5)
  go_loopw [9,43] (fun b c wr=>∃ (n : Nat) (p : Bool),c = .int .i64 n ∧ b = .bool p ∧ n ≤ nx.length ∧ wr = w5 ∧ Hid (p = (p0 && (nx.take n).all fun k=>decide (k < E.m.code.length)))) (fun _ c _=>nx.length - (intOf c).toNat)
  case atStart=>exact ⟨0,p0,rfl,rfl,Nat.zero_le _,rfl,Lib.hid (by simp)⟩
  case round =>
    obtain ⟨n,p,rfl,rfl,hn,rfl,hp⟩:=hrel
    by_cases hlt : n < nx.length
    · obtain ⟨nb,rfl,hnb,ce⟩:=hn1.out n hlt
      obtain ⟨k,hk⟩ : ∃ k,Hid (nx.getD n 0 = k):=⟨_,Lib.hid rfl⟩
      rw [hk.out] at ce
      have i9 : (n : Int) < nx.length:=by omega
      cases p
      · go_wp2
        refine ⟨⟨n + 1,false,by simp,by first | rfl | trivial,hlt,by first | rfl | trivial,Lib.hid ?_⟩,by simp only [intOf];omega⟩
        rw [all_take hlt,← Bool.and_assoc,← hp.out];rfl
      · by_cases hkl : k < E.m.code.length
        · have i8 : (k : Int) < E.m.code.length:=by omega
          go_wp2
          refine ⟨⟨n + 1,true,by simp,by first | rfl | trivial,hlt,by first | rfl | trivial,Lib.hid ?_⟩,by simp only [intOf];omega⟩
          rw [all_take hlt,← Bool.and_assoc,← hp.out,hk.out];simp [hkl]
        · have i8 : ¬ (k : Int) < E.m.code.length:=by omega
          go_wp2
          refine ⟨⟨n + 1,false,by simp,by first | rfl | trivial,hlt,by first | rfl | trivial,Lib.hid ?_⟩,by simp only [intOf];omega⟩
          rw [all_take hlt,← Bool.and_assoc,← hp.out,hk.out];simp [hkl]
    · obtain rfl : n = nx.length:=by omega
      have hpg : p = og.isSome:=by rw [hp.out,List.take_of_length_le (Nat.le_refl _),← hp0.out];exact pg_eq hgo.out
      subst hpg
      have hod2 : Hid (∀ g,og = some g → od = some g):=fun g e=>by
        have h:=hgo.out
        rw [e] at h
        cases od with
        | none=>simp at h
        | some s' =>
          simp only [Option.bind_some] at h
          split at h
          · exact h.symm
          · cases h
      clear hp hgo hod hp0 hn1 hlt hn
      obtain ⟨mx,my,mz,mu,mB⟩:=MO4.out.ex
      have m0:=(mB 0 (by simp)).1
      have m1:=(mB 1 (by simp)).1
      have m2:=(mB 2 (by simp)).1
      have m3:=(mB 3 (by simp)).1
      have e1:=(mB 1 (by simp)).2
      have e2:=(mB 2 (by simp)).2
      have e3:=(mB 3 (by simp)).2
      simp only [List.getElem_cons_zero,List.getElem_cons_succ] at m0 m1 m2 m3
      clear mB
      have ncm : ¬ E.cb = mb:=by have:=lcb.out;omega
      have nmc : ¬ mb = E.cb:=by have:=lcb.out;omega
      have nim : ¬ w.heap.size + 1 = mb:=by omega
      have nmi : ¬ mb = w.heap.size + 1:=by omega
      have nic : ¬ w.heap.size + 1 = E.cb:=by have:=lcb.out;omega
      have nci : ¬ E.cb = w.heap.size + 1:=by have:=lcb.out;omega
      cases og with
      | none =>
        simp only [Option.isSome_none,Option.getD_none,Bool.not_false,Bool.or_true] at hres hno hone ⊢
        go_upto_region 13 with (fail)
        obtain ⟨W7,hW7⟩ : ∃ W7,W7 = (((wr.setCell ⟨E.cb,11,none⟩ (.bool true)).setCell ⟨mb,1,none⟩ (.slice none 0 0)).setCell ⟨mb,2,none⟩ (.slice none 0 0)).setCell ⟨mb,3,none⟩ (.bool true):=⟨_,rfl⟩
        have FB:=HF.out.bad true
        have hbz : Below w.heap.size (w.setCell ⟨E.cb,11,none⟩ (.bool true)) W7:=by
          rw [hW7]
          exact (((below_setCell2 hb5w ⟨E.cb,11,none⟩ (.bool true)).setCell (p:=⟨mb,1,none⟩) (by show w.heap.size ≤ mb;omega) _).setCell (p:=⟨mb,2,none⟩) (by show w.heap.size ≤ mb;omega) _).setCell (p:=⟨mb,3,none⟩) (by show w.heap.size ≤ mb;omega) _
        have hbz' : Below (w.setCell ⟨E.cb,11,none⟩ (.bool true)).heap.size (w.setCell ⟨E.cb,11,none⟩ (.bool true)) W7:=by simpa [World.setCell] using hbz
        have F7:=Lib.hid (FB.1.below hbz')
        have K7:=Lib.hid (kpb FB.2 hbz')
        have G7 : Hid (MG E mb (zone E vw) W7 State.bad):=⟨.slice none 0 0,.slice none 0 0,by rw [hW7];go_simp,by rw [hW7];go_simp,by rw [hW7];show _ = some (Value.bool true);go_simp,TS.nil _ _,TS.nil _ _⟩
        replace x0 : W7.cell? ⟨w.heap.size + 1,0,none⟩ = some (.int .i64 op):=by rw [hW7];go_simp
        replace x1 : W7.cell? ⟨w.heap.size + 1,1,none⟩ = some (.int .i64 ia):=by rw [hW7];go_simp
        replace x2 : W7.cell? ⟨w.heap.size + 1,2,none⟩ = some (.int .i64 ib):=by rw [hW7];go_simp
        replace x3 : W7.cell? ⟨w.heap.size + 1,3,none⟩ = some (.int .i64 ic):=by rw [hW7];go_simp
        replace x4 : W7.cell? ⟨w.heap.size + 1,4,none⟩ = some (.int .i64 in_):=by rw [hW7];go_simp
        replace x5 : W7.cell? ⟨w.heap.size + 1,5,none⟩ = some (.slice aa iargs.length acap):=by rw [hW7];go_simp
        have hszw7 : w.heap.size ≤ W7.heap.size:=K7.out.size
        rw [← hW7]
        clear hW7 hbz hbz' FB m0 m1 m2 m3 e1 e2 e3 j9 j10 j6 j0 j11 y11 MO4 hb5 hb5w hb4w hszw5 hs5
        have HP : Hid (R.bad || !false = true):=by show _ = _;simp
        have HR7:=Lib.hid (runOk_bad (b:=true) HR.out)
        have hsg : nx ≠ [] → StOk E.f.classes.length E.m.locals.toNat E.m.stack.toNat State.bad:=fun h=>hno.out (nx.head h,State.bad) (List.mem_append.2 (.inl (List.mem_map.2 ⟨_,List.head_mem h,rfl⟩)))
        replace hsg:=Lib.hid hsg
        have lw7:=cell_lt x0
        obtain ⟨xa,xb,m1,m2,m3,ga,gb⟩:=G7.out
        have ga':=Lib.hid ga
        have gb':=Lib.hid gb
        obtain ⟨o1,o2,rfl,_⟩:=ga.len
        obtain ⟨o3,o4,rfl,_⟩:=gb.len
        have lm7:=cell_lt m1
        clear ga gb G7
        go_wp2_with (go_at_call 148;refine (nexts op ia ib ic in_ iargs aa iargs.length acap a (by omega) (fun h=>(hjmp h).1)).mono ?_;rintro e w8 ⟨v2,rfl,N2,hb8⟩;rw [hnx.out] at N2;obtain ⟨nb,ncap2,rfl,nq3,nq4,hn2⟩:=N2;replace hn2:=Lib.hid hn2)
        have F8:=Lib.hid (F7.out.below hb8)
        have hs8:=hb8.size
        replace m1:=kept hb8 lm7 m1
        replace m2:=kept hb8 lm7 m2
        replace m3:=kept hb8 lm7 m3
        have GA:=Lib.hid (ga'.out.below (X':=zone E vw) hb8 (fun _ _ e=>e))
        have GB:=Lib.hid (gb'.out.below (X':=zone E vw) hb8 (fun _ _ e=>e))
        have K8:=Lib.hid (kpb K7.out hb8)
        have zmb : ¬ zone E vw mb:=fun h=>by have:=zl mb h;omega
        clear ga' gb' F7 K7 x0 x1 x2 x3 x4 x5
        go_loopw [72] (fun c wr=>∃ (n : Nat) (vw1 : Value),c = .int .i64 n ∧ n ≤ nx.length ∧ Hid (Fw E wr vw1 (leads E.f.classes ⟨R.states,R.work,true⟩ (pairs1 (nx.take n) State.bad))) ∧ Hid (Kp (zone E vw) w8 wr) ∧ Hid (∀ k,zone E vw1 k → zone E vw k ∨ w8.heap.size ≤ k)) (fun c _=>nx.length - (intOf c).toNat)
        case atStart=>exact ⟨0,vw,rfl,Nat.zero_le _,F8,Lib.hid (Kp.refl _ _),Lib.hid (fun k h=>.inl h)⟩
        case round =>
          obtain ⟨n,vw1,rfl,hn,FN,KN,ZN⟩:=hrel
          by_cases hlt : n < nx.length
          · obtain ⟨nbb,rfl,hnb,ce⟩:=hn2.out n hlt
            obtain ⟨k,hk⟩ : ∃ k,Hid (nx.getD n 0 = k):=⟨_,Lib.hid rfl⟩
            rw [hk.out] at ce
            have i9 : (n : Int) < nx.length:=by omega
            have znb : ¬ zone E vw nbb:=fun h=>by have:=zl nbb h;omega
            replace ce:=KN.out.cell ce znb
            have r1:=KN.out.cell m1 zmb
            have r2:=KN.out.cell m2 zmb
            have r3:=KN.out.cell m3 zmb
            have r0:=(FN.out.ck 0 (by simp [ccells,meV])).1
            simp [ccells,meV] at r0
            have SG:=hsg.out (fun e=>by rw [e] at hlt;simp at hlt)
            have LO:=leads_ok hm (pairs1 (nx.take n) State.bad) HR7.out (fun p hp=>by obtain ⟨_,_,rfl⟩:=List.mem_map.1 hp;exact SG)
            have hwl : (leads E.f.classes ⟨R.states,R.work,true⟩ (pairs1 (nx.take n) State.bad)).work.length ≤ 100000000:=by
              have h1:=work_le E.m.locals.toNat E.m.stack.toNat (leads E.f.classes ⟨R.states,R.work,true⟩ (pairs1 (nx.take n) State.bad))
              have h2:=LO.2.1
              have h3:=HME.out
              have h4 : meas E.m.locals.toNat E.m.stack.toNat (⟨R.states,R.work,true⟩ : Flow.Run) = meas E.m.locals.toNat E.m.stack.toNat R:=rfl
              omega
            replace LO:=Lib.hid LO.1
            replace hwl:=Lib.hid hwl
            go_wp2_with fail
            go_still_tail 9,(by kernel_rfl)
            go_wp2_with fail
            refine (lead (FN.out.below (w':=wr.drew) (by exact Rd.byB)) hm LO.out (v:=.agg #[.slice o1 State.bad.slots.length o2,.slice o3 State.bad.stack.length o4,.bool State.bad.broken]) (s:=State.bad) ⟨_,_,rfl,GA.out.next (X':=zone E vw1) (KN.out.drew) (fun _ _ e=>e) (fun b hb e=>(ZN.out b e).elim id (fun h=>by omega)),GB.out.next (X':=zone E vw1) (KN.out.drew) (fun _ _ e=>e) (fun b hb e=>(ZN.out b e).elim id (fun h=>by omega))⟩ SG (by omega) (by omega) k hwl.out).mono ?_
            rintro e w9 ⟨rfl,vw2,F9,K9,Z9⟩
            replace F9:=Lib.hid F9
            replace K9:=Lib.hid K9
            replace Z9:=Lib.hid Z9
            go_wp2_with fail
            refine ⟨⟨n + 1,vw2,by simp,hlt,?_,Lib.hid (KN.out.drew.trans K9.out ZN.out),Lib.hid (fun j hj=>(Z9.out j hj).elim (ZN.out j) (fun e=>.inr (Nat.le_trans KN.out.size (by simpa using e))))⟩,by simp only [intOf];omega⟩
            rw [pairs_take hlt,leads_snoc,hk.out]
            exact F9
          · obtain rfl : n = nx.length:=by omega
            obtain ⟨wo,rfl⟩ : ∃ wo : World,wo = wr:=⟨_,rfl⟩
            have LO9:=leads_ok hm (pairs1 (nx.take nx.length) State.bad) HR7.out (fun p hp=>by obtain ⟨x,hx,rfl⟩:=List.mem_map.1 hp;exact hsg.out (fun e=>by rw [e] at hx;simp at hx))
            have hm9 : meas E.m.locals.toNat E.m.stack.toNat (leads E.f.classes ⟨R.states,R.work,true⟩ (pairs1 (nx.take nx.length) State.bad)) ≤ 10000000:=by
              have h2:=LO9.2.1
              have h3:=HME.out
              have h4 : meas E.m.locals.toNat E.m.stack.toNat (⟨R.states,R.work,true⟩ : Flow.Run) = meas E.m.locals.toNat E.m.stack.toNat R:=rfl
              omega
            replace LO9:=Lib.hid LO9.1
            replace hm9:=Lib.hid hm9
            have hfin : Hid (RES = leads E.f.classes (leads E.f.classes ⟨R.states,R.work,true⟩ (pairs1 (nx.take nx.length) State.bad)) (hls E.m s false a E.m.handlers.length)):=by
              show _ = _
              rw [← hres.out,List.take_length,hls_all,leads_app]
            generalize leads E.f.classes ⟨R.states,R.work,true⟩ (pairs1 (nx.take nx.length) State.bad) = R9 at LO9 hm9 hfin FN
            have hno2 : Hid (∀ n,∀ p ∈ hls E.m s false a n,StOk E.f.classes.length E.m.locals.toNat E.m.stack.toNat p.2):=fun n p hp=>hno.out p (List.mem_append.2 (.inr (hls_sub p hp)))
            have Kw:=Lib.hid (K8.out.trans KN.out (fun y h=>.inl h))
            have Zw : Hid (∀ k,zone E vw1 k → zone E vw k ∨ w.heap.size ≤ k):=fun k hk=>(ZN.out k hk).imp id (fun e=>Nat.le_trans (Nat.le_trans hszw7 hs8) e)
            have r10:=(FN.out.ck 10 (by simp [ccells,meV])).1
            simp [ccells,meV] at r10
            rw [evh] at r10
            have lcbo:=cell_lt r10
            clear KN ZN K8 hlt hn hn2 m1 m2 m3 GA GB hsg HR7 hno hres
            go_wp2_with fail
            go_loopw [93] (fun c wr=>∃ (n : Nat) (vw2 : Value),c = .int .i64 n ∧ n ≤ E.m.handlers.length ∧ Hid (Fw E wr vw2 (leads E.f.classes R9 (hls E.m s false a n))) ∧ Hid (Kp (zone E vw) w wr) ∧ Hid (∀ k,zone E vw2 k → zone E vw k ∨ w.heap.size ≤ k)) (fun c _=>E.m.handlers.length - (intOf c).toNat)
            case atStart=>exact ⟨0,vw1,rfl,Nat.zero_le _,FN,Kw,Zw⟩
            case round =>
              obtain ⟨n,vw2,rfl,hn,FM,KM,ZM⟩:=hrel
              by_cases hlt : n < E.m.handlers.length
              · obtain ⟨hx,hxc,evh2,_,_,heh⟩:=FM.out.hands
                rw [evh] at evh2
                simp only [Value.slice.injEq,true_and] at evh2
                obtain ⟨rfl,rfl⟩:=evh2
                obtain ⟨hbk,hof,rfl,hhb,b0,b1,b2,b3,okh⟩:=heh n hlt
                have hdx:=MM.hds.2 _ (List.getElem_mem hlt)
                have hcov:=hls_yes (s:=s) (ok:=false) (a:=a) hlt
                have hunc:=hls_no (s:=s) (ok:=false) (a:=a) hlt
                obtain ⟨⟨lo,hi_,gg,cl⟩,hh⟩ : ∃ x,Hid (E.m.handlers[n] = x):=⟨_,Lib.hid rfl⟩
                rw [hh.out] at b0 b1 b2 b3 okh hdx hcov hunc
                simp only [Form.hd,Bool.and_eq_true,decide_eq_true_eq,Run.rng_iff] at hdx
                simp only at b0 b1 b2 b3 okh
                obtain ⟨kg,rfl⟩ : ∃ kg : Nat,gg = (kg : Int):=⟨gg.toNat,by omega⟩
                simp only [Chk.covers] at hcov hunc
                have hcov':=Lib.hid hcov
                have hunc':=Lib.hid hunc
                clear hcov hunc
                have i9 : (n : Int) < E.m.handlers.length:=by omega
                have lhb:=cell_lt b0
                have r0:=(FM.out.ck 0 (by simp [ccells,meV])).1
                have r6:=(FM.out.ck 6 (by simp [ccells,meV])).1
                simp [ccells,meV] at r0 r6
                have lcbr:=cell_lt r0
                have lcbr1 : E.cb < wr.heap.size + 1:=by omega
                have LO:=leads_ok hm (hls E.m s false a n) LO9.out (hno2.out n)
                have hwl : (leads E.f.classes R9 (hls E.m s false a n)).work.length ≤ 100000000:=by
                  have h1:=work_le E.m.locals.toNat E.m.stack.toNat (leads E.f.classes R9 (hls E.m s false a n))
                  have h2:=LO.2.1
                  have h3:=hm9.out
                  omega
                replace LO:=Lib.hid LO.1
                replace hwl:=Lib.hid hwl
                have nstay : Hid (∀ W,Below wr.heap.size wr W → hls E.m s false a (n + 1) = hls E.m s false a n → ∃ vw3,Hid (Fw E W vw3 (leads E.f.classes R9 (hls E.m s false a (n + 1)))) ∧ Hid (Kp (zone E vw) w W) ∧ Hid (∀ k,zone E vw3 k → zone E vw k ∨ w.heap.size ≤ k)):=fun W hW e=>⟨vw2,by rw [e];exact FM.out.below hW,kpb KM.out hW,ZM⟩
                by_cases d1 : (a : Int) < lo
                · go_wp2
                  obtain ⟨vw3,G1,G2,G3⟩:=nstay.out (wr.alloc (.cells #[.int .i64 lo,.int .i64 hi_,.int .i64 kg,.int .i64 cl] 90)) (by exact Rd.byB) (hunc'.out (by simp;omega))
                  exact ⟨⟨n + 1,vw3,by simp,hlt,G1,G2,G3⟩,by simp only [intOf];omega⟩
                · by_cases d2 : hi_ ≤ (a : Int)
                  · go_wp2
                    obtain ⟨vw3,G1,G2,G3⟩:=nstay.out (wr.alloc (.cells #[.int .i64 lo,.int .i64 hi_,.int .i64 kg,.int .i64 cl] 90)) (by exact Rd.byB) (hunc'.out (by simp;omega))
                    exact ⟨⟨n + 1,vw3,by simp,hlt,G1,G2,G3⟩,by simp only [intOf];omega⟩
                  · have hcv:=Lib.hid (hcov'.out (by simp;omega))
                    clear hcov' hunc' nstay
                    go_upto_region 22 with (fail)
                    obtain ⟨Wh,hWh⟩ : ∃ Wh,Wh = wr.alloc (.cells #[.int .i64 lo,.int .i64 hi_,.int .i64 kg,.int .i64 cl] 90):=⟨_,rfl⟩
                    have hbh : Below wr.heap.size wr Wh:=by rw [hWh];exact Rd.byB
                    have p2 : Wh.cell? ⟨wr.heap.size,2,none⟩ = some (.int .i64 kg):=by rw [hWh];go_simp
                    have p3 : Wh.cell? ⟨wr.heap.size,3,none⟩ = some (.int .i64 cl):=by rw [hWh];go_simp
                    replace r0:=kept hbh lcbr r0
                    replace r6:=kept hbh lcbr r6
                    have FH:=Lib.hid (FM.out.below hbh)
                    have KH:=Lib.hid (kpb KM.out hbh)
                    rw [← hWh]
                    clear hWh b0 b1 b2 b3
                    have hend : Hid (∀ (W : World),(∃ vw3,Fw E W vw3 (Flow.lead E.f.classes (leads E.f.classes R9 (hls E.m s false a n)) kg (Chk.hstate E.m s false ⟨lo,hi_,kg,cl⟩)) ∧ Kp (zone E vw2) Wh W ∧ ∀ k,zone E vw3 k → zone E vw2 k ∨ Wh.heap.size ≤ k) → ∃ vw3,Hid (Fw E W vw3 (leads E.f.classes R9 (hls E.m s false a (n + 1)))) ∧ Hid (Kp (zone E vw) w W) ∧ Hid (∀ k,zone E vw3 k → zone E vw k ∨ w.heap.size ≤ k)):=fun W ⟨vw3,G1,G2,G3⟩ =>
                      ⟨vw3,by rw [hcv.out,leads_snoc];exact G1,KH.out.trans G2 ZM.out,fun k hk=>(G3 k hk).elim (ZM.out k) (fun e=>.inr (Nat.le_trans KH.out.size e))⟩
                    have hst : Chk.hstate E.m s false ⟨lo,hi_,kg,cl⟩ = State.bad:=by unfold Chk.hstate;rw [if_pos (.inl rfl)]
                    go_wp2_with fail
                    go_still_tail 7,(by kernel_rfl)
                    go_wp2_with fail
                    refine (lead (FH.out.below (w':=Wh.drew) (by exact Rd.byB)) hm LO.out (v:=.agg #[.slice none 0 0,.slice none 0 0,.bool true]) (s:=State.bad) (VSt.bad _ _) (bad_ok _ _ _) (by omega) (by omega) kg hwl.out).mono ?_
                    rintro e w9 ⟨rfl,vw3,F9,K9,Z9⟩
                    rw [← hst] at F9
                    obtain ⟨vw4,G1,G2,G3⟩:=hend.out w9 ⟨vw3,F9,(Kp.drew (Kp.refl (zone E vw2) Wh)).trans K9 (fun y h=>.inl h),fun k hk=>(Z9 k hk).imp id (fun e=>by simpa using e)⟩
                    go_wp2_with fail
                    exact ⟨⟨n + 1,vw4,by simp,hlt,G1,G2,G3⟩,by simp only [intOf];omega⟩
              · obtain rfl : n = E.m.handlers.length:=by omega
                go_wp2
                first | go_end0 | ((try simp only [Exit.inBlock,Exit.then]);refine bodyPost_ret (results_none rfl _ _ _) rfl ?_)
                rw [hfin.out]
                exact ⟨rfl,vw2,FM.out,KM.out,ZM.out⟩
      | some g =>
        simp only [Option.isSome_some,Option.getD_some,Bool.not_true,Bool.or_false] at hres hno hone ⊢
        have hoq:=hod2.out g rfl
        subst hoq
        obtain ⟨_,_,M9⟩:=MO4.out
        have nzz : ∀ b,w.heap.size ≤ b → ¬ zone E vw b:=fun b h1 h2=>by have:=zl b h2;omega
        have G7 : Hid (MG E mb (zone E vw) wr g):=⟨_,_,(M9.blk 1 (by simp)).1,(M9.blk 2 (by simp)).1,by rw [M9.live];exact (M9.blk 3 (by simp)).1,M9.slots.ts (fun b hb=>nzz b (M9.slots.lt hb).1),M9.stack.ts (fun b hb=>nzz b (M9.stack.lt hb).1)⟩
        have F7:=Lib.hid (HF.out.below hb5w)
        have K7 : Hid (Kp (zone E vw) w wr):=Kp.of_below hb5w (Nat.le_refl _)
        have hszw7 : w.heap.size ≤ wr.heap.size:=K7.out.size
        clear M9 m0 m1 m2 m3 e1 e2 e3 j9 j10 j6 j0 j11 y11 MO4 hb5 hb5w hb4w hszw5 hs5
        go_upto_region 13 with (fail)
        obtain ⟨W7,rfl⟩ : ∃ W7 : World,W7 = wr:=⟨_,rfl⟩
        have HR7:=Lib.hid (runOk_bad (b:=R.bad) HR.out)
        have hsg : nx ≠ [] → StOk E.f.classes.length E.m.locals.toNat E.m.stack.toNat g:=fun h=>hno.out (nx.head h,g) (List.mem_append.2 (.inl (List.mem_map.2 ⟨_,List.head_mem h,rfl⟩)))
        replace hsg:=Lib.hid hsg
        have lw7:=cell_lt x0
        obtain ⟨xa,xb,m1,m2,m3,ga,gb⟩:=G7.out
        have ga':=Lib.hid ga
        have gb':=Lib.hid gb
        obtain ⟨o1,o2,rfl,_⟩:=ga.len
        obtain ⟨o3,o4,rfl,_⟩:=gb.len
        have lm7:=cell_lt m1
        clear ga gb G7
        go_wp2_with (go_at_call 148;refine (nexts op ia ib ic in_ iargs aa iargs.length acap a (by omega) (fun h=>(hjmp h).1)).mono ?_;rintro e w8 ⟨v2,rfl,N2,hb8⟩;rw [hnx.out] at N2;obtain ⟨nb,ncap2,rfl,nq3,nq4,hn2⟩:=N2;replace hn2:=Lib.hid hn2)
        have F8:=Lib.hid (F7.out.below hb8)
        have hs8:=hb8.size
        replace m1:=kept hb8 lm7 m1
        replace m2:=kept hb8 lm7 m2
        replace m3:=kept hb8 lm7 m3
        have GA:=Lib.hid (ga'.out.below (X':=zone E vw) hb8 (fun _ _ e=>e))
        have GB:=Lib.hid (gb'.out.below (X':=zone E vw) hb8 (fun _ _ e=>e))
        have K8:=Lib.hid (kpb K7.out hb8)
        have zmb : ¬ zone E vw mb:=fun h=>by have:=zl mb h;omega
        clear ga' gb' F7 K7 x0 x1 x2 x3 x4 x5
        go_loopw [72] (fun c wr=>∃ (n : Nat) (vw1 : Value),c = .int .i64 n ∧ n ≤ nx.length ∧ Hid (Fw E wr vw1 (leads E.f.classes ⟨R.states,R.work,R.bad⟩ (pairs1 (nx.take n) g))) ∧ Hid (Kp (zone E vw) w8 wr) ∧ Hid (∀ k,zone E vw1 k → zone E vw k ∨ w8.heap.size ≤ k)) (fun c _=>nx.length - (intOf c).toNat)
        case atStart=>exact ⟨0,vw,rfl,Nat.zero_le _,F8,Lib.hid (Kp.refl _ _),Lib.hid (fun k h=>.inl h)⟩
        case round =>
          obtain ⟨n,vw1,rfl,hn,FN,KN,ZN⟩:=hrel
          by_cases hlt : n < nx.length
          · obtain ⟨nbb,rfl,hnb,ce⟩:=hn2.out n hlt
            obtain ⟨k,hk⟩ : ∃ k,Hid (nx.getD n 0 = k):=⟨_,Lib.hid rfl⟩
            rw [hk.out] at ce
            have i9 : (n : Int) < nx.length:=by omega
            have znb : ¬ zone E vw nbb:=fun h=>by have:=zl nbb h;omega
            replace ce:=KN.out.cell ce znb
            have r1:=KN.out.cell m1 zmb
            have r2:=KN.out.cell m2 zmb
            have r3:=KN.out.cell m3 zmb
            have r0:=(FN.out.ck 0 (by simp [ccells,meV])).1
            simp [ccells,meV] at r0
            have SG:=hsg.out (fun e=>by rw [e] at hlt;simp at hlt)
            have LO:=leads_ok hm (pairs1 (nx.take n) g) HR7.out (fun p hp=>by obtain ⟨_,_,rfl⟩:=List.mem_map.1 hp;exact SG)
            have hwl : (leads E.f.classes ⟨R.states,R.work,R.bad⟩ (pairs1 (nx.take n) g)).work.length ≤ 100000000:=by
              have h1:=work_le E.m.locals.toNat E.m.stack.toNat (leads E.f.classes ⟨R.states,R.work,R.bad⟩ (pairs1 (nx.take n) g))
              have h2:=LO.2.1
              have h3:=HME.out
              have h4 : meas E.m.locals.toNat E.m.stack.toNat (⟨R.states,R.work,R.bad⟩ : Flow.Run) = meas E.m.locals.toNat E.m.stack.toNat R:=rfl
              omega
            replace LO:=Lib.hid LO.1
            replace hwl:=Lib.hid hwl
            go_wp2_with fail
            go_still_tail 9,(by kernel_rfl)
            go_wp2_with fail
            refine (lead (FN.out.below (w':=wr.drew) (by exact Rd.byB)) hm LO.out (v:=.agg #[.slice o1 g.slots.length o2,.slice o3 g.stack.length o4,.bool g.broken]) (s:=g) ⟨_,_,rfl,GA.out.next (X':=zone E vw1) (KN.out.drew) (fun _ _ e=>e) (fun b hb e=>(ZN.out b e).elim id (fun h=>by omega)),GB.out.next (X':=zone E vw1) (KN.out.drew) (fun _ _ e=>e) (fun b hb e=>(ZN.out b e).elim id (fun h=>by omega))⟩ SG (by omega) (by omega) k hwl.out).mono ?_
            rintro e w9 ⟨rfl,vw2,F9,K9,Z9⟩
            replace F9:=Lib.hid F9
            replace K9:=Lib.hid K9
            replace Z9:=Lib.hid Z9
            go_wp2_with fail
            refine ⟨⟨n + 1,vw2,by simp,hlt,?_,Lib.hid (KN.out.drew.trans K9.out ZN.out),Lib.hid (fun j hj=>(Z9.out j hj).elim (ZN.out j) (fun e=>.inr (Nat.le_trans KN.out.size (by simpa using e))))⟩,by simp only [intOf];omega⟩
            rw [pairs_take hlt,leads_snoc,hk.out]
            exact F9
          · obtain rfl : n = nx.length:=by omega
            obtain ⟨wo,rfl⟩ : ∃ wo : World,wo = wr:=⟨_,rfl⟩
            have LO9:=leads_ok hm (pairs1 (nx.take nx.length) g) HR7.out (fun p hp=>by obtain ⟨x,hx,rfl⟩:=List.mem_map.1 hp;exact hsg.out (fun e=>by rw [e] at hx;simp at hx))
            have hm9 : meas E.m.locals.toNat E.m.stack.toNat (leads E.f.classes ⟨R.states,R.work,R.bad⟩ (pairs1 (nx.take nx.length) g)) ≤ 10000000:=by
              have h2:=LO9.2.1
              have h3:=HME.out
              have h4 : meas E.m.locals.toNat E.m.stack.toNat (⟨R.states,R.work,R.bad⟩ : Flow.Run) = meas E.m.locals.toNat E.m.stack.toNat R:=rfl
              omega
            replace LO9:=Lib.hid LO9.1
            replace hm9:=Lib.hid hm9
            have hfin : Hid (RES = leads E.f.classes (leads E.f.classes ⟨R.states,R.work,R.bad⟩ (pairs1 (nx.take nx.length) g)) (hls E.m s true a E.m.handlers.length)):=by
              show _ = _
              rw [← hres.out,List.take_length,hls_all,leads_app]
            generalize leads E.f.classes ⟨R.states,R.work,R.bad⟩ (pairs1 (nx.take nx.length) g) = R9 at LO9 hm9 hfin FN
            have hno2 : Hid (∀ n,∀ p ∈ hls E.m s true a n,StOk E.f.classes.length E.m.locals.toNat E.m.stack.toNat p.2):=fun n p hp=>hno.out p (List.mem_append.2 (.inr (hls_sub p hp)))
            have Kw:=Lib.hid (K8.out.trans KN.out (fun y h=>.inl h))
            have Zw : Hid (∀ k,zone E vw1 k → zone E vw k ∨ w.heap.size ≤ k):=fun k hk=>(ZN.out k hk).imp id (fun e=>Nat.le_trans (Nat.le_trans hszw7 hs8) e)
            have r10:=(FN.out.ck 10 (by simp [ccells,meV])).1
            simp [ccells,meV] at r10
            rw [evh] at r10
            have lcbo:=cell_lt r10
            clear KN ZN K8 hlt hn hn2 m1 m2 m3 GA GB hsg HR7 hno hres
            go_wp2_with fail
            go_loopw [93] (fun c wr=>∃ (n : Nat) (vw2 : Value),c = .int .i64 n ∧ n ≤ E.m.handlers.length ∧ Hid (Fw E wr vw2 (leads E.f.classes R9 (hls E.m s true a n))) ∧ Hid (Kp (zone E vw) w wr) ∧ Hid (∀ k,zone E vw2 k → zone E vw k ∨ w.heap.size ≤ k)) (fun c _=>E.m.handlers.length - (intOf c).toNat)
            case atStart=>exact ⟨0,vw1,rfl,Nat.zero_le _,FN,Kw,Zw⟩
            case round =>
              obtain ⟨n,vw2,rfl,hn,FM,KM,ZM⟩:=hrel
              by_cases hlt : n < E.m.handlers.length
              · obtain ⟨hx,hxc,evh2,_,_,heh⟩:=FM.out.hands
                rw [evh] at evh2
                simp only [Value.slice.injEq,true_and] at evh2
                obtain ⟨rfl,rfl⟩:=evh2
                obtain ⟨hbk,hof,rfl,hhb,b0,b1,b2,b3,okh⟩:=heh n hlt
                have hdx:=MM.hds.2 _ (List.getElem_mem hlt)
                have hcov:=hls_yes (s:=s) (ok:=true) (a:=a) hlt
                have hunc:=hls_no (s:=s) (ok:=true) (a:=a) hlt
                obtain ⟨⟨lo,hi_,gg,cl⟩,hh⟩ : ∃ x,Hid (E.m.handlers[n] = x):=⟨_,Lib.hid rfl⟩
                rw [hh.out] at b0 b1 b2 b3 okh hdx hcov hunc
                simp only [Form.hd,Bool.and_eq_true,decide_eq_true_eq,Run.rng_iff] at hdx
                simp only at b0 b1 b2 b3 okh
                obtain ⟨kg,rfl⟩ : ∃ kg : Nat,gg = (kg : Int):=⟨gg.toNat,by omega⟩
                simp only [Chk.covers] at hcov hunc
                have hcov':=Lib.hid hcov
                have hunc':=Lib.hid hunc
                clear hcov hunc
                have i9 : (n : Int) < E.m.handlers.length:=by omega
                have lhb:=cell_lt b0
                have r0:=(FM.out.ck 0 (by simp [ccells,meV])).1
                have r6:=(FM.out.ck 6 (by simp [ccells,meV])).1
                simp [ccells,meV] at r0 r6
                have lcbr:=cell_lt r0
                have lcbr1 : E.cb < wr.heap.size + 1:=by omega
                have LO:=leads_ok hm (hls E.m s true a n) LO9.out (hno2.out n)
                have hwl : (leads E.f.classes R9 (hls E.m s true a n)).work.length ≤ 100000000:=by
                  have h1:=work_le E.m.locals.toNat E.m.stack.toNat (leads E.f.classes R9 (hls E.m s true a n))
                  have h2:=LO.2.1
                  have h3:=hm9.out
                  omega
                replace LO:=Lib.hid LO.1
                replace hwl:=Lib.hid hwl
                have nstay : Hid (∀ W,Below wr.heap.size wr W → hls E.m s true a (n + 1) = hls E.m s true a n → ∃ vw3,Hid (Fw E W vw3 (leads E.f.classes R9 (hls E.m s true a (n + 1)))) ∧ Hid (Kp (zone E vw) w W) ∧ Hid (∀ k,zone E vw3 k → zone E vw k ∨ w.heap.size ≤ k)):=fun W hW e=>⟨vw2,by rw [e];exact FM.out.below hW,kpb KM.out hW,ZM⟩
                by_cases d1 : (a : Int) < lo
                · go_wp2
                  obtain ⟨vw3,G1,G2,G3⟩:=nstay.out (wr.alloc (.cells #[.int .i64 lo,.int .i64 hi_,.int .i64 kg,.int .i64 cl] 90)) (by exact Rd.byB) (hunc'.out (by simp;omega))
                  exact ⟨⟨n + 1,vw3,by simp,hlt,G1,G2,G3⟩,by simp only [intOf];omega⟩
                · by_cases d2 : hi_ ≤ (a : Int)
                  · go_wp2
                    obtain ⟨vw3,G1,G2,G3⟩:=nstay.out (wr.alloc (.cells #[.int .i64 lo,.int .i64 hi_,.int .i64 kg,.int .i64 cl] 90)) (by exact Rd.byB) (hunc'.out (by simp;omega))
                    exact ⟨⟨n + 1,vw3,by simp,hlt,G1,G2,G3⟩,by simp only [intOf];omega⟩
                  · have hcv:=Lib.hid (hcov'.out (by simp;omega))
                    clear hcov' hunc' nstay
                    go_upto_region 22 with (fail)
                    obtain ⟨Wh,hWh⟩ : ∃ Wh,Wh = wr.alloc (.cells #[.int .i64 lo,.int .i64 hi_,.int .i64 kg,.int .i64 cl] 90):=⟨_,rfl⟩
                    have hbh : Below wr.heap.size wr Wh:=by rw [hWh];exact Rd.byB
                    have p2 : Wh.cell? ⟨wr.heap.size,2,none⟩ = some (.int .i64 kg):=by rw [hWh];go_simp
                    have p3 : Wh.cell? ⟨wr.heap.size,3,none⟩ = some (.int .i64 cl):=by rw [hWh];go_simp
                    replace r0:=kept hbh lcbr r0
                    replace r6:=kept hbh lcbr r6
                    have FH:=Lib.hid (FM.out.below hbh)
                    have KH:=Lib.hid (kpb KM.out hbh)
                    rw [← hWh]
                    clear hWh b0 b1 b2 b3
                    have hend : Hid (∀ (W : World),(∃ vw3,Fw E W vw3 (Flow.lead E.f.classes (leads E.f.classes R9 (hls E.m s true a n)) kg (Chk.hstate E.m s true ⟨lo,hi_,kg,cl⟩)) ∧ Kp (zone E vw2) Wh W ∧ ∀ k,zone E vw3 k → zone E vw2 k ∨ Wh.heap.size ≤ k) → ∃ vw3,Hid (Fw E W vw3 (leads E.f.classes R9 (hls E.m s true a (n + 1)))) ∧ Hid (Kp (zone E vw) w W) ∧ Hid (∀ k,zone E vw3 k → zone E vw k ∨ w.heap.size ≤ k)):=fun W ⟨vw3,G1,G2,G3⟩ =>
                      ⟨vw3,by rw [hcv.out,leads_snoc];exact G1,KH.out.trans G2 ZM.out,fun k hk=>(G3 k hk).elim (ZM.out k) (fun e=>.inr (Nat.le_trans KH.out.size e))⟩
                    by_cases hs0 : E.m.stack = 0
                    · have q0 : (E.m.stack == 0) = true:=by simpa using hs0
                      have hst : Chk.hstate E.m s true ⟨lo,hi_,kg,cl⟩ = State.bad:=by unfold Chk.hstate;rw [if_pos (.inr hs0)]
                      go_wp2_with fail
                      go_still_tail 7,(by kernel_rfl)
                      go_wp2_with fail
                      refine (lead (FH.out.below (w':=Wh.drew) (by exact Rd.byB)) hm LO.out (v:=.agg #[.slice none 0 0,.slice none 0 0,.bool true]) (s:=State.bad) (VSt.bad _ _) (bad_ok _ _ _) (by omega) (by omega) kg hwl.out).mono ?_
                      rintro e w9 ⟨rfl,vw3,F9,K9,Z9⟩
                      rw [← hst] at F9
                      obtain ⟨vw4,G1,G2,G3⟩:=hend.out w9 ⟨vw3,F9,(Kp.drew (Kp.refl (zone E vw2) Wh)).trans K9 (fun y h=>.inl h),fun k hk=>(Z9 k hk).imp id (fun e=>by simpa using e)⟩
                      go_wp2_with fail
                      exact ⟨⟨n + 1,vw4,by simp,hlt,G1,G2,G3⟩,by simp only [intOf];omega⟩
                    · have q0 : (E.m.stack == 0) = false:=by simpa using hs0
                      have hst : Chk.hstate E.m s true ⟨lo,hi_,kg,cl⟩ = ⟨s.slots,[⟨3,cl⟩],false⟩:=by unfold Chk.hstate;rw [if_neg (by simp [hs0])]
                      have SH : StOk E.f.classes.length E.m.locals.toNat E.m.stack.toNat ⟨s.slots,[⟨3,cl⟩],false⟩:=by
                        rw [← hst]
                        exact hno2.out (n + 1) (kg,Chk.hstate E.m s true ⟨lo,hi_,kg,cl⟩) (by rw [hcv.out];simp)
                      have SHH:=Lib.hid SH
                      clear SH
                      have lh2:=cell_lt p2
                      go_wp2_with fail
                      refine wp_region_held_drew (S:=fun w'=>w'.cell? ⟨E.cb,0,none⟩ = some (.pointer (some ⟨E.fb,0,none⟩)) ∧ w'.cell? ⟨wr.heap.size,2,none⟩ = some (.int .i64 kg) ∧ w'.cell? ⟨wr.heap.size,3,none⟩ = some (.int .i64 cl)) (by kernel_rfl) (by (try dsimp only);exact ⟨r0,p2,p3⟩) (fun hHeld=>?_)
                      refine Drawn.tk 0 (some 125) rfl rfl (by assumption) ?_
                      try simp only [Act.put,Drawn.La,Drawn.Lb,Drawn.Lc]
                      refine Drawn.tk 1 (some 126) rfl rfl (by assumption) ?_
                      try simp only [Act.put,Drawn.La,Drawn.Lb,Drawn.Lc]
                      refine Drawn.tk 2 (some 127) rfl rfl (by assumption) ?_
                      try simp only [Act.put,Drawn.La,Drawn.Lb,Drawn.Lc]
                      refine Drawn.tk 3 (some 128) rfl rfl (by assumption) ?_
                      try simp only [Act.put,Drawn.La,Drawn.Lb,Drawn.Lc]
                      refine Drawn.tk 4 (some 129) rfl rfl (by assumption) ?_
                      try simp only [Act.put,Drawn.La,Drawn.Lb,Drawn.Lc]
                      refine Drawn.tk 5 (some 130) rfl rfl (by assumption) ?_
                      try simp only [Act.put,Drawn.La,Drawn.Lb,Drawn.Lc]
                      refine Drawn.tk 6 (some 131) rfl rfl (by assumption) ?_
                      try simp only [Act.put,Drawn.La,Drawn.Lb,Drawn.Lc]
                      refine Drawn.tk 7 (some 132) rfl rfl (by assumption) ?_
                      try simp only [Act.put,Drawn.La,Drawn.Lb,Drawn.Lc]
                      refine Drawn.tk 8 (some 133) rfl rfl (by assumption) ?_
                      try simp only [Act.put,Drawn.La,Drawn.Lb,Drawn.Lc]
                      refine wpAnyH_ready (rs:=[9]) (by kernel_rfl) (by simp) ?_
                      refine AllReadyH.cons rfl (fun K hK=>?_) AllReadyH.nil
                      go_simp
                      go_at_call 149
                      refine (ref _ _).mono ?_
                      rintro e w10 ⟨rfl,hb10⟩
                      have hb10h : Below Wh.heap.size Wh w10:=Below.trans (by exact Rd.byB) (hb10.mono Rd.byL)
                      have g0:=kept hb10h (cell_lt r0) r0
                      have g2:=kept hb10h (cell_lt p2) p2
                      have g3:=kept hb10h (cell_lt p3) p3
                      have lg0:=cell_lt g0
                      have lg2:=cell_lt g2
                      go_wp2_with fail
                      refine hK.out _ _ (by (try dsimp only);exact ⟨g0,g2,g3⟩) (fun hHeld=>?_)
                      clear hK K
                      try simp only [Act.put,Drawn.La,Drawn.Lb,Drawn.Lc]
                      refine wpAnyH_ready (rs:=[10]) (by kernel_rfl) (by simp) ?_
                      refine AllReadyH.cons rfl (fun K hK=>?_) AllReadyH.nil
                      go_simp
                      refine hK.out _ _ (by (try dsimp only);refine ⟨?_,?_,?_⟩ <;> go_simp) (fun hHeld=>?_)
                      clear hK K
                      try simp only [Act.put,Drawn.La,Drawn.Lb,Drawn.Lc]
                      refine Drawn.tk 11 (some 136) rfl rfl (by assumption) ?_
                      try simp only [Act.put,Drawn.La,Drawn.Lb,Drawn.Lc]
                      refine wpAnyH_ready (rs:=[12]) (by kernel_rfl) (by simp) ?_
                      refine AllReadyH.cons rfl (fun K hK=>?_) AllReadyH.nil
                      go_simp
                      obtain ⟨Wz,hWz⟩ : ∃ Wz,Wz = w10.alloc (.cells #[.int .i64 3,.int .i64 cl] 51):=⟨_,rfl⟩
                      have hz10 : Below w10.heap.size w10 Wz:=by rw [hWz];exact Rd.byB
                      have hbzz : Below Wh.heap.size Wh Wz:=hb10h.trans (hz10.mono hb10h.size)
                      have y0 : Wz.cell? ⟨w10.heap.size,0,none⟩ = some (.int .i64 3):=by rw [hWz];go_simp
                      have y1 : Wz.cell? ⟨w10.heap.size,1,none⟩ = some (.int .i64 cl):=by rw [hWz];go_simp
                      have g0':=kept hbzz (cell_lt r0) r0
                      have g2':=kept hbzz (cell_lt p2) p2
                      have g3':=kept hbzz (cell_lt p3) p3
                      rw [← hWz]
                      clear hWz
                      have FZ:=Lib.hid (FH.out.below hbzz)
                      have KZ:=kpb KH.out hbzz
                      have zfh : ∀ k,zone E vw2 k → k < wr.heap.size:=fun k hk=>(zone_lo FM.out hk).2
                      have hTS1 : TS Wz (zone E vw2) (.slice c1 s.slots.length n1) s.slots:=S1.out.next (X':=zone E vw2) KZ (fun _ _ e=>e) (fun b hb e=>(ZM.out b e).elim id (fun h=>by omega))
                      have hTS2 : TS Wz (zone E vw2) (.slice (some ⟨w10.heap.size,0,none⟩) 1 1) [⟨3,cl⟩]:=by
                        refine ⟨⟨_,1,rfl,Nat.le_refl _,by omega,fun i hi2=>?_⟩,fun t ht=>?_⟩
                        · simp at hi2
                          subst hi2
                          exact ⟨_,_,rfl,fun h=>by have:=zfh _ h;have:=hb10h.size;have:=hbh.size;omega,y0,y1⟩
                        · simp at ht
                          subst ht
                          exact tok 3 cl (by unfold Ok;omega) okh.2.2.2
                      refine (lead (FZ.out) hm LO.out (v:=.agg #[.slice c1 s.slots.length n1,.slice (some ⟨w10.heap.size,0,none⟩) 1 1,.bool false]) (s:=⟨s.slots,[⟨3,cl⟩],false⟩) ⟨_,_,rfl,hTS1,hTS2⟩ SHH.out (by omega) (by omega) kg hwl.out).mono ?_
                      rintro e w9 ⟨rfl,vw3,F9,K9,Z9⟩
                      rw [← hst] at F9
                      have nzh : ¬ zone E vw2 wr.heap.size:=fun h=>by have:=zfh _ h;omega
                      have h0:=(F9.ck 0 (by simp [ccells,meV])).1
                      simp [ccells,meV] at h0
                      have h2:=K9.cell g2' nzh
                      have h3:=K9.cell g3' nzh
                      obtain ⟨vw4,G1,G2,G3⟩:=hend.out w9 ⟨vw3,F9,(Kp.of_below hbzz (Nat.le_refl _)).trans K9 (fun y h=>.inl h),fun k hk=>(Z9 k hk).imp id (fun e=>Nat.le_trans hbzz.size e)⟩
                      go_wp2_with fail
                      refine hK.out _ _ (by (try dsimp only);exact ⟨h0,h2,h3⟩) (fun hHeld=>?_)
                      clear hK K
                      try simp only [Act.put,Drawn.La,Drawn.Lb,Drawn.Lc]
                      refine wpAnyH_done (by kernel_rfl) ?_ _
                      go_wp2
                      exact ⟨⟨n + 1,vw4,by simp,hlt,G1,G2,G3⟩,by simp only [intOf];omega⟩
              · obtain rfl : n = E.m.handlers.length:=by omega
                go_wp2
                first | go_end0 | ((try simp only [Exit.inBlock,Exit.then]);refine bodyPost_ret (results_none rfl _ _ _) rfl ?_)
                rw [hfin.out]
                exact ⟨rfl,vw2,FM.out,KM.out,ZM.out⟩
end
end Sck
end Go.Proofs.Ytncmhenfgbcihab
