/- Parts of the proof: Sv, Sw, Sx, FormF, FormH, FormM, FormY, Sy. -/
import Derived.Test.YtncmhenfgbcihabG06
import Derived.Deep.LoopGhost
import Derived.BigQuiet
import Derived.Laws.MakeOwn
import Derived.Test.YtncmhenfgbcihabG03
namespace Go.Proofs.Ytncmhenfgbcihab
open Go.RowKit
set_option linter.unusedSimpArgs false
set_option linter.unusedVariables false
namespace Sck
open Num Rd D Mem Hpw Flow HierW FormW
section
variable {E : FE} {w w' : World} {vw : Value} {R : Flow.Run} {v : Value} {s : State}
set_option maxRecDepth 100000 in
set_option maxHeartbeats 6000000 in
theorem oneB (F : Fw E w vw R) (S : Run.FiS E.f) (hmem : E.m ∈ E.f.methods) (hR : RunOk E.f.classes.length E.m.locals.toNat E.m.stack.toNat E.m.code.length R) (hv : VSt w (zone E vw) v s) (os : StOk E.f.classes.length E.m.locals.toNat E.m.stack.toNat s) (a : Nat) (ha : a < E.m.code.length) (hme : meas E.m.locals.toNat E.m.stack.toNat R ≤ 10000000) (hbr : s.broken = true) :
    Calls Try.prog 95 #[.pointer (some ⟨E.cb,0,none⟩),.int .i64 a,v] w (LeadR E vw w (leads E.f.classes ⟨R.states,R.work,R.bad || !(Chk.one E.f E.m a s).1⟩ (Chk.one E.f E.m a s).2)):=by
  have MM:=S.mes E.m hmem
  have hm:=S.may
  have hcl:=MM.code
  have hlc:=MM.locals
  have hst:=MM.stack
  have hI:=Chk.insAt_mem ha
  have hi:=MM.ins _ hI.1
  have HV:=Lib.hid hv
  have HF:=Lib.hid F
  have HR:=Lib.hid hR
  have OS:=Lib.hid os
  have HME:=Lib.hid hme
  obtain ⟨x,y,rfl,t1,t2⟩:=hv
  obtain ⟨c1,n1,rfl,_⟩:=t1.len
  obtain ⟨c2,n2,rfl,_⟩:=t2.len
  have S1:=Lib.hid t1
  clear t1 t2
  have zl:=zlt F
  have hck:=F.ck
  have k9:=(hck 9 (by simp [ccells,meV])).1
  have k10:=(hck 10 (by simp [ccells,meV])).1
  have k6:=(hck 6 (by simp [ccells,meV])).1
  have k0:=(hck 0 (by simp [ccells,meV])).1
  have k11:=(hck 11 (by simp [ccells,meV])).1
  have z11:=(hck 11 (by simp [ccells,meV])).2
  simp [ccells,meV] at k9 k10 k6 k0 k11
  have lcb:=cell_lt k9
  have lcb1 : E.cb < w.heap.size + 1:=by omega
  have lcb2 : E.cb < w.heap.size + 1 + 1:=by omega
  obtain ⟨da,dcap,evd,q1,q2,hel⟩:=F.code
  obtain ⟨db,dof,rfl,hdb,i0,i1,i2,i3,i4,oki,va,i5,hva⟩:=hel a ha
  obtain ⟨aa,acap,rfl,_⟩:=hva
  have eI : Chk.insAt E.m a = E.m.code[a]:=by unfold Chk.insAt;rw [List.getD_eq_getElem?_getD,List.getElem?_eq_getElem ha];rfl
  rw [← eI] at i0 i1 i2 i3 i4 i5 oki
  rw [evd] at k9
  obtain ⟨ha0,hacap,evh,hq1,hq2,heh⟩:=F.hands
  rw [evh] at k10
  have HEH:=Lib.hid heh
  have hbase:=F.base
  have ldb : db < w.heap.size:=by omega
  have ldb1 : db < w.heap.size + 1:=by omega
  have ha2 : (a : Int) < E.m.code.length:=by omega
  obtain ⟨ins,hins⟩ : ∃ ins,Hid (Chk.insAt E.m a = ins):=⟨_,Lib.hid rfl⟩
  obtain ⟨nx,hnx⟩ : ∃ nx,Hid (Chk.nexts ins a = nx):=⟨_,Lib.hid rfl⟩
  obtain ⟨og,hog⟩ : ∃ og,Hid (Chk.goes E.f E.m a s = og):=⟨_,Lib.hid rfl⟩
  obtain ⟨od,hod0⟩ : ∃ od : Option State,Hid (od = none):=⟨_,Lib.hid rfl⟩
  have hgo : Hid (og = od.bind fun s'=>if nx.all (fun k=>decide (k < E.m.code.length)) = true then some s' else none):=by
    show _ = _
    rw [← hog.out,hod0.out];unfold Chk.goes;rw [if_pos hbr];rfl
  rw [hins.out] at i0 i1 i2 i3 i4 i5 oki hi
  have hone : Hid (Chk.one E.f E.m a s = (og.isSome,pairs1 nx (og.getD State.bad) ++ (E.m.handlers.filter fun h=>Chk.covers h a).map fun h=>(h.go.toNat,Chk.hstate E.m s og.isSome h))):=by
    show _ = _
    unfold Chk.one;rw [hog.out,hins.out,hnx.out];rfl
  have hno : ∀ p ∈ (Chk.one E.f E.m a s).2,StOk E.f.classes.length E.m.locals.toNat E.m.stack.toNat p.2:=Chk.one_ok S hmem a s os
  rw [hone.out] at hno ⊢
  replace hno:=Lib.hid hno
  simp only
  generalize hres : leads E.f.classes ⟨R.states,R.work,R.bad || !og.isSome⟩ (pairs1 nx (og.getD State.bad) ++ (E.m.handlers.filter fun h=>Chk.covers h a).map fun h=>(h.go.toNat,Chk.hstate E.m s og.isSome h)) = RES
  replace hres:=Lib.hid hres
  obtain ⟨op,ia,ib,ic,in_,iargs⟩:=ins
  simp only at i0 i1 i2 i3 i4 i5 oki
  have hjmp:=hi.jump
  simp only at hjmp
  have hopr:=hi.op
  simp only at hopr
  clear hck hel heh F hR os hme
  replace hbr:=Lib.hid hbr
  go_enter Try.func95,Try.ntmps95
  go_wp2_with fail
  have hw1 : Below w.heap.size w ((w.alloc (.cells #[.slice c1 s.slots.length n1,.slice c2 s.stack.length n2,.bool s.broken] 157)).alloc (.cells #[.int .i64 op,.int .i64 ia,.int .i64 ib,.int .i64 ic,.int .i64 in_,.slice aa iargs.length acap] 63)):=Rd.byB
  have HL:=Lib.hid (stok_len OS.out (by omega) (by omega))
  refine (clone (HV.out.below (X':=fun _=>False) (by exact Rd.byB) (fun _ _ e=>e.elim)) HL.out.1 HL.out.2).mono ?_
  rintro e w2 ⟨vs,vk,rfl,R1,R2,N12,hb2⟩
  obtain ⟨g1,d1,rfl⟩:=R1.any
  obtain ⟨g2,d2,rfl⟩:=R2.any
  replace R1:=Lib.hid R1
  replace R2:=Lib.hid R2
  replace N12:=Lib.hid N12
  go_upto_region 4 with (fail)
  obtain ⟨W3,hW3⟩ : ∃ W3,W3 = w2.alloc (.cells #[.pointer (some ⟨E.cb,0,none⟩),.slice g1 s.slots.length d1,.slice g2 s.stack.length d2,.bool s.broken] 243):=⟨_,rfl⟩
  obtain ⟨mb,hmb⟩ : ∃ mb,mb = w2.heap.size:=⟨_,rfl⟩
  have hs2:=hb2.size
  simp at hs2
  have hal : Below w2.heap.size w2 W3:=by rw [hW3];exact Rd.byB
  have hb2w : Below w.heap.size w w2:=hw1.trans (hb2.mono (by simp <;> omega))
  have hb3w : Below w.heap.size w W3:=hb2w.trans (hal.mono (by omega))
  have hbx : ∀ k (x : Value),((w.alloc (.cells #[.slice c1 s.slots.length n1,.slice c2 s.stack.length n2,.bool s.broken] 157)).alloc (.cells #[.int .i64 op,.int .i64 ia,.int .i64 ib,.int .i64 ic,.int .i64 in_,.slice aa iargs.length acap] 63)).cell? ⟨w.heap.size + 1,k,none⟩ = some x → W3.cell? ⟨w.heap.size + 1,k,none⟩ = some x:=fun k x h=>kept hal (by omega) (kept hb2 (by simp) h)
  have x0:=hbx 0 (.int .i64 op) (by go_simp)
  have x1:=hbx 1 (.int .i64 ia) (by go_simp)
  have x2:=hbx 2 (.int .i64 ib) (by go_simp)
  have x3:=hbx 3 (.int .i64 ic) (by go_simp)
  have x4:=hbx 4 (.int .i64 in_) (by go_simp)
  have x5:=hbx 5 (.slice aa iargs.length acap) (by go_simp)
  have u2 : W3.cell? ⟨w.heap.size,2,none⟩ = some (.bool s.broken):=kept hal (by omega) (kept hb2 (by simp <;> omega) (by go_simp))
  have R1L : ∀ g,(Value.slice g1 s.slots.length d1).ownBlock = some g → w.heap.size + 2 ≤ g ∧ g < mb:=fun g hg=>by have:=R1.out.lt hg;simp at this;omega
  have R2L : ∀ g,(Value.slice g2 s.stack.length d2).ownBlock = some g → w.heap.size + 2 ≤ g ∧ g < mb:=fun g hg=>by have:=R2.out.lt hg;simp at this;omega
  have F3:=HF.out.below hb3w
  have MO4 : Hid (MO E w.heap.size mb W3 od):=by
    show MO _ _ _ _ _
    rw [hod0.out]
    refine ⟨.pointer (some ⟨E.cb,0,none⟩),.slice g1 s.slots.length d1,.slice g2 s.stack.length d2,.bool s.broken,?_⟩
    rw [hmb,hW3]
    exact Blk.made w2 [.pointer (some ⟨E.cb,0,none⟩),.slice g1 s.slots.length d1,.slice g2 s.stack.length d2,.bool s.broken] _
  rw [← hW3,← hmb]
  have hmbw : w.heap.size + 2 ≤ mb:=by omega
  clear hW3 hbx hal hb2 R1 R2 N12 R1L R2L F3 hb2w hw1 hmb i0 i1 i2 i3 i4 i5
  obtain ⟨w4,rfl⟩ : ∃ w4 : World,w4 = W3:=⟨_,rfl⟩
  have hb4w:=hb3w
  have hp0 : Hid (od.isSome = false):=by show _ = _;rw [hod0.out];rfl
  have hbr':=hbr.out
  have F4:=HF.out.below hb4w
  have hszw4:=hb4w.size
  have j9:=kept hb4w lcb k9
  have j10:=kept hb4w lcb k10
  have j6:=kept hb4w lcb k6
  have j0:=kept hb4w lcb k0
  have j11:=kept hb4w lcb k11
  have y11:=keptf hb4w lcb z11
  clear k9 k10 k6 k0 k11 z11 F4
  have lw4:=cell_lt x0
  have lcb4:=cell_lt j9
  replace lcb:=Lib.hid lcb
  clear lcb1 lcb2
  go_wp2_with (go_at_call 148;refine (nexts op ia ib ic in_ iargs aa iargs.length acap a (by omega) (fun h=>(hjmp h).1)).mono ?_;rintro e w5 ⟨v1,rfl,N1,hb5⟩;rw [hnx.out] at N1;obtain ⟨na,ncap,rfl,nq1,nq2,hn1⟩:=N1;replace hn1:=Lib.hid hn1)
  have hb5w : Below w.heap.size w w5:=hb4w.trans (hb5.mono hszw4)
  have hszw5:=hb5w.size
  have hs5:=hb5.size
  replace j9:=kept hb5 lcb4 j9
  replace j10:=kept hb5 lcb4 j10
  replace j6:=kept hb5 lcb4 j6
  replace j0:=kept hb5 lcb4 j0
  replace j11:=kept hb5 lcb4 j11
  replace y11:=keptf hb5 lcb4 y11
  replace x0:=kept hb5 lw4 x0
  replace x1:=kept hb5 lw4 x1
  replace x2:=kept hb5 lw4 x2
  replace x3:=kept hb5 lw4 x3
  replace x4:=kept hb5 lw4 x4
  replace x5:=kept hb5 lw4 x5
  replace MO4:=Lib.hid (MO4.out.below hb5)
  go_loopw [9,43] (fun b c wr=>∃ (n : Nat) (p : Bool),c = .int .i64 n ∧ b = .bool p ∧ n ≤ nx.length ∧ wr = w5 ∧ Hid (p = (false && (nx.take n).all fun k=>decide (k < E.m.code.length)))) (fun _ c _=>nx.length - (intOf c).toNat)
  case atStart=>exact ⟨0,false,rfl,rfl,Nat.zero_le _,rfl,Lib.hid (by simp)⟩
  case round =>
    obtain ⟨n,p,rfl,rfl,hn,rfl,hp⟩:=hrel
    by_cases hlt : n < nx.length
    · obtain ⟨nb,rfl,hnb,ce⟩:=hn1.out n hlt
      obtain ⟨k,hk⟩ : ∃ k,Hid (nx.getD n 0 = k):=⟨_,Lib.hid rfl⟩
      rw [hk.out] at ce
      have i9 : (n : Int) < nx.length:=by omega
      cases p
      · go_wp2
        refine ⟨⟨n + 1,false,by simp,by first | rfl | trivial,hlt,by first | rfl | trivial,Lib.hid ?_⟩,by simp only [intOf];omega⟩
        rw [all_take hlt,← Bool.and_assoc,← hp.out];rfl
      · by_cases hkl : k < E.m.code.length
        · have i8 : (k : Int) < E.m.code.length:=by omega
          go_wp2
          refine ⟨⟨n + 1,true,by simp,by first | rfl | trivial,hlt,by first | rfl | trivial,Lib.hid ?_⟩,by simp only [intOf];omega⟩
          rw [all_take hlt,← Bool.and_assoc,← hp.out,hk.out];simp [hkl]
        · have i8 : ¬ (k : Int) < E.m.code.length:=by omega
          go_wp2
          refine ⟨⟨n + 1,false,by simp,by first | rfl | trivial,hlt,by first | rfl | trivial,Lib.hid ?_⟩,by simp only [intOf];omega⟩
          rw [all_take hlt,← Bool.and_assoc,← hp.out,hk.out];simp [hkl]
    · obtain rfl : n = nx.length:=by omega
      have hpg : p = og.isSome:=by rw [hp.out,List.take_of_length_le (Nat.le_refl _),← hp0.out];exact pg_eq hgo.out
      subst hpg
      have hod2 : Hid (∀ g,og = some g → od = some g):=fun g e=>by
        have h:=hgo.out
        rw [e] at h
        cases od with
        | none=>simp at h
        | some s' =>
          simp only [Option.bind_some] at h
          split at h
          · exact h.symm
          · cases h
      clear hp hgo hp0 hn1 hlt hn
      obtain ⟨mx,my,mz,mu,mB⟩:=MO4.out.ex
      have m0:=(mB 0 (by simp)).1
      have m1:=(mB 1 (by simp)).1
      have m2:=(mB 2 (by simp)).1
      have m3:=(mB 3 (by simp)).1
      have e1:=(mB 1 (by simp)).2
      have e2:=(mB 2 (by simp)).2
      have e3:=(mB 3 (by simp)).2
      simp only [List.getElem_cons_zero,List.getElem_cons_succ] at m0 m1 m2 m3
      clear mB
      have ncm : ¬ E.cb = mb:=by have:=lcb.out;omega
      have nmc : ¬ mb = E.cb:=by have:=lcb.out;omega
      have nim : ¬ w.heap.size + 1 = mb:=by omega
      have nmi : ¬ mb = w.heap.size + 1:=by omega
      have nic : ¬ w.heap.size + 1 = E.cb:=by have:=lcb.out;omega
      have nci : ¬ E.cb = w.heap.size + 1:=by have:=lcb.out;omega
      cases og with
      | none =>
        simp only [Option.isSome_none,Option.getD_none,Bool.not_false,Bool.or_true] at hres hno hone ⊢
        go_upto_region 13 with (fail)
        obtain ⟨W7,hW7⟩ : ∃ W7,W7 = (((wr.setCell ⟨E.cb,11,none⟩ (.bool true)).setCell ⟨mb,1,none⟩ (.slice none 0 0)).setCell ⟨mb,2,none⟩ (.slice none 0 0)).setCell ⟨mb,3,none⟩ (.bool true):=⟨_,rfl⟩
        have FB:=HF.out.bad true
        have hbz : Below w.heap.size (w.setCell ⟨E.cb,11,none⟩ (.bool true)) W7:=by
          rw [hW7]
          exact (((below_setCell2 hb5w ⟨E.cb,11,none⟩ (.bool true)).setCell (p:=⟨mb,1,none⟩) (by show w.heap.size ≤ mb;omega) _).setCell (p:=⟨mb,2,none⟩) (by show w.heap.size ≤ mb;omega) _).setCell (p:=⟨mb,3,none⟩) (by show w.heap.size ≤ mb;omega) _
        have hbz' : Below (w.setCell ⟨E.cb,11,none⟩ (.bool true)).heap.size (w.setCell ⟨E.cb,11,none⟩ (.bool true)) W7:=by simpa [World.setCell] using hbz
        have F7:=Lib.hid (FB.1.below hbz')
        have K7:=Lib.hid (kpb FB.2 hbz')
        have G7 : Hid (MG E mb (zone E vw) W7 State.bad):=⟨.slice none 0 0,.slice none 0 0,by rw [hW7];go_simp,by rw [hW7];go_simp,by rw [hW7];show _ = some (Value.bool true);go_simp,TS.nil _ _,TS.nil _ _⟩
        replace x0 : W7.cell? ⟨w.heap.size + 1,0,none⟩ = some (.int .i64 op):=by rw [hW7];go_simp
        replace x1 : W7.cell? ⟨w.heap.size + 1,1,none⟩ = some (.int .i64 ia):=by rw [hW7];go_simp
        replace x2 : W7.cell? ⟨w.heap.size + 1,2,none⟩ = some (.int .i64 ib):=by rw [hW7];go_simp
        replace x3 : W7.cell? ⟨w.heap.size + 1,3,none⟩ = some (.int .i64 ic):=by rw [hW7];go_simp
        replace x4 : W7.cell? ⟨w.heap.size + 1,4,none⟩ = some (.int .i64 in_):=by rw [hW7];go_simp
        replace x5 : W7.cell? ⟨w.heap.size + 1,5,none⟩ = some (.slice aa iargs.length acap):=by rw [hW7];go_simp
        have hszw7 : w.heap.size ≤ W7.heap.size:=K7.out.size
        rw [← hW7]
        clear hW7 hbz hbz' FB m0 m1 m2 m3 e1 e2 e3 j9 j10 j6 j0 j11 y11 MO4 hb5 hb5w hb4w hszw5 hs5
        have HP : Hid (R.bad || !false = true):=by show _ = _;simp
        have HR7:=Lib.hid (runOk_bad (b:=true) HR.out)
        have hsg : nx ≠ [] → StOk E.f.classes.length E.m.locals.toNat E.m.stack.toNat State.bad:=fun h=>hno.out (nx.head h,State.bad) (List.mem_append.2 (.inl (List.mem_map.2 ⟨_,List.head_mem h,rfl⟩)))
        replace hsg:=Lib.hid hsg
        have lw7:=cell_lt x0
        obtain ⟨xa,xb,m1,m2,m3,ga,gb⟩:=G7.out
        have ga':=Lib.hid ga
        have gb':=Lib.hid gb
        obtain ⟨o1,o2,rfl,_⟩:=ga.len
        obtain ⟨o3,o4,rfl,_⟩:=gb.len
        have lm7:=cell_lt m1
        clear ga gb G7
        go_wp2_with (go_at_call 148;refine (nexts op ia ib ic in_ iargs aa iargs.length acap a (by omega) (fun h=>(hjmp h).1)).mono ?_;rintro e w8 ⟨v2,rfl,N2,hb8⟩;rw [hnx.out] at N2;obtain ⟨nb,ncap2,rfl,nq3,nq4,hn2⟩:=N2;replace hn2:=Lib.hid hn2)
        have F8:=Lib.hid (F7.out.below hb8)
        have hs8:=hb8.size
        replace m1:=kept hb8 lm7 m1
        replace m2:=kept hb8 lm7 m2
        replace m3:=kept hb8 lm7 m3
        have GA:=Lib.hid (ga'.out.below (X':=zone E vw) hb8 (fun _ _ e=>e))
        have GB:=Lib.hid (gb'.out.below (X':=zone E vw) hb8 (fun _ _ e=>e))
        have K8:=Lib.hid (kpb K7.out hb8)
        have zmb : ¬ zone E vw mb:=fun h=>by have:=zl mb h;omega
        clear ga' gb' F7 K7 x0 x1 x2 x3 x4 x5
        go_loopw [72] (fun c wr=>∃ (n : Nat) (vw1 : Value),c = .int .i64 n ∧ n ≤ nx.length ∧ Hid (Fw E wr vw1 (leads E.f.classes ⟨R.states,R.work,true⟩ (pairs1 (nx.take n) State.bad))) ∧ Hid (Kp (zone E vw) w8 wr) ∧ Hid (∀ k,zone E vw1 k → zone E vw k ∨ w8.heap.size ≤ k)) (fun c _=>nx.length - (intOf c).toNat)
        case atStart=>exact ⟨0,vw,rfl,Nat.zero_le _,F8,Lib.hid (Kp.refl _ _),Lib.hid (fun k h=>.inl h)⟩
        case round =>
          obtain ⟨n,vw1,rfl,hn,FN,KN,ZN⟩:=hrel
          by_cases hlt : n < nx.length
          · obtain ⟨nbb,rfl,hnb,ce⟩:=hn2.out n hlt
            obtain ⟨k,hk⟩ : ∃ k,Hid (nx.getD n 0 = k):=⟨_,Lib.hid rfl⟩
            rw [hk.out] at ce
            have i9 : (n : Int) < nx.length:=by omega
            have znb : ¬ zone E vw nbb:=fun h=>by have:=zl nbb h;omega
            replace ce:=KN.out.cell ce znb
            have r1:=KN.out.cell m1 zmb
            have r2:=KN.out.cell m2 zmb
            have r3:=KN.out.cell m3 zmb
            have r0:=(FN.out.ck 0 (by simp [ccells,meV])).1
            simp [ccells,meV] at r0
            have SG:=hsg.out (fun e=>by rw [e] at hlt;simp at hlt)
            have LO:=leads_ok hm (pairs1 (nx.take n) State.bad) HR7.out (fun p hp=>by obtain ⟨_,_,rfl⟩:=List.mem_map.1 hp;exact SG)
            have hwl : (leads E.f.classes ⟨R.states,R.work,true⟩ (pairs1 (nx.take n) State.bad)).work.length ≤ 100000000:=by
              have h1:=work_le E.m.locals.toNat E.m.stack.toNat (leads E.f.classes ⟨R.states,R.work,true⟩ (pairs1 (nx.take n) State.bad))
              have h2:=LO.2.1
              have h3:=HME.out
              have h4 : meas E.m.locals.toNat E.m.stack.toNat (⟨R.states,R.work,true⟩ : Flow.Run) = meas E.m.locals.toNat E.m.stack.toNat R:=rfl
              omega
            replace LO:=Lib.hid LO.1
            replace hwl:=Lib.hid hwl
            go_wp2_with fail
            go_still_tail 9,(by kernel_rfl)
            go_wp2_with fail
            refine (lead (FN.out.below (w':=wr.drew) (by exact Rd.byB)) hm LO.out (v:=.agg #[.slice o1 State.bad.slots.length o2,.slice o3 State.bad.stack.length o4,.bool State.bad.broken]) (s:=State.bad) ⟨_,_,rfl,GA.out.next (X':=zone E vw1) (KN.out.drew) (fun _ _ e=>e) (fun b hb e=>(ZN.out b e).elim id (fun h=>by omega)),GB.out.next (X':=zone E vw1) (KN.out.drew) (fun _ _ e=>e) (fun b hb e=>(ZN.out b e).elim id (fun h=>by omega))⟩ SG (by omega) (by omega) k hwl.out).mono ?_
            rintro e w9 ⟨rfl,vw2,F9,K9,Z9⟩
            replace F9:=Lib.hid F9
            replace K9:=Lib.hid K9
            replace Z9:=Lib.hid Z9
            go_wp2_with fail
            refine ⟨⟨n + 1,vw2,by simp,hlt,?_,Lib.hid (KN.out.drew.trans K9.out ZN.out),Lib.hid (fun j hj=>(Z9.out j hj).elim (ZN.out j) (fun e=>.inr (Nat.le_trans KN.out.size (by simpa using e))))⟩,by simp only [intOf];omega⟩
            rw [pairs_take hlt,leads_snoc,hk.out]
            exact F9
          · obtain rfl : n = nx.length:=by omega
            obtain ⟨wo,rfl⟩ : ∃ wo : World,wo = wr:=⟨_,rfl⟩
            have LO9:=leads_ok hm (pairs1 (nx.take nx.length) State.bad) HR7.out (fun p hp=>by obtain ⟨x,hx,rfl⟩:=List.mem_map.1 hp;exact hsg.out (fun e=>by rw [e] at hx;simp at hx))
            have hm9 : meas E.m.locals.toNat E.m.stack.toNat (leads E.f.classes ⟨R.states,R.work,true⟩ (pairs1 (nx.take nx.length) State.bad)) ≤ 10000000:=by
              have h2:=LO9.2.1
              have h3:=HME.out
              have h4 : meas E.m.locals.toNat E.m.stack.toNat (⟨R.states,R.work,true⟩ : Flow.Run) = meas E.m.locals.toNat E.m.stack.toNat R:=rfl
              omega
            replace LO9:=Lib.hid LO9.1
            replace hm9:=Lib.hid hm9
            have hfin : Hid (RES = leads E.f.classes (leads E.f.classes ⟨R.states,R.work,true⟩ (pairs1 (nx.take nx.length) State.bad)) (hls E.m s false a E.m.handlers.length)):=by
              show _ = _
              rw [← hres.out,List.take_length,hls_all,leads_app]
            generalize leads E.f.classes ⟨R.states,R.work,true⟩ (pairs1 (nx.take nx.length) State.bad) = R9 at LO9 hm9 hfin FN
            have hno2 : Hid (∀ n,∀ p ∈ hls E.m s false a n,StOk E.f.classes.length E.m.locals.toNat E.m.stack.toNat p.2):=fun n p hp=>hno.out p (List.mem_append.2 (.inr (hls_sub p hp)))
            have Kw:=Lib.hid (K8.out.trans KN.out (fun y h=>.inl h))
            have Zw : Hid (∀ k,zone E vw1 k → zone E vw k ∨ w.heap.size ≤ k):=fun k hk=>(ZN.out k hk).imp id (fun e=>Nat.le_trans (Nat.le_trans hszw7 hs8) e)
            have r10:=(FN.out.ck 10 (by simp [ccells,meV])).1
            simp [ccells,meV] at r10
            rw [evh] at r10
            have lcbo:=cell_lt r10
            clear KN ZN K8 hlt hn hn2 m1 m2 m3 GA GB hsg HR7 hno hres
            go_wp2_with fail
            go_loopw [93] (fun c wr=>∃ (n : Nat) (vw2 : Value),c = .int .i64 n ∧ n ≤ E.m.handlers.length ∧ Hid (Fw E wr vw2 (leads E.f.classes R9 (hls E.m s false a n))) ∧ Hid (Kp (zone E vw) w wr) ∧ Hid (∀ k,zone E vw2 k → zone E vw k ∨ w.heap.size ≤ k)) (fun c _=>E.m.handlers.length - (intOf c).toNat)
            case atStart=>exact ⟨0,vw1,rfl,Nat.zero_le _,FN,Kw,Zw⟩
            case round =>
              obtain ⟨n,vw2,rfl,hn,FM,KM,ZM⟩:=hrel
              by_cases hlt : n < E.m.handlers.length
              · obtain ⟨hx,hxc,evh2,_,_,heh⟩:=FM.out.hands
                rw [evh] at evh2
                simp only [Value.slice.injEq,true_and] at evh2
                obtain ⟨rfl,rfl⟩:=evh2
                obtain ⟨hbk,hof,rfl,hhb,b0,b1,b2,b3,okh⟩:=heh n hlt
                have hdx:=MM.hds.2 _ (List.getElem_mem hlt)
                have hcov:=hls_yes (s:=s) (ok:=false) (a:=a) hlt
                have hunc:=hls_no (s:=s) (ok:=false) (a:=a) hlt
                obtain ⟨⟨lo,hi_,gg,cl⟩,hh⟩ : ∃ x,Hid (E.m.handlers[n] = x):=⟨_,Lib.hid rfl⟩
                rw [hh.out] at b0 b1 b2 b3 okh hdx hcov hunc
                simp only [Form.hd,Bool.and_eq_true,decide_eq_true_eq,Run.rng_iff] at hdx
                simp only at b0 b1 b2 b3 okh
                obtain ⟨kg,rfl⟩ : ∃ kg : Nat,gg = (kg : Int):=⟨gg.toNat,by omega⟩
                simp only [Chk.covers] at hcov hunc
                have hcov':=Lib.hid hcov
                have hunc':=Lib.hid hunc
                clear hcov hunc
                have i9 : (n : Int) < E.m.handlers.length:=by omega
                have lhb:=cell_lt b0
                have r0:=(FM.out.ck 0 (by simp [ccells,meV])).1
                have r6:=(FM.out.ck 6 (by simp [ccells,meV])).1
                simp [ccells,meV] at r0 r6
                have lcbr:=cell_lt r0
                have lcbr1 : E.cb < wr.heap.size + 1:=by omega
                have LO:=leads_ok hm (hls E.m s false a n) LO9.out (hno2.out n)
                have hwl : (leads E.f.classes R9 (hls E.m s false a n)).work.length ≤ 100000000:=by
                  have h1:=work_le E.m.locals.toNat E.m.stack.toNat (leads E.f.classes R9 (hls E.m s false a n))
                  have h2:=LO.2.1
                  have h3:=hm9.out
                  omega
                replace LO:=Lib.hid LO.1
                replace hwl:=Lib.hid hwl
                have nstay : Hid (∀ W,Below wr.heap.size wr W → hls E.m s false a (n + 1) = hls E.m s false a n → ∃ vw3,Hid (Fw E W vw3 (leads E.f.classes R9 (hls E.m s false a (n + 1)))) ∧ Hid (Kp (zone E vw) w W) ∧ Hid (∀ k,zone E vw3 k → zone E vw k ∨ w.heap.size ≤ k)):=fun W hW e=>⟨vw2,by rw [e];exact FM.out.below hW,kpb KM.out hW,ZM⟩
                by_cases d1 : (a : Int) < lo
                · go_wp2
                  obtain ⟨vw3,G1,G2,G3⟩:=nstay.out (wr.alloc (.cells #[.int .i64 lo,.int .i64 hi_,.int .i64 kg,.int .i64 cl] 90)) (by exact Rd.byB) (hunc'.out (by simp;omega))
                  exact ⟨⟨n + 1,vw3,by simp,hlt,G1,G2,G3⟩,by simp only [intOf];omega⟩
                · by_cases d2 : hi_ ≤ (a : Int)
                  · go_wp2
                    obtain ⟨vw3,G1,G2,G3⟩:=nstay.out (wr.alloc (.cells #[.int .i64 lo,.int .i64 hi_,.int .i64 kg,.int .i64 cl] 90)) (by exact Rd.byB) (hunc'.out (by simp;omega))
                    exact ⟨⟨n + 1,vw3,by simp,hlt,G1,G2,G3⟩,by simp only [intOf];omega⟩
                  · have hcv:=Lib.hid (hcov'.out (by simp;omega))
                    clear hcov' hunc' nstay
                    go_upto_region 22 with (fail)
                    obtain ⟨Wh,hWh⟩ : ∃ Wh,Wh = wr.alloc (.cells #[.int .i64 lo,.int .i64 hi_,.int .i64 kg,.int .i64 cl] 90):=⟨_,rfl⟩
                    have hbh : Below wr.heap.size wr Wh:=by rw [hWh];exact Rd.byB
                    have p2 : Wh.cell? ⟨wr.heap.size,2,none⟩ = some (.int .i64 kg):=by rw [hWh];go_simp
                    have p3 : Wh.cell? ⟨wr.heap.size,3,none⟩ = some (.int .i64 cl):=by rw [hWh];go_simp
                    replace r0:=kept hbh lcbr r0
                    replace r6:=kept hbh lcbr r6
                    have FH:=Lib.hid (FM.out.below hbh)
                    have KH:=Lib.hid (kpb KM.out hbh)
                    rw [← hWh]
                    clear hWh b0 b1 b2 b3
                    have hend : Hid (∀ (W : World),(∃ vw3,Fw E W vw3 (Flow.lead E.f.classes (leads E.f.classes R9 (hls E.m s false a n)) kg (Chk.hstate E.m s false ⟨lo,hi_,kg,cl⟩)) ∧ Kp (zone E vw2) Wh W ∧ ∀ k,zone E vw3 k → zone E vw2 k ∨ Wh.heap.size ≤ k) → ∃ vw3,Hid (Fw E W vw3 (leads E.f.classes R9 (hls E.m s false a (n + 1)))) ∧ Hid (Kp (zone E vw) w W) ∧ Hid (∀ k,zone E vw3 k → zone E vw k ∨ w.heap.size ≤ k)):=fun W ⟨vw3,G1,G2,G3⟩ =>
                      ⟨vw3,by rw [hcv.out,leads_snoc];exact G1,KH.out.trans G2 ZM.out,fun k hk=>(G3 k hk).elim (ZM.out k) (fun e=>.inr (Nat.le_trans KH.out.size e))⟩
                    have hst : Chk.hstate E.m s false ⟨lo,hi_,kg,cl⟩ = State.bad:=by unfold Chk.hstate;rw [if_pos (.inl rfl)]
                    go_wp2_with fail
                    go_still_tail 7,(by kernel_rfl)
                    go_wp2_with fail
                    refine (lead (FH.out.below (w':=Wh.drew) (by exact Rd.byB)) hm LO.out (v:=.agg #[.slice none 0 0,.slice none 0 0,.bool true]) (s:=State.bad) (VSt.bad _ _) (bad_ok _ _ _) (by omega) (by omega) kg hwl.out).mono ?_
                    rintro e w9 ⟨rfl,vw3,F9,K9,Z9⟩
                    rw [← hst] at F9
                    obtain ⟨vw4,G1,G2,G3⟩:=hend.out w9 ⟨vw3,F9,(Kp.drew (Kp.refl (zone E vw2) Wh)).trans K9 (fun y h=>.inl h),fun k hk=>(Z9 k hk).imp id (fun e=>by simpa using e)⟩
                    go_wp2_with fail
                    exact ⟨⟨n + 1,vw4,by simp,hlt,G1,G2,G3⟩,by simp only [intOf];omega⟩
              · obtain rfl : n = E.m.handlers.length:=by omega
                go_wp2
                first | go_end0 | ((try simp only [Exit.inBlock,Exit.then]);refine bodyPost_ret (results_none rfl _ _ _) rfl ?_)
                rw [hfin.out]
                exact ⟨rfl,vw2,FM.out,KM.out,ZM.out⟩
      | some g=>exact absurd (hod2.out g rfl) (by rw [hod0.out];simp)
theorem one (F : Fw E w vw R) (S : Run.FiS E.f) (hmem : E.m ∈ E.f.methods) (hR : RunOk E.f.classes.length E.m.locals.toNat E.m.stack.toNat E.m.code.length R) (hv : VSt w (zone E vw) v s) (os : StOk E.f.classes.length E.m.locals.toNat E.m.stack.toNat s) (a : Nat) (ha : a < E.m.code.length) (hme : meas E.m.locals.toNat E.m.stack.toNat R ≤ 10000000) :
    Calls Try.prog 95 #[.pointer (some ⟨E.cb,0,none⟩),.int .i64 a,v] w (LeadR E vw w (leads E.f.classes ⟨R.states,R.work,R.bad || !(Chk.one E.f E.m a s).1⟩ (Chk.one E.f E.m a s).2)):=by
  cases hb : s.broken
  · exact oneA F S hmem hR hv os a ha hme hb
  · exact oneB F S hmem hR hv os a ha hme hb
end
end Sck
end Go.Proofs.Ytncmhenfgbcihab
namespace Go.Proofs.Ytncmhenfgbcihab
open Go.RowKit
set_option linter.unusedSimpArgs false
set_option linter.unusedVariables false
namespace Sck
open Num Rd D Mem Hpw Flow HierW FormW
section
variable {E : FE} {w w' : World} {vw : Value} {R : Flow.Run}
theorem row_last {w : World} {base n : Nat} {T : TypeId} {v : Value} {l : List Nat} {a : Nat} (h : w.ownsRow base T 1 v l.length (wcells l)) (hl : l = l.dropLast ++ [a]) : ∃ g cap,v = .slice (some ⟨g,0,none⟩) l.length cap ∧ l.length ≤ cap ∧ cap ≤ 9223372036854775807 ∧ g < w.heap.size ∧ w.cell? ⟨g,l.length - 1,none⟩ = some (.int .i64 a):=by
  have hpos : 0 < l.length:=by rw [hl];simp
  obtain ⟨g,cap,e,h1,h2,_,h4⟩:=row_form h hpos
  refine ⟨g,cap,e,h1,h2,h4,?_⟩
  rw [e] at h
  refine row_cell h ?_
  unfold wcells
  rw [List.getElem?_map]
  have : l[l.length - 1]? = some a:=by
    rw [← List.getLast?_eq_getElem?,hl];simp
  rw [this];rfl
set_option maxRecDepth 100000 in
set_option maxHeartbeats 4000000 in
theorem run (F : Fw E w vw R) (S : Run.FiS E.f) (hmem : E.m ∈ E.f.methods) (hR : RunOk E.f.classes.length E.m.locals.toNat E.m.stack.toNat E.m.code.length R) (hme : meas E.m.locals.toNat E.m.stack.toNat R ≤ 10000000) :
    Calls Try.prog 94 #[.pointer (some ⟨E.fb,0,none⟩),.func (.func 95) #[.pointer (some ⟨E.cb,0,none⟩)] #[]] w (LeadR E vw w (fin E.f.classes (Chk.one E.f E.m) E.m.locals.toNat E.m.stack.toNat R)):=by
  have hm:=S.may
  have ho:=Chk.one_ok S hmem
  have HF:=Lib.hid F
  have HR:=Lib.hid hR
  have HME:=Lib.hid hme
  generalize hres : fin E.f.classes (Chk.one E.f E.m) E.m.locals.toNat E.m.stack.toNat R = RES
  replace hres:=Lib.hid hres
  obtain ⟨n0,hn0⟩ : ∃ n,n = meas E.m.locals.toNat E.m.stack.toNat R:=⟨_,rfl⟩
  have hn00:=Lib.hid hn0
  clear F hR hme hn0
  go_enter Try.func94,Try.ntmps94
  go_wp2_with fail
  go_loopg [4] n0 (fun k p wr=>∃ (vw1 : Value) (R1 : Flow.Run),Hid (Fw E wr vw1 R1) ∧ Hid (RunOk E.f.classes.length E.m.locals.toNat E.m.stack.toNat E.m.code.length R1) ∧ Hid (meas E.m.locals.toNat E.m.stack.toNat R1 = k) ∧ Hid (meas E.m.locals.toNat E.m.stack.toNat R1 ≤ 10000000) ∧ Hid (fin E.f.classes (Chk.one E.f E.m) E.m.locals.toNat E.m.stack.toNat R1 = RES) ∧ Hid (Kp (zone E vw) w wr) ∧ Hid (∀ k,zone E vw1 k → zone E vw k ∨ w.heap.size ≤ k))
  case atStart=>exact ⟨vw,R,HF,HR,Lib.hid hn00.out.symm,HME,hres,Kp.refl _ _,fun k h=>.inl h⟩
  case round =>
    obtain ⟨vw1,R1,FN,RN,MN,LN,EN,KN,ZN⟩:=hrel
    have f2:=(FN.out.fl 2 (by simp)).1
    have z2:=(FN.out.fl 2 (by simp)).2
    have f1:=(FN.out.fl 1 (by simp)).1
    simp only [List.getElem_cons_zero,List.getElem_cons_succ] at f1 f2
    by_cases hw : R1.work = []
    · obtain ⟨wa,wcap,evw⟩:=row_any FN.out.wk
      have EVW:=Lib.hid evw
      rw [evw,hw] at f2
      clear evw
      go_wp2
      first | go_end0 | ((try simp only [Exit.inBlock,Exit.then]);refine bodyPost_ret (results_none rfl _ _ _) rfl ?_)
      rw [fin_done hm hw] at EN
      rw [← EN.out]
      exact ⟨rfl,vw1,FN.out,KN.out,ZN.out⟩
    · obtain ⟨a, hga⟩ : ∃ a, R1.work.getLast? = some a := by
        cases h : R1.work.getLast? with
        | none=>exact absurd (List.getLast?_eq_none_iff.1 h) hw
        | some a=>exact ⟨a,rfl⟩
      have hla:=last_of hga
      obtain ⟨g,cap,evw,q1,q2,lg,ce⟩:=row_last (n:=0) FN.out.wk hla
      obtain ⟨ha,s,hs⟩:=RN.out.2.2 a (by rw [hla];simp)
      have hlen : R1.states.length = E.m.code.length:=RN.out.1
      obtain ⟨v0,k0,fz0,p0⟩:=FN.out.st a (by rw [hlen];exact ha)
      rw [hs] at p0
      obtain ⟨pb,va,vb,rfl,hpz,q0,q3,q4,u1,u2⟩:=p0
      have hrd : Hid (Flow.round E.f.classes (Chk.one E.f E.m) R1 = leads E.f.classes ⟨R1.states,R1.work.dropLast,R1.bad || !(Chk.one E.f E.m a s).1⟩ (Chk.one E.f E.m a s).2):=by
        show _ = _
        unfold Flow.round
        rw [hga]
        simp only [hs,Option.getD_some]
      have RO:=round_ok hm ho RN.out
      have hmr:=RO.2 hw
      obtain ⟨n,hn⟩ : ∃ n,R1.work.length = n + 1:=⟨R1.work.length - 1,by have : 0 < R1.work.length:=List.length_pos_iff.2 hw;omega⟩
      have hfar:=FN.out.far g (by rw [evw];rfl)
      have ng1 : ¬ g = E.fb:=hfar.1
      have ng2 : ¬ E.fb = g:=fun e=>hfar.1 e.symm
      have nsf : ¬ E.sb = E.fb:=fun e=>FN.out.ne.2.1 e.symm
      have npf : ¬ pb = E.fb:=fun e=>hpz (.inl e)
      have hVs : VSt wr (zone E vw1) (.agg #[va,vb,.bool s.broken]) s:=⟨va,vb,rfl,u1,u2⟩
      obtain ⟨c3,n3,rfl,_⟩:=u1.len
      obtain ⟨c4,n4,rfl,_⟩:=u2.len
      have HVs:=Lib.hid hVs
      have os:=Lib.hid (RN.out.2.1 a s hs)
      have hcl:=(S.mes _ hmem).code
      have hlc:=(S.mes _ hmem).locals
      have hst:=(S.mes _ hmem).stack
      have HSL:=Lib.hid (stok_len os.out (by omega) (by omega))
      have hdl : R1.work.dropLast.length = n:=by rw [List.length_dropLast,hn];rfl
      have hrow : wr.ownsRow E.B 3 1 (.slice (some ⟨g,0,none⟩) n cap) R1.work.dropLast.length (wcells R1.work.dropLast):=by
        have h:=FN.out.wk
        rw [evw] at h
        have h2:=row_take h (k:=n) (by omega)
        rw [hdl]
        have e : wcells R1.work.dropLast = (wcells R1.work).take (n * 1):=by
          unfold wcells
          rw [List.dropLast_eq_take,hn,Nat.mul_one,Nat.add_sub_cancel,List.map_take]
        rw [e];exact h2
      have HROW:=Lib.hid hrow
      have hfo : Hid (∀ k,(Value.slice (some ⟨g,0,none⟩) n cap).ownBlock = some k → vw1.ownBlock = some k):=fun k hk=>by rw [evw];exact hk
      have hmd : meas E.m.locals.toNat E.m.stack.toNat (⟨R1.states,R1.work.dropLast,R1.bad⟩ : Flow.Run) ≤ 10000000:=by
        have:=LN.out
        unfold meas at this ⊢
        simp only [List.length_dropLast]
        omega
      replace hmd:=Lib.hid hmd
      have hfr:=Lib.hid (fin_round hm ho RN.out hw)
      have hpop:=Lib.hid (popped RN.out R1.bad)
      rw [evw,hn] at f2
      rw [hn,Nat.add_sub_cancel] at ce
      rw [hn] at q1
      have s1 : IntKind.i64.wrap (((n + 1 : Nat) : Int) - 1) = (n : Int):=by rw [Num.wrap_i64,wrap64_id (by unfold Ok;omega)];omega
      have lfb:=cell_lt f1
      have lsb:=cell_lt k0
      have lpb:=cell_lt q0
      have a2 : (a : Int) < R1.states.length:=by omega
      have hap:=FN.out.some_.2
      have hmr':=Lib.hid hmr
      have RO1:=Lib.hid RO.1
      clear hga hla hs hw hrow hVs u1 u2 hmr RO hn hdl evw hfar
      go_wp2_with fail
      go_quiet (fail)
      go_wp2_with fail
      go_region
      go_wp2_with fail
      have F1:=FN.out.below (w':=wr.drewN (nq + 1)) (by exact Rd.byB)
      have FA:=F1.work (w2:=wr.drewN (nq + 1)) (l:=R1.work.dropLast) (vn:=.slice (some ⟨g,0,none⟩) n cap) (Kp.refl _ _) (row_keep (X:=fun _=>False) HROW.out ((Kp.refl _ _).drewN _) (fun _ _ e=>e)) (fun k hk=>.inl (hfo.out k hk))
      obtain ⟨W2,hW2⟩ : ∃ W2,W2 = (wr.drewN (nq + 1)).setCell ⟨E.fb,2,none⟩ (.slice (some ⟨g,0,none⟩) n cap):=⟨_,rfl⟩
      rw [← hW2] at FA ⊢
      clear hW2 F1
      obtain ⟨FB,KB,ZB⟩:=FA
      have zfb : ∀ k,zone E (.slice (some ⟨g,0,none⟩) n cap) k → k < W2.heap.size:=fun k hk=>(zone_lo FB hk).2
      replace FB:=Lib.hid FB
      replace KB:=Lib.hid KB
      replace ZB:=Lib.hid ZB
      have HVd:=HVs.out.below (X':=zone E vw1) (w':=wr.drewN (nq + 1)) (by exact Rd.byB) (fun _ _ e=>e)
      refine (clone (HVd.next (X':=fun _=>False) KB.out (fun _ _ e=>e) (fun _ _ e=>e.elim)) HSL.out.1 HSL.out.2).mono ?_
      clear HVd
      rintro e w3 ⟨xs,xk,rfl,Q1,Q2,N12,hb3⟩
      have F3:=Lib.hid (FB.out.below hb3)
      replace Q1:=Lib.hid Q1
      replace Q2:=Lib.hid Q2
      replace hb3:=Lib.hid hb3
      go_wp2_with fail
      refine (one F3.out S hmem hpop.out (v:=.agg #[xs,xk,.bool s.broken]) (s:=s) ⟨_,_,rfl,Q1.out.ts (fun b hb hz=>by have:=zfb b hz;have:=(Q1.out.lt hb).1;omega),Q2.out.ts (fun b hb hz=>by have:=zfb b hz;have:=(Q2.out.lt hb).1;omega)⟩ os.out a ha hmd.out).mono ?_
      rintro e w9 ⟨rfl,vw2,F9,K9,Z9⟩
      simp only at F9
      rw [← hrd.out] at F9
      have KD : Kp (zone E vw1) wr w9:=(((Kp.refl (zone E vw1) wr).drewN (nq + 1)).trans (kpb KB.out hb3.out) (fun y h=>.inl h)).trans K9 (fun y h=>(ZB.out y h).imp id (fun e=>by simpa using e))
      have ZD : ∀ k,zone E vw2 k → zone E vw k ∨ w.heap.size ≤ k:=fun k hk=>by
        rcases Z9 k hk with h | h
        · rcases ZB.out k h with h | h
          · exact ZN.out k h
          · right
            have:=KN.out.size
            simp at h
            omega
        · right
          have h1:=KN.out.size
          have h2:=KB.out.size
          have h3:=hb3.out.size
          simp at h2
          omega
      replace F9:=Lib.hid F9
      replace KD:=Lib.hid KD
      replace ZD:=Lib.hid ZD
      clear K9 Z9
      go_wp2_with fail
      go_roundg (meas E.m.locals.toNat E.m.stack.toNat (Flow.round E.f.classes (Chk.one E.f E.m) R1))
      case measure=>rw [← MN.out];exact hmr'.out
      case rel=>exact ⟨vw2,_,F9,RO1,Lib.hid rfl,Lib.hid (Nat.le_trans (Nat.le_of_lt hmr'.out) LN.out),Lib.hid (by rw [hfr.out];exact EN.out),Lib.hid (KN.out.trans KD.out ZN.out),ZD⟩
end
end Sck
end Go.Proofs.Ytncmhenfgbcihab
namespace Go.Proofs.Ytncmhenfgbcihab
open Go.RowKit
set_option linter.unusedSimpArgs false
set_option linter.unusedVariables false
namespace Sck
open Num Rd D Mem Hpw Flow HierW FormW
theorem info_ps : (Try.prog.info? 213).map (fun i=>(i.zero,i.size,i.bytes)) = some (some (.pointer none),1,8):=by kernel_rfl
theorem tcells_rep (n : Nat) : tcells (List.replicate n none_) = List.replicate (n * 2) (.int .i64 0):=by
  induction n with
  | zero=>rfl
  | succ n ih=>rw [List.replicate_succ,show (none_ :: List.replicate n none_) = [none_] ++ List.replicate n none_ from rfl,tcells_append,ih,show (n + 1) * 2 = n * 2 + 1 + 1 by omega,List.replicate_succ,List.replicate_succ];rfl
theorem mkTys (n : Nat) (hn : n ≤ 1000) (w : World) : ∃ w',(Instr.makeSlice 49 (.int .i64 (n : Int)) (.int .i64 (n : Int))).run Try.prog w = .ok (.slice (some ⟨w.heap.size,0,none⟩) n n) w' ∧ TR w' w.heap.size (.slice (some ⟨w.heap.size,0,none⟩) n n) (List.replicate n none_) ∧ Below w.heap.size w w' ∧ w.heap.size < w'.heap.size:=by
  obtain ⟨i,hi,hz,h1,h2⟩:=info_parts info_ty
  obtain ⟨w',hrun,hown,hg⟩:=run_make_full (P:=Try.prog) (w:=w) w.heap.size 49 51 i (.agg #[.int .i64 0,.int .i64 0]) 2 Try.underlying49 hi hz h1 .i64 .i64 n (by rw [h2];omega) (by unfold maxLen;omega) (Nat.le_refl _)
  refine ⟨w',hrun,⟨?_,TsOk.rep n⟩,?_,(World.ownsRow.lt hown _ rfl).2⟩
  · have e : (madeCells (Value.agg #[.int .i64 0, .int .i64 0]).cells (n * 2)).toList = tcells (List.replicate n none_) := by
      rw [tcells_rep]
      apply List.ext_getElem
      · simp [madeCells]
      · intro j h1 h2
        rw [List.getElem_replicate]
        have e3 : (j % 2 = 0) ∨ (j % 2 = 1):=by omega
        rcases e3 with e3 | e3 <;> simp [madeCells,Value.cells,e3]
    rw [List.length_replicate,← e]
    exact hown
  · exact (Kp.of_grown (X:=fun _=>False) hg (fun k e=>by cases e)).below (Nat.le_refl _) (fun _ e=>e.elim)
theorem mkPs (n : Nat) (hn : n ≤ 1000) (w : World) : ∃ w',(Instr.makeSlice 91 (.int .i64 (n : Int)) (.int .i64 (n : Int))).run Try.prog w = .ok (.slice (some ⟨w.heap.size,0,none⟩) n n) w' ∧ (∀ k,k < n → w'.cell? ⟨w.heap.size,k,none⟩ = some (.pointer none) ∧ w'.frozen? ⟨w.heap.size,k,none⟩ = false) ∧ Below w.heap.size w w' ∧ w.heap.size < w'.heap.size:=by
  obtain ⟨i,hi,hz,h1,h2⟩:=info_parts info_ps
  obtain ⟨w',hrun,hown,hg⟩:=run_make_full (P:=Try.prog) (w:=w) w.heap.size 91 213 i (.pointer none) 1 Try.underlying91 hi hz h1 .i64 .i64 n (by rw [h2];omega) (by unfold maxLen;omega) (Nat.le_refl _)
  refine ⟨w',hrun,fun k hk=>?_,?_,(World.ownsRow.lt hown _ rfl).2⟩
  · have hj2 : (madeCells (Value.pointer none).cells (n * 1)).toList[k]? = some (.pointer none) := by
      simp [madeCells,Value.cells,hk,Nat.mod_one]
    exact ⟨row_cell hown hj2,row_free hown⟩
  · exact (Kp.of_grown (X:=fun _=>False) hg (fun k e=>by cases e)).below (Nat.le_refl _) (fun _ e=>e.elim)
theorem tstores_snoc : ∀ (ts : List Ty) (l : List Ty) (a : Nat) (t : Ty),Chk.tstores l a (ts ++ [t]) = Flow.store (Chk.tstores l a ts) (a + Form.slots ts) t:=by
  intro ts
  induction ts with
  | nil=>intro l a t;rfl
  | cons x ts ih =>
    intro l a t
    rw [List.cons_append,Chk.tstores,ih,Chk.tstores]
    congr 1
    simp only [Form.slots];omega
theorem meas_run0 {f : Fi} {m : Me} (S : Run.FiS f) (hm : m ∈ f.methods) : meas m.locals.toNat m.stack.toNat (Chk.run0 f m) ≤ 10000000 ∧ (Chk.run0 f m).work.length ≤ 10:=by
  have M:=S.mes m hm
  have hc:=M.code
  have hl:=M.locals
  have hs:=M.stack
  have hr : RunOk f.classes.length m.locals.toNat m.stack.toNat m.code.length ⟨List.replicate m.code.length none,[],false⟩:=by
    refine ⟨by simp,fun k s hk=>?_,fun a ha=>by cases ha⟩
    simp only at hk
    rw [List.getD_eq_getElem?_getD,List.getElem?_replicate] at hk
    split at hk <;> cases hk
  have h:=(lead_ok S.may hr (a:=0) (Chk.start_gd S hm).ok).2.1
  have hk : ∀ (t n : Nat),rkL t (List.replicate n none) = n * t:=by
    intro t n
    induction n with
    | zero=>simp [rkL]
    | succ n ih=>rw [List.replicate_succ,rkL,ih];simp only [rkO];rw [Nat.succ_mul];omega
  refine ⟨Nat.le_trans h ?_,by rw [Chk.run0_is S hm];simp⟩
  unfold meas
  simp only [List.length_nil,Nat.add_zero]
  rw [hk]
  have h1 : top m.locals.toNat m.stack.toNat ≤ 2000:=by unfold top;omega
  have h2 : m.code.length * top m.locals.toNat m.stack.toNat ≤ 400 * 2000:=Nat.mul_le_mul hc.2 h1
  omega
section
variable {w : World} {f : Fi} {m : Me} {vf vm : Value}
def MethR (w : World) (p : Bool) (e : Ending) (w' : World) : Prop:=(∃ a n cap,e = .returned (.tuple #[.slice a n cap,.bool p])) ∧ Below w.heap.size w w'
set_option maxRecDepth 100000 in
set_option maxHeartbeats 4000000 in
theorem method (S : Run.FiS f) (hmem : m ∈ f.methods) (hf : VFi w w.heap.size vf f) (hm : VMe w w.heap.size vm m) : Calls Try.prog 47 #[vf,vm] w (MethR w (Chk.okMe f m)):=by
  have M:=S.mes m hmem
  have hcl:=M.code
  have hlc:=M.locals
  have hst:=M.stack
  have hpa:=M.params
  obtain ⟨vc,vs,rfl,hc,hms⟩:=hf
  obtain ⟨vp,vd,vh,rfl,oks,hp,hd,hh⟩:=hm
  have HC:=Lib.hid hc
  have HM:=Lib.hid hms
  have HP:=Lib.hid hp
  have HD:=Lib.hid hd
  have HH:=Lib.hid hh
  obtain ⟨ca,ccap,rfl,_⟩:=hc
  obtain ⟨ma,mcap,rfl,_⟩:=hms
  obtain ⟨pa,pcap,rfl,_,_,hel⟩:=hp
  obtain ⟨da,dcap,rfl,_⟩:=hd
  obtain ⟨ha,hcap,rfl,_⟩:=hh
  have HEL:=Lib.hid hel
  clear hel
  obtain ⟨lo,hlo⟩ : ∃ lo : Nat,m.locals = (lo : Int):=⟨m.locals.toNat,by omega⟩
  obtain ⟨nc,hnc⟩ : ∃ nc,nc = m.code.length:=⟨_,rfl⟩
  have HNC:=Lib.hid hnc
  rw [← hnc] at hcl ⊢
  have hlo2:=Lib.hid hlo
  rw [hlo]
  clear hnc hlo
  go_enter Try.func47,Try.ntmps47
  go_upto_region 1 with (fail)
  obtain ⟨W,hW⟩ : ∃ W,W = (w.alloc (.cells #[.slice ca f.classes.length ccap,.slice ma f.methods.length mcap] 25)).alloc (.cells #[.slice pa m.params.length pcap,.int .i64 m.ret.kind,.int .i64 m.ret.cls,.int .i64 m.stack,.int .i64 lo,.int .i64 m.regs,.slice da nc dcap,.slice ha m.handlers.length hcap] 55):=⟨_,rfl⟩
  have hbW : Below w.heap.size w W:=by rw [hW];exact Rd.byB
  have hsW : W.heap.size = w.heap.size + 1 + 1:=by rw [hW];simp
  have f0 : W.cell? ⟨w.heap.size,0,none⟩ = some (.slice ca f.classes.length ccap):=by rw [hW];go_simp
  have f1 : W.cell? ⟨w.heap.size,1,none⟩ = some (.slice ma f.methods.length mcap):=by rw [hW];go_simp
  have m0 : W.cell? ⟨w.heap.size + 1,0,none⟩ = some (.slice pa m.params.length pcap):=by rw [hW];go_simp
  have m1 : W.cell? ⟨w.heap.size + 1,1,none⟩ = some (.int .i64 m.ret.kind):=by rw [hW];go_simp
  have m2 : W.cell? ⟨w.heap.size + 1,2,none⟩ = some (.int .i64 m.ret.cls):=by rw [hW];go_simp
  have m3 : W.cell? ⟨w.heap.size + 1,3,none⟩ = some (.int .i64 m.stack):=by rw [hW];go_simp
  have m4 : W.cell? ⟨w.heap.size + 1,4,none⟩ = some (.int .i64 lo):=by rw [hW];go_simp
  have m5 : W.cell? ⟨w.heap.size + 1,5,none⟩ = some (.int .i64 m.regs):=by rw [hW];go_simp
  have m6 : W.cell? ⟨w.heap.size + 1,6,none⟩ = some (.slice da nc dcap):=by rw [hW];go_simp
  have m7 : W.cell? ⟨w.heap.size + 1,7,none⟩ = some (.slice ha m.handlers.length hcap):=by rw [hW];go_simp
  rw [← hW]
  clear hW
  obtain ⟨w2,hrun,hps,hb2,hlt2⟩:=mkPs nc (by omega) W.drew
  have hb2W : Below W.heap.size W w2:=Below.trans (by exact Rd.byB) (hb2.mono Rd.byL)
  have hs2:=hb2W.size
  have e0:=kept hb2W (cell_lt f0) f0
  have e1:=kept hb2W (cell_lt f0) f1
  have g0:=kept hb2W (cell_lt m0) m0
  have g1:=kept hb2W (cell_lt m0) m1
  have g2:=kept hb2W (cell_lt m0) m2
  have g3:=kept hb2W (cell_lt m0) m3
  have g4:=kept hb2W (cell_lt m0) m4
  have g5:=kept hb2W (cell_lt m0) m5
  have g6:=kept hb2W (cell_lt m0) m6
  have g7:=kept hb2W (cell_lt m0) m7
  have lf:=cell_lt f0
  have lm:=cell_lt m0
  have lf2 : w.heap.size < w2.heap.size:=by omega
  have lm2 : w.heap.size + 1 < w2.heap.size:=by omega
  go_region
  obtain ⟨E,hE⟩ : ∃ E : FE,E = ⟨f,m,w.heap.size,.slice ca f.classes.length ccap,.slice ma f.methods.length mcap,.slice pa m.params.length pcap,.slice da nc dcap,.slice ha m.handlers.length hcap,w2.heap.size,w2.heap.size + 1,w.heap.size + 1 + 1⟩:=⟨_,rfl⟩
  obtain ⟨W4,hW4⟩ : ∃ W4,W4 = (w2.alloc (.cells #[.slice ca f.classes.length ccap,.slice (some ⟨w.heap.size + 1 + 1,0,none⟩) nc nc,.slice none 0 0] 153)).alloc (.cells #[.pointer (some ⟨w2.heap.size,0,none⟩),.slice ca f.classes.length ccap,.slice ma f.methods.length mcap,.slice pa m.params.length pcap,.int .i64 m.ret.kind,.int .i64 m.ret.cls,.int .i64 m.stack,.int .i64 lo,.int .i64 m.regs,.slice da nc dcap,.slice ha m.handlers.length hcap,.bool false] 155):=⟨_,rfl⟩
  have hb4 : Below w2.heap.size w2 W4:=by rw [hW4];exact Rd.byB
  have hs4 : W4.heap.size = w2.heap.size + 1 + 1:=by rw [hW4];simp
  have hb2w : Below w.heap.size w w2:=hbW.trans (hb2W.mono (by omega))
  have hb4w : Below w.heap.size w W4:=hb2w.trans (hb4.mono hb2w.size)
  have hlw2 : w.heap.size + 1 + 1 < w2.heap.size:=by simp at hlt2;omega
  have F4 : Fw E W4 (.slice none 0 0) ⟨List.replicate nc none,[],false⟩:=by
    rw [hE]
    refine ⟨HC.out.mono mCls hb4w (Nat.le_refl _),HM.out.mono mMe hb4w (Nat.le_refl _),HP.out.mono mTy hb4w (Nat.le_refl _),?_,HH.out.mono mHd hb4w (Nat.le_refl _),oks,?_,?_,fun k hk=>?_,World.ownsRow_nil _ _ _ _,⟨?_,?_,?_⟩,⟨?_,?_,?_⟩,fun g hg=>by simp [Value.ownBlock] at hg,?_⟩
    · have h:=HD.out.mono mIns hb4w (Nat.le_refl _)
      rw [← HNC.out] at h;exact h
    · rw [hW4]
      simp only [List.length_replicate]
      exact (Blk.made w2 [.slice ca f.classes.length ccap,.slice (some ⟨w.heap.size + 1 + 1,0,none⟩) nc nc,.slice none 0 0] _).alloc _
    · rw [hW4]
      have h:=Blk.made (w2.alloc (.cells #[.slice ca f.classes.length ccap,.slice (some ⟨w.heap.size + 1 + 1,0,none⟩) nc nc,.slice none 0 0] 153)) [.pointer (some ⟨w2.heap.size,0,none⟩),.slice ca f.classes.length ccap,.slice ma f.methods.length mcap,.slice pa m.params.length pcap,.int .i64 m.ret.kind,.int .i64 m.ret.cls,.int .i64 m.stack,.int .i64 lo,.int .i64 m.regs,.slice da nc dcap,.slice ha m.handlers.length hcap,.bool false] 155
      have e : (w2.alloc (.cells #[.slice ca f.classes.length ccap,.slice (some ⟨w.heap.size + 1 + 1,0,none⟩) nc nc,.slice none 0 0] 153)).heap.size = w2.heap.size + 1:=by simp
      rw [e] at h
      simp only [ccells,meV,hlo2.out]
      exact h
    · simp only [List.length_replicate] at hk
      obtain ⟨h1,h2⟩:=hps k hk
      change w2.cell? ⟨W.heap.size,k,none⟩ = _ at h1
      change w2.frozen? ⟨W.heap.size,k,none⟩ = _ at h2
      rw [hsW] at h1 h2
      refine ⟨.pointer none,kept hb4 hlw2 h1,keptf hb4 hlw2 h2,?_⟩
      simp only
      rw [List.getD_eq_getElem?_getD,List.getElem?_replicate,if_pos hk]
      exact rfl
    · simp only;omega
    · simp only;omega
    · simp only;omega
    · simp only;omega
    · simp only;omega
    · simp only;omega
    · simp only [List.length_replicate];omega
  have EE : Hid (E.f = f ∧ E.m = m ∧ E.fb = w2.heap.size ∧ E.cb = w2.heap.size + 1 ∧ E.B = w.heap.size):=by
    show _
    rw [hE];exact ⟨rfl,rfl,rfl,rfl,rfl⟩
  clear hE
  replace F4:=Lib.hid F4
  have q0:=kept hb4 lm2 g0
  have q4:=kept hb4 lm2 g4
  rw [← hW4]
  clear hW4 hb4 g0 g1 g2 g3 g4 g5 g6 g7 e0 e1 f0 f1 m0 m1 m2 m3 m4 m5 m6 m7 hps hrun hb2 hlt2
  have hlo61 : lo < 61:=by have:=hlo2.out;omega
  obtain ⟨w5,hrun5,T5,hb5,hlt5⟩:=mkTys lo (by omega) W4
  have hs5:=hb5.size
  have lq:=cell_lt q0
  replace q0:=kept hb5 lq q0
  have lq5:=cell_lt q0
  replace hs4:=Lib.hid hs4
  replace T5:=Lib.hid T5
  go_wp2_with fail
  obtain ⟨W6,hW6⟩ : ∃ W6,W6 = w5.alloc (.cells #[.slice (some ⟨W4.heap.size,0,none⟩) lo lo,.slice none 0 0,.bool false] 157):=⟨_,rfl⟩
  have hb6 : Below w5.heap.size w5 W6:=by rw [hW6];exact Rd.byB
  have hs6 : W6.heap.size = w5.heap.size + 1:=by rw [hW6];simp
  have s0 : W6.cell? ⟨w5.heap.size,0,none⟩ = some (.slice (some ⟨W4.heap.size,0,none⟩) lo lo):=by rw [hW6];go_simp
  have s1 : W6.cell? ⟨w5.heap.size,1,none⟩ = some (.slice none 0 0):=by rw [hW6];go_simp
  have s2 : W6.cell? ⟨w5.heap.size,2,none⟩ = some (.bool false):=by rw [hW6];go_simp
  have T6 : Hid (TR W6 W4.heap.size (.slice (some ⟨W4.heap.size,0,none⟩) lo lo) (List.replicate lo none_)):=T5.out.below hb6
  have hb46 : Below W4.heap.size W4 W6:=hb5.trans (hb6.mono hs5)
  rw [← hW6]
  clear hW6 hb6 hb5 T5 q0 q4 hrun5
  have nown : ∀ k,(Value.slice (some ⟨W4.heap.size,0,none⟩) lo lo).ownBlock = some k → k = W4.heap.size:=fun k e=>by simpa [Value.ownBlock,eq_comm] using e
  go_loopw [8,30] (fun b c wr=>∃ n : Nat,c = .int .i64 n ∧ b = .int .i64 (Form.slots (m.params.take n) : Nat) ∧ n ≤ m.params.length ∧ Hid (TR wr W4.heap.size (.slice (some ⟨W4.heap.size,0,none⟩) lo lo) (Chk.tstores (List.replicate lo none_) 0 (m.params.take n))) ∧ Hid (Kp (fun k=>k = W4.heap.size) W6 wr)) (fun _ c _=>m.params.length - (intOf c).toNat)
  case atStart=>exact ⟨0,rfl,rfl,Nat.zero_le _,T6,Kp.refl _ _⟩
  case round =>
    obtain ⟨n,rfl,rfl,hn,TN,KN⟩:=hrel
    have r0:=KN.out.cell s0 (by omega)
    have r1:=KN.out.cell s1 (by omega)
    have r2:=KN.out.cell s2 (by omega)
    have hszr:=KN.out.size
    by_cases hlt : n < m.params.length
    · obtain ⟨pb,po,rfl,hpb,z0,z1,ok0,ok1⟩:=HEL.out n hlt
      have hty:=hpa.2 _ (List.getElem_mem hlt)
      have hsn:=Form.slots_take hlt
      have hpre : Form.slots (m.params.take n) + (if (m.params[n]).kind = 2 then 2 else 1) ≤ lo:=by
        have h1:=hlo2.out
        have h2:=hlc.1
        have h3 : Form.slots (m.params.take (n + 1)) ≤ Form.slots m.params:=by
          have e : ∀ (l r : List Ty),Form.slots l ≤ Form.slots (l ++ r):=fun l r=>by
            induction l with
            | nil=>simp [Form.slots]
            | cons x l ih=>simp only [List.cons_append,Form.slots];omega
          have:=e (m.params.take (n + 1)) (m.params.drop (n + 1))
          rwa [List.take_append_drop] at this
        omega
      have hgd:=Chk.tstores_gd f.classes.length (m.params.take n) (List.replicate lo none_) 0 (fun t ht=>hpa.2 t (List.take_subset _ _ ht)) (by simp;omega) (fun x hx=>by have:=List.eq_of_mem_replicate hx;subst this;exact wf_none _) (Chk.none_paired _)
      have htl:=Chk.tstores_len (m.params.take n) (List.replicate lo none_) 0
      rw [List.length_replicate] at htl
      have hsnoc:=tstores_snoc (m.params.take n) (List.replicate lo none_) 0 m.params[n]
      have etk : m.params.take (n + 1) = m.params.take n ++ [m.params[n]]:=List.take_succ_eq_append_getElem hlt
      rw [← etk,Nat.zero_add] at hsnoc
      obtain ⟨⟨tk,tc⟩,ht⟩ : ∃ t,Hid (m.params[n] = t):=⟨_,Lib.hid rfl⟩
      rw [ht.out] at z0 z1 ok0 ok1 hty hpre hsnoc hsn
      simp only at z0 z1 ok0 ok1 hpre hsn
      obtain ⟨q,hq⟩ : ∃ q,Hid (Form.slots (m.params.take n) = q):=⟨_,Lib.hid rfl⟩
      rw [hq.out] at hpre hsnoc hsn ⊢
      have wz0:=KN.out.cell (kept hb46 (by have:=hb4w.size;omega) (kept hb4w hpb z0)) (by have:=hb4w.size;omega)
      have wz1:=KN.out.cell (kept hb46 (by have:=hb4w.size;omega) (kept hb4w hpb z1)) (by have:=hb4w.size;omega)
      have lpb:=cell_lt wz0
      have i9 : (n : Int) < m.params.length:=by omega
      have hkd:=(Chk.wf_ty hty).2
      simp only at hkd
      obtain ⟨SZ,hSZ⟩ : ∃ SZ,Hid (Form.slots [⟨tk,tc⟩] = SZ):=⟨_,Lib.hid rfl⟩
      have hSZ2 : SZ = if tk = 2 then 2 else 1:=by rw [← hSZ.out];simp [Form.slots]
      have lr:=cell_lt r0
      replace hsnoc:=Lib.hid hsnoc
      replace hsn:=Lib.hid hsn
      replace htl:=Lib.hid htl
      replace etk:=Lib.hid etk
      replace hSZ2:=Lib.hid hSZ2
      replace hpre:=Lib.hid hpre
      clear z0 z1
      have hsw : IntKind.i64.wrap ((q : Int) + (SZ : Int)) = ((q + SZ : Nat) : Int):=by
        have h1:=hpre.out
        have h2:=hSZ2.out
        rw [Num.wrap_i64,wrap64_id (by unfold Ok;split at h2 <;> omega)];omega
      have hlr5 : w5.heap.size < wr.heap.size:=by omega
      have h4r : W4.heap.size < wr.heap.size:=by omega
      have hlo1:=Lib.hid hlo61
      clear hlo61
      go_wp2_with fail
      refine (store (b:=w5.heap.size) (o:=0) (l:=Chk.tstores (List.replicate lo none_) 0 (m.params.take n)) (vs:=.slice (some ⟨W4.heap.size,0,none⟩) lo lo) (base:=W4.heap.size) (by go_simp) (TN.out.below (by exact Rd.byB)) (fun e=>by have:=nown _ e;omega) q ⟨tk,tc⟩ ⟨ok0,ok1⟩ (by have h1:=hpre.out;rw [htl.out];split at h1 <;> omega) (fun e=>by have h1:=hpre.out;simp only at e;rw [if_pos e] at h1;rw [htl.out];omega) hgd.2 (by rw [htl.out];have:=hlo1.out;omega)).mono ?_
      rintro e w7 ⟨rfl,T7,K7⟩
      have n4r : ¬ (Value.slice (some ⟨W4.heap.size,0,none⟩) lo lo).ownBlock = some wr.heap.size:=fun e=>by have:=nown _ e;omega
      have y0 : w7.cell? ⟨wr.heap.size,0,none⟩ = some (.int .i64 tk):=K7.cell (by go_simp) n4r
      have y1 : w7.cell? ⟨wr.heap.size,1,none⟩ = some (.int .i64 tc):=K7.cell (by go_simp) n4r
      have K7' : Hid (Kp (fun k=>k = W4.heap.size) W6 w7):=(KN.out.alloc _).trans K7 (fun y h=>.inl (nown y h))
      have ly:=cell_lt y0
      rw [← hsnoc.out] at T7
      replace T7:=Lib.hid T7
      clear K7
      go_wp2_with (go_at_call 92;refine (slotsV _ [⟨tk,tc⟩] SZ _ (Ts.one (by go_simp) (by go_simp) ok0 ok1) (by simp) hSZ.out).mono ?_;rintro e w8 ⟨rfl,hb8⟩;have hb8' : Below w7.heap.size w7 w8:=Below.trans (by exact Rd.byB) (hb8.mono Rd.byL))
      refine ⟨⟨n + 1,by simp,?_,hlt,T7.out.below hb8',Lib.hid (kpb K7'.out hb8')⟩,by simp only [intOf];omega⟩
      rw [hsn.out,hSZ2.out]
      simp
    · obtain rfl : n = m.params.length:=by omega
      rw [List.take_length] at TN ⊢
      obtain ⟨rfl,rfl,e3,e4,e5⟩:=EE.out
      have hbr : Below W4.heap.size W4 wr:=hb46.trans (KN.out.below (by have:=hb46.size;omega) (fun k e=>by omega))
      have FR:=F4.out.below hbr
      have RK : RunOk E.f.classes.length E.m.locals.toNat E.m.stack.toNat E.m.code.length ⟨List.replicate nc none,[],false⟩:=by
        refine ⟨by simp [HNC.out],fun k s hk=>?_,fun a ha=>by cases ha⟩
        simp only at hk
        rw [List.getD_eq_getElem?_getD,List.getElem?_replicate] at hk
        split at hk <;> cases hk
      have hlo3 : E.m.locals.toNat = lo:=by have:=hlo2.out;omega
      have SG:=(Chk.start_gd S hmem).ok
      have zlr : ∀ k,zone E (.slice none 0 0) k → k < W4.heap.size:=fun k hk=>(zone_lo F4.out hk).2
      have hVS : VSt wr (zone E (.slice none 0 0)) (.agg #[.slice (some ⟨W4.heap.size,0,none⟩) lo lo,.slice none 0 0,.bool false]) (Chk.start E.m):=by
        refine ⟨_,_,rfl,?_,TS.nil _ _⟩
        unfold Chk.start
        rw [hlo3]
        exact TN.out.ts (fun g hg hz=>by have:=nown g hg;have:=zlr g hz;omega)
      have hLE : Hid (∀ (V : World),Below wr.heap.size wr V → Calls Try.prog 93 #[.pointer (some ⟨w2.heap.size,0,none⟩),.int .i64 0,.agg #[.slice (some ⟨W4.heap.size,0,none⟩) lo lo,.slice none 0 0,.bool false]] V (LeadR E (.slice none 0 0) V (Chk.run0 E.f E.m))):=fun V hV=>by
        have h:=lead (FR.below hV) S.may RK (hVS.below (X':=zone E (.slice none 0 0)) hV (fun _ _ e=>e)) SG (by omega) (by omega) 0 (by simp)
        rw [e3] at h
        unfold Chk.run0
        rw [← HNC.out]
        exact h
      have hRU : Hid (∀ (V : World) (vn : Value),Fw E V vn (Chk.run0 E.f E.m) → Calls Try.prog 94 #[.pointer (some ⟨w2.heap.size,0,none⟩),.func (.func 95) #[.pointer (some ⟨w2.heap.size + 1,0,none⟩)] #[]] V (LeadR E vn V (Chk.final E.f E.m))):=fun V vn hF=>by
        have h:=run hF S hmem (Chk.run0_ok S hmem) (meas_run0 S hmem).1
        rw [e3,e4] at h
        exact h
      have c0:=(FR.ck 0 (by simp [ccells,meV])).1
      simp [ccells,meV] at c0
      rw [e3,e4] at c0
      have lc:=cell_lt c0
      have hbwr : Below w.heap.size w wr:=hb4w.trans (hbr.mono (by have:=hb4w.size;omega))
      have zlw : ∀ k,zone E (.slice none 0 0) k → w.heap.size ≤ k:=fun k hk=>by have:=(zone_lo F4.out hk).1;omega
      clear FR RK SG hVS F4 TN KN s0 s1 s2 T6 hb46 HEL HP HM HC HD HH
      go_wp2_with fail
      go_still_tail 5,(by kernel_rfl)
      go_wp2_with fail
      refine (hLE.out wr.drew (by exact Rd.byB)).mono ?_
      rintro e wa ⟨rfl,vw1,F1,K1,Z1⟩
      have hba : Below w.heap.size w wa:=(Below.trans hbwr (by exact Rd.byB)).trans (K1.below (by have:=hbwr.size;simpa using this) zlw)
      have zl1 : ∀ k,zone E vw1 k → w.heap.size ≤ k:=fun k hk=>by have:=(zone_lo F1 hk).1;omega
      have c0a:=(F1.ck 0 (by simp [ccells,meV])).1
      simp [ccells,meV] at c0a
      rw [e3,e4] at c0a
      clear K1 Z1
      have HF1:=Lib.hid F1
      clear F1
      go_wp2_with fail
      refine (hRU.out wa vw1 HF1.out).mono ?_
      rintro e wb ⟨rfl,vw2,F2,K2,Z2⟩
      have hbb : Below w.heap.size w wb:=hba.trans (K2.below hba.size zl1)
      have c0b:=(F2.ck 0 (by simp [ccells,meV])).1
      have c11b:=(F2.ck 11 (by simp [ccells,meV])).1
      have f1b:=(F2.fl 1 (by simp)).1
      simp [ccells,meV] at c0b c11b
      simp only [List.getElem_cons_zero,List.getElem_cons_succ] at f1b
      rw [e3,e4] at c0b
      rw [e4] at c11b
      rw [e3] at f1b
      clear K2 Z2 F2
      go_wp2_with fail
      go_region
      go_wp2
      go_ret2
      refine ⟨⟨_,_,_,rfl⟩,by exact Rd.byB⟩
end
end Sck
end Go.Proofs.Ytncmhenfgbcihab
namespace Go.Proofs.Ytncmhenfgbcihab
open Go.RowKit
set_option linter.unusedSimpArgs false
set_option linter.unusedVariables false
namespace FormW
open Num Rd D HierW
theorem ret_bool3 {a b c d e f : Bool} (h1 : a = d) (h2 : b = e) (h3 : c = f) : Ending.returned (.tuple #[.bool a,.bool b,.bool c]) = .returned (.tuple #[.bool d,.bool e,.bool f]):=by rw [h1,h2,h3]
set_option maxRecDepth 100000 in
set_option maxHeartbeats 8000000 in
theorem fields (f : Fi) (m : Me) (i : Ins) (vf vm vi : Value) (w : World) (hf : VFi w w.heap.size vf f) (hm : VMe w w.heap.size vm m) (hi : VIns w w.heap.size vi i) (hloc : 0 ≤ m.locals ∧ m.locals ≤ 60) :
    Calls Try.prog 142 #[vf,vm,vi] w fun e w'=>e = .returned (.tuple #[.bool (Form.sa f.classes f.methods.length m.code.length m.locals i),.bool (Form.sb f.classes i),.bool (Form.sn i)]) ∧ Below w.heap.size w w':=by
  obtain ⟨vc,vme,rfl,⟨ca,ccap,rfl,clc,ccc,cel⟩,⟨ma,mcap,rfl,mlc,mcc,_⟩⟩:=hf
  obtain ⟨vp,vcd,vh,rfl,⟨_,_,_,okl,_⟩,_,⟨da,dcap,rfl,dlc,dcc,_⟩,_⟩:=hm
  obtain ⟨va,rfl,⟨oop,oa,ob,oc,on⟩,_⟩:=hi
  obtain ⟨op,a,b,c,n,args⟩:=i
  simp only at *
  unfold Ok at *
  obtain ⟨hloc1,hloc2⟩:=hloc
  go_enter Try.func142,Try.ntmps142
  go_wp2
  go_quiet (fail)
  refine name_world (fun W=>Below w.heap.size w W ∧ w.heap.size + 3 ≤ W.heap.size ∧
    (W.cell? ⟨w.heap.size,0,none⟩ = some (.slice ca f.classes.length ccap) ∧ W.cell? ⟨w.heap.size,1,none⟩ = some (.slice ma f.methods.length mcap)) ∧
    (W.cell? ⟨w.heap.size + 1,4,none⟩ = some (.int .i64 m.locals) ∧ W.cell? ⟨w.heap.size + 1,6,none⟩ = some (.slice da m.code.length dcap)) ∧
    W.cell? ⟨w.heap.size + 1 + 1,0,none⟩ = some (.int .i64 op) ∧ W.cell? ⟨w.heap.size + 1 + 1,1,none⟩ = some (.int .i64 a) ∧ W.cell? ⟨w.heap.size + 1 + 1,2,none⟩ = some (.int .i64 b) ∧ W.cell? ⟨w.heap.size + 1 + 1,4,none⟩ = some (.int .i64 n))
    ?_ ?_
  · refine ⟨Rd.byB,?_,⟨?_,?_⟩,⟨?_,?_⟩,?_,?_,?_,?_⟩
    all_goals go_simp
  rintro W ⟨hbw,hsz,⟨f1,f2⟩,⟨m1,m2⟩,i1,i2,i3,i4⟩
  have hbs:=Lib.hid hbw
  go_wp2_with (go_at_call 89;refine (sin _ _ _ _).mono ?_;rintro e w' ⟨rfl,rfl⟩)
  all_goals first
    | (go_ret3
       refine ⟨ret_bool3 ?_ ?_ ?_,Rd.byB⟩
       all_goals go_tidy
       all_goals simp_all [Form.sa,Form.sb,Form.sn]
       all_goals first | rfl | (intros;omega) | (rw [wrap64_id (wrap32_ok _),Bool.eq_iff_iff];simp;exact eq_comm))
    | skip
  · have o1 : Ok b:=ob
    have o2 : Ok 0:=by unfold Ok;omega
    obtain ⟨S,hS⟩ : ∃ S,Hid (Form.slots [⟨b,0⟩] = S):=⟨_,rfl⟩
    have hS' : Hid ((S : Int) = Form.wide b):=by show _ = _;rw [← hS.out];exact slots_one b 0
    have hS2 : (S : Int) ≤ 2:=by rw [hS'.out];unfold Form.wide;split <;> omega
    go_region_held3 (fun w'=>w'.cell? ⟨w.heap.size + 1 + 1,1,none⟩ = some (.int .i64 a) ∧ w'.cell? ⟨w.heap.size + 1 + 1,2,none⟩ = some (.int .i64 b) ∧ w'.cell? ⟨w.heap.size + 1,4,none⟩ = some (.int .i64 m.locals))
      (first | exact ⟨i2,i3,m1⟩ | exact ⟨k2,k3,k1⟩ | go_keep)
      (first
      | (go_at_call 92;refine (slotsV _ [⟨b,0⟩] S _ (Ts.one (by go_simp) (by go_simp) o1 o2) (by simp) hS.out).mono ?_;rintro e w2 ⟨rfl,hb2⟩;have hbW : Below W.heap.size W w2:=Below.trans Rd.byB (hb2.mono (by simp));have k1:=kept hbW (by omega) m1;have k2:=kept hbW (by omega) i2;have k3:=kept hbW (by omega) i3)
      | (go_at_call 89;refine (sin _ _ _ _).mono ?_;rintro e w3 ⟨rfl,rfl⟩))
    go_wp2
    go_ret3
    have hS3:=hS'.out
    have hbW2 : Below w.heap.size w w2:=hbs.out.trans (hbW.mono hbs.out.size)
    refine ⟨ret_bool3 ?_ ?_ ?_,hbW2⟩
    all_goals go_tidy
    · rw [Num.wrap_i64,Num.wrap_i64,wrap64_id (show Ok (m.locals + 1) from ⟨by omega,by omega⟩),wrap64_id (show Ok (m.locals + 1 - S) from ⟨by omega,by omega⟩),hS3]
      simp_all [Form.sa]
    · simp_all [Form.sb]
    · simp_all [Form.sn]
      try rfl
  · have o1 : Ok b:=ob
    have o2 : Ok 0:=by unfold Ok;omega
    obtain ⟨S,hS⟩ : ∃ S,Hid (Form.slots [⟨b,0⟩] = S):=⟨_,rfl⟩
    have hS' : Hid ((S : Int) = Form.wide b):=by show _ = _;rw [← hS.out];exact slots_one b 0
    have hS2 : (S : Int) ≤ 2:=by rw [hS'.out];unfold Form.wide;split <;> omega
    go_region_held3 (fun w'=>w'.cell? ⟨w.heap.size + 1 + 1,1,none⟩ = some (.int .i64 a) ∧ w'.cell? ⟨w.heap.size + 1 + 1,2,none⟩ = some (.int .i64 b) ∧ w'.cell? ⟨w.heap.size + 1,4,none⟩ = some (.int .i64 m.locals))
      (first | exact ⟨i2,i3,m1⟩ | exact ⟨k2,k3,k1⟩ | go_keep)
      (first
      | (go_at_call 92;refine (slotsV _ [⟨b,0⟩] S _ (Ts.one (by go_simp) (by go_simp) o1 o2) (by simp) hS.out).mono ?_;rintro e w2 ⟨rfl,hb2⟩;have hbW : Below W.heap.size W w2:=Below.trans Rd.byB (hb2.mono (by simp));have k1:=kept hbW (by omega) m1;have k2:=kept hbW (by omega) i2;have k3:=kept hbW (by omega) i3)
      | (go_at_call 89;refine (sin _ _ _ _).mono ?_;rintro e w3 ⟨rfl,rfl⟩))
    go_wp2
    go_ret3
    have hS3:=hS'.out
    have hbW2 : Below w.heap.size w w2:=hbs.out.trans (hbW.mono hbs.out.size)
    refine ⟨ret_bool3 ?_ ?_ ?_,hbW2⟩
    all_goals go_tidy
    · rw [Num.wrap_i64,Num.wrap_i64,wrap64_id (show Ok (m.locals + 1) from ⟨by omega,by omega⟩),wrap64_id (show Ok (m.locals + 1 - S) from ⟨by omega,by omega⟩),hS3]
      simp_all [Form.sa]
    · simp_all [Form.sb]
    · simp_all [Form.sn]
      try rfl
  · obtain ⟨p,hp⟩ : ∃ p,Hid (Form.rng a 0 f.classes.length = p):=⟨_,rfl⟩
    rw [hp.out]
    cases p
    · have hr:=hp.out
      go_quiet (fail)
      go_wp2
      go_ret3
      refine ⟨ret_bool3 ?_ ?_ ?_,Rd.byB⟩
      all_goals go_tidy
      all_goals simp_all [Form.sa,Form.sb,Form.sn]
      all_goals first | rfl | (intros;omega)
    · have hr:=hp.out
      have hr2 : 0 ≤ a ∧ a < f.classes.length:=by simpa [Form.rng] using hr
      obtain ⟨k,rfl⟩:=Int.eq_ofNat_of_zero_le hr2.1
      have hk : k < f.classes.length:=by omega
      obtain ⟨b0,o0,rfl,hb0,he⟩:=cel k hk
      have hnf : Hid (Form.nf f.classes (k : Int) = (f.classes[k]).fields.length):=by
        show _ = _
        rw [Form.nf,Int.toNat_natCast,Hier.at_eq hk]
      obtain ⟨x,hx⟩:=at_of hk
      rw [hx.out] at he hnf
      obtain ⟨_,_,fv,g3,fa,fcap,rfl,flc,fcc,_⟩:=he
      have g4:=kept hbw hb0 g3
      clear cel g3
      have hr3:=hr2.2
      go_quiet ((go_at_call 89;exact Calls.quiet_of_same (sin' _ _ _ _)))
      go_wp2
      go_ret3
      refine ⟨ret_bool3 ?_ ?_ ?_,Rd.byB⟩
      all_goals go_tidy
      all_goals simp_all [Form.sa,Form.sb,Form.sn,hnf.out]
      all_goals first | rfl | (intros;omega)
  · obtain ⟨p,hp⟩ : ∃ p,Hid (Form.rng a 0 f.classes.length = p):=⟨_,rfl⟩
    rw [hp.out]
    cases p
    · have hr:=hp.out
      go_quiet (fail)
      go_wp2
      go_ret3
      refine ⟨ret_bool3 ?_ ?_ ?_,Rd.byB⟩
      all_goals go_tidy
      all_goals simp_all [Form.sa,Form.sb,Form.sn]
      all_goals first | rfl | (intros;omega)
    · have hr:=hp.out
      have hr2 : 0 ≤ a ∧ a < f.classes.length:=by simpa [Form.rng] using hr
      obtain ⟨k,rfl⟩:=Int.eq_ofNat_of_zero_le hr2.1
      have hk : k < f.classes.length:=by omega
      obtain ⟨b0,o0,rfl,hb0,he⟩:=cel k hk
      have hnf : Hid (Form.nf f.classes (k : Int) = (f.classes[k]).fields.length):=by
        show _ = _
        rw [Form.nf,Int.toNat_natCast,Hier.at_eq hk]
      obtain ⟨x,hx⟩:=at_of hk
      rw [hx.out] at he hnf
      obtain ⟨_,_,fv,g3,fa,fcap,rfl,flc,fcc,_⟩:=he
      have g4:=kept hbw hb0 g3
      clear cel g3
      have hr3:=hr2.2
      go_quiet ((go_at_call 89;exact Calls.quiet_of_same (sin' _ _ _ _)))
      go_wp2
      go_ret3
      refine ⟨ret_bool3 ?_ ?_ ?_,Rd.byB⟩
      all_goals go_tidy
      all_goals simp_all [Form.sa,Form.sb,Form.sn,hnf.out]
      all_goals first | rfl | (intros;omega)
end FormW
end Go.Proofs.Ytncmhenfgbcihab
namespace Go.Proofs.Ytncmhenfgbcihab
open Go.RowKit
set_option linter.unusedSimpArgs false
set_option linter.unusedVariables false
namespace FormW
open Num Rd D HierW
set_option maxRecDepth 100000 in
set_option maxHeartbeats 8000000 in
theorem head (f : Fi) (m : Me) (most : Int) (vf vm : Value) (w : World) (hf : VFi w w.heap.size vf f) (hm : VMe w w.heap.size vm m) (hmost : 0 ≤ most ∧ most ≤ 100000) :
    Calls Try.prog 111 #[vf,vm,.int .i64 most] w fun e w'=>e = .returned (.bool (Form.head f.classes.length m most)) ∧ Below w.heap.size w w':=by
  obtain ⟨vc,vme,rfl,⟨ca,ccap,rfl,clc,ccc,_⟩,⟨ma,mcap,rfl,mlc,mcc,_⟩⟩:=hf
  obtain ⟨vp,vcd,vh,rfl,⟨ok1,ok2,_,_,_⟩,⟨pa,pcap,rfl,plc,pcc,pel⟩,⟨da,dcap,rfl,dlc,dcc,_⟩,⟨ha,hcap,rfl,hlc,hcc,hel⟩⟩:=hm
  obtain ⟨most1,most2⟩:=hmost
  unfold Ok at ok1 ok2
  obtain ⟨rk,hrk⟩ : ∃ rk,Hid (m.ret.kind = rk):=⟨_,rfl⟩
  obtain ⟨rc,hrc⟩ : ∃ rc,Hid (m.ret.cls = rc):=⟨_,rfl⟩
  rw [hrk.out] at ok1
  rw [hrc.out] at ok2
  rw [hrk.out,hrc.out]
  go_enter Try.func111,Try.ntmps111
  go_wp2_with fail
  refine name_world (fun W=>Below w.heap.size w W ∧ w.heap.size + 2 ≤ W.heap.size ∧
    (W.cell? ⟨w.heap.size,0,none⟩ = some (.slice ca f.classes.length ccap) ∧ W.cell? ⟨w.heap.size,1,none⟩ = some (.slice ma f.methods.length mcap)) ∧
    W.cell? ⟨w.heap.size + 1,0,none⟩ = some (.slice pa m.params.length pcap) ∧ W.cell? ⟨w.heap.size + 1,1,none⟩ = some (.int .i64 rk) ∧ W.cell? ⟨w.heap.size + 1,2,none⟩ = some (.int .i64 rc) ∧ W.cell? ⟨w.heap.size + 1,6,none⟩ = some (.slice da m.code.length dcap) ∧ W.cell? ⟨w.heap.size + 1,7,none⟩ = some (.slice ha m.handlers.length hcap))
    ?_ ?_
  · refine ⟨Rd.byB,?_,⟨?_,?_⟩,?_,?_,?_,?_,?_⟩
    all_goals go_simp
  rintro W ⟨hbw,hsz,⟨f1,f2⟩,m0,m1,m2,m6,m7⟩
  have hbs:=hbw.size
  have hbW:=Lib.hid hbw
  go_loopw [14] (fun i wr=>∃ k : Nat,k ≤ m.params.length ∧ i = .int .i64 k ∧ Below W.heap.size W wr ∧ Hid (∀ j (h : j < m.params.length),j < k → Hier.ty f.classes.length m.params[j] = true)) (fun i _=>m.params.length - (intOf i).toNat)
  case atStart=>exact ⟨0,by omega,rfl,Below.refl _ _,fun j _ h=>absurd h (by omega)⟩
  case round =>
    obtain ⟨k,hk,rfl,hr,hall⟩:=hrel
    have hrs:=hr.size
    have n1 : w.heap.size < wr.heap.size:=by omega
    have n2 : w.heap.size + 1 < wr.heap.size:=by omega
    have a1:=kept hr (by omega) f1
    have a2:=kept hr (by omega) m0
    have a3:=kept hr (by omega) m1
    have a4:=kept hr (by omega) m2
    have a5:=kept hr (by omega) m6
    have a6:=kept hr (by omega) m7
    by_cases hlt : k < m.params.length
    · obtain ⟨b,o,rfl,hb,he⟩:=pel k hlt
      have hyes:=Lib.hid (Form.all_step (p:=Hier.ty f.classes.length) hall.out hlt)
      have hno:=Lib.hid (Form.head_param (nc:=f.classes.length) (most:=most) hlt)
      obtain ⟨t,ht⟩:=at_of hlt
      rw [ht.out] at he hyes hno
      obtain ⟨g1,g2,_,_⟩:=he
      have hwr : Below w.heap.size w wr:=hbw.trans (hr.mono hbs)
      have k1:=kept hwr hb g1
      have k2:=kept hwr hb g2
      clear pel g1 g2 hel f1 f2 m0 m1 m2 m6 m7 a2 a3 a4 a5 a6
      obtain ⟨tb,htb⟩ : ∃ tb,Hid (Hier.ty f.classes.length t = tb):=⟨_,rfl⟩
      cases tb
      · go_wp2_with (go_at_call 141;refine (type _ _ _ t _).mono ?_;rw [htb.out];rintro e w1 ⟨rfl,hb1⟩)
        go_ret
        exact ⟨ret_bool (hno.out htb.out).symm,(hwr.alloc (by omega) _).trans (hb1.mono (by simp;omega))⟩
      · go_wp2_with (go_at_call 141;refine (type _ _ _ t _).mono ?_;rw [htb.out];rintro e w1 ⟨rfl,hb1⟩)
        go_roundw
        case rel=>exact ⟨k + 1,by omega,by go_num,(hr.alloc (by omega) _).trans (hb1.mono (by simp;omega)),hyes.out htb.out⟩
        case measure=>simp [intOf];omega
    · obtain ⟨wo,rfl⟩ : ∃ wo : World,wo = wr:=⟨_,rfl⟩
      have hpar:=Lib.hid (Form.all_of (fun j hj=>hall.out j hj (by omega)))
      have hwo : Below w.heap.size w wo:=hbw.trans (hr.mono hbs)
      clear pel hall f1 f2 m0 m1 m2 m6 m7
      go_wp2
      go_loopw [27] (fun i wr=>∃ k : Nat,k ≤ m.handlers.length ∧ i = .int .i64 k ∧ Below wo.heap.size wo wr ∧ Hid (∀ j (h : j < m.handlers.length),j < k → Form.hd f.classes.length m.code.length m.handlers[j] = true)) (fun i _=>m.handlers.length - (intOf i).toNat)
      case atStart=>exact ⟨0,by omega,rfl,Below.refl _ _,fun j _ h=>absurd h (by omega)⟩
      case round =>
        obtain ⟨k,hk,rfl,hq,hall⟩:=hrel
        have hqs:=hq.size
        have n3 : w.heap.size < wr.heap.size:=by omega
        have n4 : w.heap.size + 1 < wr.heap.size:=by omega
        have c1:=kept hq (by omega) a1
        have c2:=kept hq (by omega) a2
        have c3:=kept hq (by omega) a3
        have c4:=kept hq (by omega) a4
        have c5:=kept hq (by omega) a5
        have c6:=kept hq (by omega) a6
        clear a1 a2 a3 a4 a5 a6
        have hwr : Below w.heap.size w wr:=hwo.trans (hq.mono (by omega))
        by_cases hlt : k < m.handlers.length
        · obtain ⟨b,o,rfl,hb,he⟩:=hel k hlt
          have hyes:=Lib.hid (Form.all_step (p:=Form.hd f.classes.length m.code.length) hall.out hlt)
          have hno:=Lib.hid (Form.head_hd (nc:=f.classes.length) (most:=most) hlt)
          obtain ⟨t,ht⟩:=at_of hlt
          rw [ht.out] at he hyes hno
          obtain ⟨g1,g2,g3,g4,_⟩:=he
          have k1:=kept hwr hb g1
          have k2:=kept hwr hb g2
          have k3:=kept hwr hb g3
          have k4:=kept hwr hb g4
          obtain ⟨lo,hi,go,cl⟩:=t
          simp only at k1 k2 k3 k4
          clear hel g1 g2 g3 g4 c2 c3 c4 c6
          have hq2:=Lib.hid hq
          have hwr2:=Lib.hid hwr
          go_wp2_with (go_at_call 89;refine (sin _ _ _ _).mono ?_;rintro e w1 ⟨rfl,rfl⟩)
          all_goals first
            | (go_ret
               refine ⟨ret_bool (hno.out ?_).symm,Rd.byB⟩
               go_tidy
               rw [Bool.eq_false_iff]
               simp only [Form.hd,Bool.and_eq_true,decide_eq_true_eq,ne_eq]
               rintro ⟨⟨z1,z2⟩,z3⟩
               first | omega | (simp_all;done) | (simp only [z2,z3,Bool.not_true,Bool.false_eq_true,or_false] at *;omega))
            | skip
          go_roundw
          case rel =>
            refine ⟨k + 1,by omega,by go_num,hq2.out.alloc (by omega) _,hyes.out ?_⟩
            go_tidy
            simp only [Form.hd,Bool.and_eq_true,decide_eq_true_eq]
            refine ⟨⟨⟨by omega,by omega,by omega⟩,?_⟩,?_⟩
            · assumption
            · simp_all
          case measure=>simp [intOf];omega
        · have hge : m.handlers.length ≤ k:=by omega
          have hh : m.handlers.all (Form.hd f.classes.length m.code.length) = true:=Form.all_of (fun j hj=>hall.out j hj (by omega))
          have hhd:=Lib.hid (Form.head_rest (nc:=f.classes.length) (most:=most) hpar.out hh)
          clear hh
          clear hel hall
          obtain ⟨tr,htr⟩ : ∃ tr,Hid (Hier.ty f.classes.length ⟨rk,rc⟩ = tr):=⟨_,rfl⟩
          obtain ⟨rr,hrr⟩ : ∃ rr,Hid (Form.rng m.code.length 1 (most + 1) = rr):=⟨_,rfl⟩
          by_cases d1 : m.params.length ≤ 4
          · have d1' : (m.params.length : Int) ≤ 4:=by omega
            have hq:=fun w=>run_eql_ty rk rc 0 0 w
            have hg:=fun op x y xs ys w=>run_guard_ty op x y xs ys w
            have hnr : Hid (Form.ret f.classes.length m.ret = (decide (rk = 0 ∧ rc = 0) || tr)):=by
              show _ = _
              rw [← htr.out,← hrk.out,← hrc.out];rfl
            have hrr' : Hid (Form.head f.classes.length m most = (true && (decide (rk = 0 ∧ rc = 0) || tr) && rr && decide (m.handlers.length ≤ 8))):=by
              show _ = _
              rw [hhd.out,decide_eq_true d1,hnr.out,hrr.out]
            clear hhd hnr
            cases tr <;> cases rr
            all_goals
              go_wp2_with (first
                | (go_at_call 141;refine (type _ _ _ ⟨rk,rc⟩ _).mono ?_;rw [htr.out];rintro e w1 ⟨rfl,hb1⟩;have y5:=kept hb1 (by omega) c5;have y6:=kept hb1 (by omega) c6)
                | (go_at_call 89;refine (sinV _ _ _ _ _ hrr.out).mono ?_;rintro e w2 ⟨rfl,rfl⟩))
              all_goals go_ret
              all_goals refine ⟨ret_bool ?_,?_⟩
              all_goals first
                | exact hwr
                | exact hwr.trans (hb1.mono (by omega))
                | skip
              all_goals go_tidy
              all_goals rw [hrr'.out]
              all_goals simp_all
              all_goals first | rfl | (intros;omega)
          · have d1' : ¬ (m.params.length : Int) ≤ 4:=by omega
            have e1 : Hid (Form.head f.classes.length m most = false):=by
              show _ = _
              rw [hhd.out,decide_eq_false d1];rfl
            go_wp2_with fail
            go_ret
            refine ⟨ret_bool ?_,hwr⟩
            go_tidy
            rw [e1.out]
end FormW
end Go.Proofs.Ytncmhenfgbcihab
namespace Go.Proofs.Ytncmhenfgbcihab
open Go.RowKit
set_option linter.unusedSimpArgs false
set_option linter.unusedVariables false
namespace FormW
open Num Rd D HierW
theorem headV (f : Fi) (m : Me) (most : Int) (p : Bool) (vf vm : Value) (w : World) (hp : Form.head f.classes.length m most = p) (hf : VFi w w.heap.size vf f) (hm : VMe w w.heap.size vm m) (hmost : 0 ≤ most ∧ most ≤ 100000) :
    Calls Try.prog 111 #[vf,vm,.int .i64 most] w fun e w'=>e = .returned (.bool p) ∧ Below w.heap.size w w':=by
  subst hp;exact head f m most vf vm w hf hm hmost
theorem fieldsV (f : Fi) (m : Me) (i : Ins) (pa pb pn : Bool) (vf vm vi : Value) (w : World) (ha : Form.sa f.classes f.methods.length m.code.length m.locals i = pa) (hb : Form.sb f.classes i = pb) (hn : Form.sn i = pn)
    (hf : VFi w w.heap.size vf f) (hm : VMe w w.heap.size vm m) (hi : VIns w w.heap.size vi i) (hloc : 0 ≤ m.locals ∧ m.locals ≤ 60) :
    Calls Try.prog 142 #[vf,vm,vi] w fun e w'=>e = .returned (.tuple #[.bool pa,.bool pb,.bool pn]) ∧ Below w.heap.size w w':=by
  subst ha hb hn;exact fields f m i vf vm vi w hf hm hi hloc
def B2 (w : World) (n : Nat) (v0 v1 : Value) : Prop:=w.cell? ⟨n,0,none⟩ = some v0 ∧ w.cell? ⟨n,1,none⟩ = some v1
def B8 (w : World) (n : Nat) (v0 v1 v2 v3 v4 v5 v6 v7 : Value) : Prop:=w.cell? ⟨n,0,none⟩ = some v0 ∧ w.cell? ⟨n,1,none⟩ = some v1 ∧ w.cell? ⟨n,2,none⟩ = some v2 ∧ w.cell? ⟨n,3,none⟩ = some v3 ∧
  w.cell? ⟨n,4,none⟩ = some v4 ∧ w.cell? ⟨n,5,none⟩ = some v5 ∧ w.cell? ⟨n,6,none⟩ = some v6 ∧ w.cell? ⟨n,7,none⟩ = some v7
theorem B2.next {w w' : World} {B n : Nat} {v0 v1 : Value} (h : B2 w n v0 v1) (hb : Below B w w') (hlt : n < B) : B2 w' n v0 v1:=⟨kept hb hlt h.1,kept hb hlt h.2⟩
theorem B8.next {w w' : World} {B n : Nat} {v0 v1 v2 v3 v4 v5 v6 v7 : Value} (h : B8 w n v0 v1 v2 v3 v4 v5 v6 v7) (hb : Below B w w') (hlt : n < B) : B8 w' n v0 v1 v2 v3 v4 v5 v6 v7:=by
  obtain ⟨h0,h1,h2,h3,h4,h5,h6,h7⟩:=h
  exact ⟨kept hb hlt h0,kept hb hlt h1,kept hb hlt h2,kept hb hlt h3,kept hb hlt h4,kept hb hlt h5,kept hb hlt h6,kept hb hlt h7⟩
set_option maxRecDepth 100000 in
set_option maxHeartbeats 8000000 in
theorem method (f : Fi) (m : Me) (vf vm : Value) (w : World) (hf : VFi w w.heap.size vf f) (hm : VMe w w.heap.size vm m) :
    Calls Try.prog 90 #[vf,vm] w fun e w'=>e = .returned (.bool (Form.sme f m)) ∧ Below w.heap.size w w':=by
  have hf0:=hf
  have hm0:=hm
  obtain ⟨vc,vme,rfl,_,_⟩:=hf
  obtain ⟨vp,vcd,vh,rfl,⟨ok1,ok2,ok3,ok4,ok5⟩,hpar,⟨da,dcap,rfl,dlc,dcc,del⟩,_⟩:=hm
  unfold Ok at ok1 ok2 ok3 ok4 ok5
  obtain ⟨pa,pcap,rfl,plc,pcc,pel⟩:=hpar
  have hts0 : Ts w (.slice pa m.params.length pcap) m.params:=⟨pa,pcap,rfl,plc,pcc,pel⟩
  clear pel
  obtain ⟨S,hS⟩ : ∃ S,Hid (Form.slots m.params = S):=⟨_,rfl⟩
  obtain ⟨ph,hph⟩ : ∃ p,Hid (Form.head f.classes.length m 400 = p):=⟨_,rfl⟩
  obtain ⟨pst,hps⟩ : ∃ p,Hid (Form.rng m.stack 0 31 = p):=⟨_,rfl⟩
  obtain ⟨pl,hpl⟩ : ∃ p,Hid (Form.rng m.locals S 61 = p):=⟨_,rfl⟩
  have hsme : Hid (Form.sme f m = (ph && decide (m.regs = 0) && pst && pl && m.code.all (Form.sins f.classes f.methods.length m.code.length m.locals))):=by
    show _ = _
    rw [← hph.out,← hps.out,← hpl.out,← hS.out];rfl
  go_enter Try.func90,Try.ntmps90
  go_wp2_with fail
  refine name_world (fun W=>Below w.heap.size w W ∧ w.heap.size + 2 ≤ W.heap.size ∧ B2 W w.heap.size vc vme ∧ B8 W (w.heap.size + 1) (.slice pa m.params.length pcap) (.int .i64 m.ret.kind) (.int .i64 m.ret.cls) (.int .i64 m.stack) (.int .i64 m.locals) (.int .i64 m.regs) (.slice da m.code.length dcap) vh)
    ?_ ?_
  · refine ⟨Rd.byB,?_,⟨?_,?_⟩,⟨?_,?_,?_,?_,?_,?_,?_,?_⟩⟩
    all_goals go_simp
  rintro W ⟨hbw,hsz,b2,b8⟩
  have hbs:=hbw.size
  have hfW:=hf0.mono hbw hbs
  have hmW:=hm0.mono hbw hbs
  have htW:=hts0.next hbw
  obtain ⟨f1,f2⟩:=b2
  obtain ⟨m0,m1,m2,m3,m4,m5,m6,m7⟩:=b8
  cases ph
  ·
    refine wp_region_held_drew (S:=fun w'=>(w'.cell? ⟨w.heap.size,0,none⟩ = some vc ∧ w'.cell? ⟨w.heap.size,1,none⟩ = some vme) ∧ w'.cell? ⟨w.heap.size + 1,0,none⟩ = some (.slice pa m.params.length pcap) ∧ w'.cell? ⟨w.heap.size + 1,1,none⟩ = some (.int .i64 m.ret.kind) ∧ w'.cell? ⟨w.heap.size + 1,2,none⟩ = some (.int .i64 m.ret.cls) ∧ w'.cell? ⟨w.heap.size + 1,3,none⟩ = some (.int .i64 m.stack) ∧ w'.cell? ⟨w.heap.size + 1,4,none⟩ = some (.int .i64 m.locals) ∧ w'.cell? ⟨w.heap.size + 1,5,none⟩ = some (.int .i64 m.regs) ∧ w'.cell? ⟨w.heap.size + 1,6,none⟩ = some (.slice da m.code.length dcap) ∧ w'.cell? ⟨w.heap.size + 1,7,none⟩ = some (vh)) (by kernel_rfl) (by (try dsimp only);first | exact ⟨⟨f1,f2⟩,m0,m1,m2,m3,m4,m5,m6,m7⟩ | go_keep) (fun hHeld=>?_)
    refine Drawn.tk 0 (some 10) rfl rfl (by assumption) ?_
    try simp only [Act.put,Drawn.La,Drawn.Lb,Drawn.Lc]
    refine Drawn.tk 1 (some 11) rfl rfl (by assumption) ?_
    try simp only [Act.put,Drawn.La,Drawn.Lb,Drawn.Lc]
    refine wpAnyH_ready (rs:=[2]) (by kernel_rfl) (by simp) ?_
    refine AllReadyH.cons rfl (fun K hK=>?_) AllReadyH.nil
    go_simp
    go_at_call 111
    refine (headV f m 400 _ _ _ _ hph.out (hfW.mono Rd.byB (by simp)) (hmW.mono Rd.byB (by simp)) (by omega)).mono ?_
    rintro e w2 ⟨rfl,hb2⟩
    have hbW : Below W.heap.size W w2:=Below.trans Rd.byB (hb2.mono (by simp))
    have k2:=B2.next ⟨f1,f2⟩ hbW (by omega)
    have k8:=B8.next ⟨m0,m1,m2,m3,m4,m5,m6,m7⟩ hbW (by omega)
    go_wp2_with fail
    refine hK.out _ _ (by (try dsimp only);exact ⟨k2,k8⟩) (fun hHeld=>?_)
    clear hK K
    try simp only [Act.put,Drawn.La,Drawn.Lb,Drawn.Lc]
    refine Drawn.tk 3 (some 13) rfl rfl (by assumption) ?_
    try simp only [Act.put,Drawn.La,Drawn.Lb,Drawn.Lc]
    refine Drawn.tk 4 (some 14) rfl rfl (by assumption) ?_
    try simp only [Act.put,Drawn.La,Drawn.Lb,Drawn.Lc]
    refine Drawn.ps 5 (some 15) rfl rfl (by assumption) ?_
    try simp only [Act.put,Drawn.La,Drawn.Lb,Drawn.Lc]
    refine Drawn.ps 6 (some 16) rfl rfl (by assumption) ?_
    try simp only [Act.put,Drawn.La,Drawn.Lb,Drawn.Lc]
    refine Drawn.ps 7 (some 17) rfl rfl (by assumption) ?_
    try simp only [Act.put,Drawn.La,Drawn.Lb,Drawn.Lc]
    refine Drawn.tk 8 (some 18) rfl rfl (by assumption) ?_
    try simp only [Act.put,Drawn.La,Drawn.Lb,Drawn.Lc]
    refine Drawn.tk 9 (some 19) rfl rfl (by assumption) ?_
    try simp only [Act.put,Drawn.La,Drawn.Lb,Drawn.Lc]
    refine Drawn.ps 10 (some 20) rfl rfl (by assumption) ?_
    try simp only [Act.put,Drawn.La,Drawn.Lb,Drawn.Lc]
    refine Drawn.ps 11 (some 21) rfl rfl (by assumption) ?_
    try simp only [Act.put,Drawn.La,Drawn.Lb,Drawn.Lc]
    refine Drawn.ps 12 (some 22) rfl rfl (by assumption) ?_
    try simp only [Act.put,Drawn.La,Drawn.Lb,Drawn.Lc]
    refine Drawn.ps 13 (some 23) rfl rfl (by assumption) ?_
    try simp only [Act.put,Drawn.La,Drawn.Lb,Drawn.Lc]
    refine Drawn.tk 14 (some 24) rfl rfl (by assumption) ?_
    try simp only [Act.put,Drawn.La,Drawn.Lb,Drawn.Lc]
    refine Drawn.tk 15 (some 25) rfl rfl (by assumption) ?_
    try simp only [Act.put,Drawn.La,Drawn.Lb,Drawn.Lc]
    refine Drawn.ps 16 (some 26) rfl rfl (by assumption) ?_
    try simp only [Act.put,Drawn.La,Drawn.Lb,Drawn.Lc]
    refine Drawn.ps 17 (some 27) rfl rfl (by assumption) ?_
    try simp only [Act.put,Drawn.La,Drawn.Lb,Drawn.Lc]
    refine Drawn.ps 18 (some 28) rfl rfl (by assumption) ?_
    try simp only [Act.put,Drawn.La,Drawn.Lb,Drawn.Lc]
    refine Drawn.ps 19 (some 29) rfl rfl (by assumption) ?_
    try simp only [Act.put,Drawn.La,Drawn.Lb,Drawn.Lc]
    refine Drawn.ps 20 (some 30) rfl rfl (by assumption) ?_
    try simp only [Act.put,Drawn.La,Drawn.Lb,Drawn.Lc]
    refine Drawn.ps 21 (some 31) rfl rfl (by assumption) ?_
    try simp only [Act.put,Drawn.La,Drawn.Lb,Drawn.Lc]
    refine Drawn.ps 22 (some 32) rfl rfl (by assumption) ?_
    try simp only [Act.put,Drawn.La,Drawn.Lb,Drawn.Lc]
    refine Drawn.tk 23 (some 33) rfl rfl (by assumption) ?_
    try simp only [Act.put,Drawn.La,Drawn.Lb,Drawn.Lc]
    refine wpAnyH_done (by kernel_rfl) ?_ _
    go_wp2
    go_ret
    exact ⟨ret_bool (by rw [hsme.out];rfl),hbw.trans (hbW.mono hbs)⟩
  · have hreg : (m.regs != 0) = true ∨ (m.regs != 0) = false:=by cases (m.regs != 0) <;> simp
    rcases hreg with hreg | hreg
    ·
      have hz : decide (m.regs = 0) = false:=by simpa using hreg
      refine wp_region_held_drew (S:=fun w'=>(w'.cell? ⟨w.heap.size,0,none⟩ = some vc ∧ w'.cell? ⟨w.heap.size,1,none⟩ = some vme) ∧ w'.cell? ⟨w.heap.size + 1,0,none⟩ = some (.slice pa m.params.length pcap) ∧ w'.cell? ⟨w.heap.size + 1,1,none⟩ = some (.int .i64 m.ret.kind) ∧ w'.cell? ⟨w.heap.size + 1,2,none⟩ = some (.int .i64 m.ret.cls) ∧ w'.cell? ⟨w.heap.size + 1,3,none⟩ = some (.int .i64 m.stack) ∧ w'.cell? ⟨w.heap.size + 1,4,none⟩ = some (.int .i64 m.locals) ∧ w'.cell? ⟨w.heap.size + 1,5,none⟩ = some (.int .i64 m.regs) ∧ w'.cell? ⟨w.heap.size + 1,6,none⟩ = some (.slice da m.code.length dcap) ∧ w'.cell? ⟨w.heap.size + 1,7,none⟩ = some (vh)) (by kernel_rfl) (by (try dsimp only);first | exact ⟨⟨f1,f2⟩,m0,m1,m2,m3,m4,m5,m6,m7⟩ | go_keep) (fun hHeld=>?_)
      refine Drawn.tk 0 (some 10) rfl rfl (by assumption) ?_
      try simp only [Act.put,Drawn.La,Drawn.Lb,Drawn.Lc]
      refine Drawn.tk 1 (some 11) rfl rfl (by assumption) ?_
      try simp only [Act.put,Drawn.La,Drawn.Lb,Drawn.Lc]
      refine wpAnyH_ready (rs:=[2]) (by kernel_rfl) (by simp) ?_
      refine AllReadyH.cons rfl (fun K hK=>?_) AllReadyH.nil
      go_simp
      go_at_call 111
      refine (headV f m 400 _ _ _ _ hph.out (hfW.mono Rd.byB (by simp)) (hmW.mono Rd.byB (by simp)) (by omega)).mono ?_
      rintro e w2 ⟨rfl,hb2⟩
      have hbW : Below W.heap.size W w2:=Below.trans Rd.byB (hb2.mono (by simp))
      have k2:=B2.next ⟨f1,f2⟩ hbW (by omega)
      have k8:=B8.next ⟨m0,m1,m2,m3,m4,m5,m6,m7⟩ hbW (by omega)
      go_wp2_with fail
      refine hK.out _ _ (by (try dsimp only);exact ⟨k2,k8⟩) (fun hHeld=>?_)
      clear hK K
      try simp only [Act.put,Drawn.La,Drawn.Lb,Drawn.Lc]
      refine Drawn.tk 3 (some 13) rfl rfl (by assumption) ?_
      try simp only [Act.put,Drawn.La,Drawn.Lb,Drawn.Lc]
      refine Drawn.tk 4 (some 14) rfl rfl (by assumption) ?_
      try simp only [Act.put,Drawn.La,Drawn.Lb,Drawn.Lc]
      refine Drawn.tk 5 (some 15) rfl rfl (by assumption) ?_
      try simp only [Act.put,Drawn.La,Drawn.Lb,Drawn.Lc]
      refine Drawn.tk 6 (some 16) rfl rfl (by assumption) ?_
      try simp only [Act.put,Drawn.La,Drawn.Lb,Drawn.Lc]
      refine Drawn.tk 7 (some 17) rfl rfl (by assumption) ?_
      try simp only [Act.put,Drawn.La,Drawn.Lb,Drawn.Lc]
      refine Drawn.tk 8 (some 18) rfl rfl (by assumption) ?_
      try simp only [Act.put,Drawn.La,Drawn.Lb,Drawn.Lc]
      refine Drawn.tk 9 (some 19) rfl rfl (by assumption) ?_
      try simp only [Act.put,Drawn.La,Drawn.Lb,Drawn.Lc]
      refine Drawn.ps 10 (some 20) rfl rfl (by assumption) ?_
      try simp only [Act.put,Drawn.La,Drawn.Lb,Drawn.Lc]
      refine Drawn.ps 11 (some 21) rfl rfl (by assumption) ?_
      try simp only [Act.put,Drawn.La,Drawn.Lb,Drawn.Lc]
      refine Drawn.ps 12 (some 22) rfl rfl (by assumption) ?_
      try simp only [Act.put,Drawn.La,Drawn.Lb,Drawn.Lc]
      refine Drawn.ps 13 (some 23) rfl rfl (by assumption) ?_
      try simp only [Act.put,Drawn.La,Drawn.Lb,Drawn.Lc]
      refine Drawn.tk 14 (some 24) rfl rfl (by assumption) ?_
      try simp only [Act.put,Drawn.La,Drawn.Lb,Drawn.Lc]
      refine Drawn.tk 15 (some 25) rfl rfl (by assumption) ?_
      try simp only [Act.put,Drawn.La,Drawn.Lb,Drawn.Lc]
      refine Drawn.ps 16 (some 26) rfl rfl (by assumption) ?_
      try simp only [Act.put,Drawn.La,Drawn.Lb,Drawn.Lc]
      refine Drawn.ps 17 (some 27) rfl rfl (by assumption) ?_
      try simp only [Act.put,Drawn.La,Drawn.Lb,Drawn.Lc]
      refine Drawn.ps 18 (some 28) rfl rfl (by assumption) ?_
      try simp only [Act.put,Drawn.La,Drawn.Lb,Drawn.Lc]
      refine Drawn.ps 19 (some 29) rfl rfl (by assumption) ?_
      try simp only [Act.put,Drawn.La,Drawn.Lb,Drawn.Lc]
      refine Drawn.ps 20 (some 30) rfl rfl (by assumption) ?_
      try simp only [Act.put,Drawn.La,Drawn.Lb,Drawn.Lc]
      refine Drawn.ps 21 (some 31) rfl rfl (by assumption) ?_
      try simp only [Act.put,Drawn.La,Drawn.Lb,Drawn.Lc]
      refine Drawn.ps 22 (some 32) rfl rfl (by assumption) ?_
      try simp only [Act.put,Drawn.La,Drawn.Lb,Drawn.Lc]
      refine Drawn.tk 23 (some 33) rfl rfl (by assumption) ?_
      try simp only [Act.put,Drawn.La,Drawn.Lb,Drawn.Lc]
      refine wpAnyH_done (by kernel_rfl) ?_ _
      go_wp2
      go_ret
      exact ⟨ret_bool (by rw [hsme.out];rw [hz];rfl),hbw.trans (hbW.mono hbs)⟩
    · have hz : decide (m.regs = 0) = true:=by simpa using hreg
      cases pst
      ·
        refine wp_region_held_drew (S:=fun w'=>(w'.cell? ⟨w.heap.size,0,none⟩ = some vc ∧ w'.cell? ⟨w.heap.size,1,none⟩ = some vme) ∧ w'.cell? ⟨w.heap.size + 1,0,none⟩ = some (.slice pa m.params.length pcap) ∧ w'.cell? ⟨w.heap.size + 1,1,none⟩ = some (.int .i64 m.ret.kind) ∧ w'.cell? ⟨w.heap.size + 1,2,none⟩ = some (.int .i64 m.ret.cls) ∧ w'.cell? ⟨w.heap.size + 1,3,none⟩ = some (.int .i64 m.stack) ∧ w'.cell? ⟨w.heap.size + 1,4,none⟩ = some (.int .i64 m.locals) ∧ w'.cell? ⟨w.heap.size + 1,5,none⟩ = some (.int .i64 m.regs) ∧ w'.cell? ⟨w.heap.size + 1,6,none⟩ = some (.slice da m.code.length dcap) ∧ w'.cell? ⟨w.heap.size + 1,7,none⟩ = some (vh)) (by kernel_rfl) (by (try dsimp only);first | exact ⟨⟨f1,f2⟩,m0,m1,m2,m3,m4,m5,m6,m7⟩ | go_keep) (fun hHeld=>?_)
        refine Drawn.tk 0 (some 10) rfl rfl (by assumption) ?_
        try simp only [Act.put,Drawn.La,Drawn.Lb,Drawn.Lc]
        refine Drawn.tk 1 (some 11) rfl rfl (by assumption) ?_
        try simp only [Act.put,Drawn.La,Drawn.Lb,Drawn.Lc]
        refine wpAnyH_ready (rs:=[2]) (by kernel_rfl) (by simp) ?_
        refine AllReadyH.cons rfl (fun K hK=>?_) AllReadyH.nil
        go_simp
        go_at_call 111
        refine (headV f m 400 _ _ _ _ hph.out (hfW.mono Rd.byB (by simp)) (hmW.mono Rd.byB (by simp)) (by omega)).mono ?_
        rintro e w2 ⟨rfl,hb2⟩
        have hbW : Below W.heap.size W w2:=Below.trans Rd.byB (hb2.mono (by simp))
        have k2:=B2.next ⟨f1,f2⟩ hbW (by omega)
        have k8:=B8.next ⟨m0,m1,m2,m3,m4,m5,m6,m7⟩ hbW (by omega)
        go_wp2_with fail
        refine hK.out _ _ (by (try dsimp only);exact ⟨k2,k8⟩) (fun hHeld=>?_)
        clear hK K
        try simp only [Act.put,Drawn.La,Drawn.Lb,Drawn.Lc]
        refine Drawn.tk 3 (some 13) rfl rfl (by assumption) ?_
        try simp only [Act.put,Drawn.La,Drawn.Lb,Drawn.Lc]
        refine Drawn.tk 4 (some 14) rfl rfl (by assumption) ?_
        try simp only [Act.put,Drawn.La,Drawn.Lb,Drawn.Lc]
        refine Drawn.tk 5 (some 15) rfl rfl (by assumption) ?_
        try simp only [Act.put,Drawn.La,Drawn.Lb,Drawn.Lc]
        refine Drawn.tk 6 (some 16) rfl rfl (by assumption) ?_
        try simp only [Act.put,Drawn.La,Drawn.Lb,Drawn.Lc]
        refine Drawn.tk 7 (some 17) rfl rfl (by assumption) ?_
        try simp only [Act.put,Drawn.La,Drawn.Lb,Drawn.Lc]
        refine Drawn.tk 8 (some 18) rfl rfl (by assumption) ?_
        try simp only [Act.put,Drawn.La,Drawn.Lb,Drawn.Lc]
        refine Drawn.tk 9 (some 19) rfl rfl (by assumption) ?_
        try simp only [Act.put,Drawn.La,Drawn.Lb,Drawn.Lc]
        refine Drawn.tk 10 (some 20) rfl rfl (by assumption) ?_
        try simp only [Act.put,Drawn.La,Drawn.Lb,Drawn.Lc]
        refine Drawn.tk 11 (some 21) rfl rfl (by assumption) ?_
        try simp only [Act.put,Drawn.La,Drawn.Lb,Drawn.Lc]
        refine wpAnyH_ready (rs:=[12]) (by kernel_rfl) (by simp) ?_
        refine AllReadyH.cons rfl (fun K hK=>?_) AllReadyH.nil
        go_simp
        go_at_call 89
        refine (sinV _ _ _ _ _ hps.out).mono ?_
        rintro e w3 ⟨rfl,rfl⟩
        go_wp2_with fail
        refine hK.out _ _ (by (try dsimp only);exact ⟨k2,k8⟩) (fun hHeld=>?_)
        clear hK K
        try simp only [Act.put,Drawn.La,Drawn.Lb,Drawn.Lc]
        refine Drawn.tk 13 (some 23) rfl rfl (by assumption) ?_
        try simp only [Act.put,Drawn.La,Drawn.Lb,Drawn.Lc]
        refine Drawn.tk 14 (some 24) rfl rfl (by assumption) ?_
        try simp only [Act.put,Drawn.La,Drawn.Lb,Drawn.Lc]
        refine Drawn.tk 15 (some 25) rfl rfl (by assumption) ?_
        try simp only [Act.put,Drawn.La,Drawn.Lb,Drawn.Lc]
        refine Drawn.ps 16 (some 26) rfl rfl (by assumption) ?_
        try simp only [Act.put,Drawn.La,Drawn.Lb,Drawn.Lc]
        refine Drawn.ps 17 (some 27) rfl rfl (by assumption) ?_
        try simp only [Act.put,Drawn.La,Drawn.Lb,Drawn.Lc]
        refine Drawn.ps 18 (some 28) rfl rfl (by assumption) ?_
        try simp only [Act.put,Drawn.La,Drawn.Lb,Drawn.Lc]
        refine Drawn.ps 19 (some 29) rfl rfl (by assumption) ?_
        try simp only [Act.put,Drawn.La,Drawn.Lb,Drawn.Lc]
        refine Drawn.ps 20 (some 30) rfl rfl (by assumption) ?_
        try simp only [Act.put,Drawn.La,Drawn.Lb,Drawn.Lc]
        refine Drawn.ps 21 (some 31) rfl rfl (by assumption) ?_
        try simp only [Act.put,Drawn.La,Drawn.Lb,Drawn.Lc]
        refine Drawn.ps 22 (some 32) rfl rfl (by assumption) ?_
        try simp only [Act.put,Drawn.La,Drawn.Lb,Drawn.Lc]
        refine Drawn.tk 23 (some 33) rfl rfl (by assumption) ?_
        try simp only [Act.put,Drawn.La,Drawn.Lb,Drawn.Lc]
        refine wpAnyH_done (by kernel_rfl) ?_ _
        go_wp2
        go_ret
        exact ⟨ret_bool (by rw [hsme.out];simp),hbw.trans (hbW.mono hbs)⟩
      ·
        have hp4 : m.params.length ≤ 4:=by
          have h:=hph.out
          simp only [Form.head,Bool.and_eq_true,decide_eq_true_eq] at h
          exact h.1.1.1.2
        refine wp_region_held_drew (S:=fun w'=>(w'.cell? ⟨w.heap.size,0,none⟩ = some vc ∧ w'.cell? ⟨w.heap.size,1,none⟩ = some vme) ∧ w'.cell? ⟨w.heap.size + 1,0,none⟩ = some (.slice pa m.params.length pcap) ∧ w'.cell? ⟨w.heap.size + 1,1,none⟩ = some (.int .i64 m.ret.kind) ∧ w'.cell? ⟨w.heap.size + 1,2,none⟩ = some (.int .i64 m.ret.cls) ∧ w'.cell? ⟨w.heap.size + 1,3,none⟩ = some (.int .i64 m.stack) ∧ w'.cell? ⟨w.heap.size + 1,4,none⟩ = some (.int .i64 m.locals) ∧ w'.cell? ⟨w.heap.size + 1,5,none⟩ = some (.int .i64 m.regs) ∧ w'.cell? ⟨w.heap.size + 1,6,none⟩ = some (.slice da m.code.length dcap) ∧ w'.cell? ⟨w.heap.size + 1,7,none⟩ = some (vh)) (by kernel_rfl) (by (try dsimp only);first | exact ⟨⟨f1,f2⟩,m0,m1,m2,m3,m4,m5,m6,m7⟩ | go_keep) (fun hHeld=>?_)
        refine Drawn.tk 0 (some 10) rfl rfl (by assumption) ?_
        try simp only [Act.put,Drawn.La,Drawn.Lb,Drawn.Lc]
        refine Drawn.tk 1 (some 11) rfl rfl (by assumption) ?_
        try simp only [Act.put,Drawn.La,Drawn.Lb,Drawn.Lc]
        refine wpAnyH_ready (rs:=[2]) (by kernel_rfl) (by simp) ?_
        refine AllReadyH.cons rfl (fun K hK=>?_) AllReadyH.nil
        go_simp
        go_at_call 111
        refine (headV f m 400 _ _ _ _ hph.out (hfW.mono Rd.byB (by simp)) (hmW.mono Rd.byB (by simp)) (by omega)).mono ?_
        rintro e w2 ⟨rfl,hb2⟩
        have hbW : Below W.heap.size W w2:=Below.trans Rd.byB (hb2.mono (by simp))
        have k2:=B2.next ⟨f1,f2⟩ hbW (by omega)
        have k8:=B8.next ⟨m0,m1,m2,m3,m4,m5,m6,m7⟩ hbW (by omega)
        go_wp2_with fail
        refine hK.out _ _ (by (try dsimp only);exact ⟨k2,k8⟩) (fun hHeld=>?_)
        clear hK K
        try simp only [Act.put,Drawn.La,Drawn.Lb,Drawn.Lc]
        refine Drawn.tk 3 (some 13) rfl rfl (by assumption) ?_
        try simp only [Act.put,Drawn.La,Drawn.Lb,Drawn.Lc]
        refine Drawn.tk 4 (some 14) rfl rfl (by assumption) ?_
        try simp only [Act.put,Drawn.La,Drawn.Lb,Drawn.Lc]
        refine Drawn.tk 5 (some 15) rfl rfl (by assumption) ?_
        try simp only [Act.put,Drawn.La,Drawn.Lb,Drawn.Lc]
        refine Drawn.tk 6 (some 16) rfl rfl (by assumption) ?_
        try simp only [Act.put,Drawn.La,Drawn.Lb,Drawn.Lc]
        refine Drawn.tk 7 (some 17) rfl rfl (by assumption) ?_
        try simp only [Act.put,Drawn.La,Drawn.Lb,Drawn.Lc]
        refine Drawn.tk 8 (some 18) rfl rfl (by assumption) ?_
        try simp only [Act.put,Drawn.La,Drawn.Lb,Drawn.Lc]
        refine Drawn.tk 9 (some 19) rfl rfl (by assumption) ?_
        try simp only [Act.put,Drawn.La,Drawn.Lb,Drawn.Lc]
        refine Drawn.tk 10 (some 20) rfl rfl (by assumption) ?_
        try simp only [Act.put,Drawn.La,Drawn.Lb,Drawn.Lc]
        refine Drawn.tk 11 (some 21) rfl rfl (by assumption) ?_
        try simp only [Act.put,Drawn.La,Drawn.Lb,Drawn.Lc]
        refine wpAnyH_ready (rs:=[12]) (by kernel_rfl) (by simp) ?_
        refine AllReadyH.cons rfl (fun K hK=>?_) AllReadyH.nil
        go_simp
        go_at_call 89
        refine (sinV _ _ _ _ _ hps.out).mono ?_
        rintro e w3 ⟨rfl,rfl⟩
        go_wp2_with fail
        refine hK.out _ _ (by (try dsimp only);exact ⟨k2,k8⟩) (fun hHeld=>?_)
        clear hK K
        try simp only [Act.put,Drawn.La,Drawn.Lb,Drawn.Lc]
        refine Drawn.tk 13 (some 23) rfl rfl (by assumption) ?_
        try simp only [Act.put,Drawn.La,Drawn.Lb,Drawn.Lc]
        refine Drawn.tk 14 (some 24) rfl rfl (by assumption) ?_
        try simp only [Act.put,Drawn.La,Drawn.Lb,Drawn.Lc]
        refine Drawn.tk 15 (some 25) rfl rfl (by assumption) ?_
        try simp only [Act.put,Drawn.La,Drawn.Lb,Drawn.Lc]
        refine Drawn.tk 16 (some 26) rfl rfl (by assumption) ?_
        try simp only [Act.put,Drawn.La,Drawn.Lb,Drawn.Lc]
        refine Drawn.tk 17 (some 27) rfl rfl (by assumption) ?_
        try simp only [Act.put,Drawn.La,Drawn.Lb,Drawn.Lc]
        refine Drawn.tk 18 (some 28) rfl rfl (by assumption) ?_
        try simp only [Act.put,Drawn.La,Drawn.Lb,Drawn.Lc]
        refine Drawn.tk 19 (some 29) rfl rfl (by assumption) ?_
        try simp only [Act.put,Drawn.La,Drawn.Lb,Drawn.Lc]
        refine wpAnyH_ready (rs:=[20]) (by kernel_rfl) (by simp) ?_
        refine AllReadyH.cons rfl (fun K hK=>?_) AllReadyH.nil
        go_simp
        go_at_call 92
        refine (slotsV _ m.params S _ (htW.next hbW) (by omega) hS.out).mono ?_
        rintro e w4 ⟨rfl,hb4⟩
        have hbX : Below W.heap.size W w4:=hbW.trans (hb4.mono hbW.size)
        have x2:=B2.next ⟨f1,f2⟩ hbX (by omega)
        have x8:=B8.next ⟨m0,m1,m2,m3,m4,m5,m6,m7⟩ hbX (by omega)
        go_wp2_with fail
        refine hK.out _ _ (by (try dsimp only);exact ⟨x2,x8⟩) (fun hHeld=>?_)
        clear hK K
        try simp only [Act.put,Drawn.La,Drawn.Lb,Drawn.Lc]
        refine wpAnyH_ready (rs:=[21]) (by kernel_rfl) (by simp) ?_
        refine AllReadyH.cons rfl (fun K hK=>?_) AllReadyH.nil
        go_simp
        go_at_call 89
        refine (sinV _ _ _ _ _ hpl.out).mono ?_
        rintro e w5 ⟨rfl,rfl⟩
        go_wp2_with fail
        refine hK.out _ _ (by (try dsimp only);exact ⟨x2,x8⟩) (fun hHeld=>?_)
        clear hK K
        try simp only [Act.put,Drawn.La,Drawn.Lb,Drawn.Lc]
        refine Drawn.tk 22 (some 32) rfl rfl (by assumption) ?_
        try simp only [Act.put,Drawn.La,Drawn.Lb,Drawn.Lc]
        refine Drawn.tk 23 (some 33) rfl rfl (by assumption) ?_
        try simp only [Act.put,Drawn.La,Drawn.Lb,Drawn.Lc]
        refine wpAnyH_done (by kernel_rfl) ?_ _
        have hbX2 : Below w.heap.size w w4:=hbw.trans (hbX.mono hbs)
        have hbX3:=hbX2.size
        have hbX4:=hbX.size
        cases pl
        · go_wp2
          go_ret
          exact ⟨ret_bool (by rw [hsme.out];simp),hbX2⟩
        · have hloc : 0 ≤ m.locals ∧ m.locals ≤ 60 := by
            have h:=hpl.out
            simp only [Form.rng,decide_eq_true_eq] at h
            omega
          have hsme2 : Hid (Form.sme f m = m.code.all (Form.sins f.classes f.methods.length m.code.length m.locals)):=by
            show _ = _
            rw [hsme.out,hz];rfl
          clear hsme f1 f2 m0 m1 m2 m3 m4 m5 m6 m7 k2 k8 htW hfW hmW hts0
          obtain ⟨f1,f2⟩:=x2
          obtain ⟨m0,m1,m2,m3,m4,m5,m6,m7⟩:=x8
          go_wp2_with fail
          go_loopw [37] (fun i wr=>∃ k : Nat,k ≤ m.code.length ∧ i = .int .i64 k ∧ Below w4.heap.size w4 wr ∧ Hid (∀ j (h : j < m.code.length),j < k → Form.sins f.classes f.methods.length m.code.length m.locals m.code[j] = true)) (fun i _=>m.code.length - (intOf i).toNat)
          case atStart=>exact ⟨0,by omega,rfl,Rd.byB,fun j _ h=>absurd h (by omega)⟩
          case round =>
            obtain ⟨k,hk,rfl,hq,hall⟩:=hrel
            have hqs:=hq.size
            have hwr : Below w.heap.size w wr:=hbX2.trans (hq.mono hbX3)
            have hwrs:=hwr.size
            have n3 : w.heap.size < wr.heap.size:=by omega
            have n4 : w.heap.size + 1 < wr.heap.size:=by omega
            have c1:=kept hq (by omega) f1
            have c2:=kept hq (by omega) f2
            have c3:=kept hq (by omega) m0
            have c4:=kept hq (by omega) m1
            have c5:=kept hq (by omega) m2
            have c6:=kept hq (by omega) m3
            have c7:=kept hq (by omega) m4
            have c8:=kept hq (by omega) m5
            have c9:=kept hq (by omega) m6
            have c10:=kept hq (by omega) m7
            clear f1 f2 m0 m1 m2 m3 m4 m5 m6 m7
            by_cases hlt : k < m.code.length
            · obtain ⟨b,o,rfl,hb,he⟩:=del k hlt
              have hyes:=Lib.hid (Form.all_step (p:=Form.sins f.classes f.methods.length m.code.length m.locals) hall.out hlt)
              have hno:=Lib.hid (Form.all_not (p:=Form.sins f.classes f.methods.length m.code.length m.locals) hlt)
              obtain ⟨t,ht⟩:=at_of hlt
              rw [ht.out] at he hyes hno
              obtain ⟨g1,g2,g3,g4,g5,oks,va,g6,gargs⟩:=he
              have hvi : VIns w w.heap.size (.agg #[.int .i64 t.op,.int .i64 t.a,.int .i64 t.b,.int .i64 t.c,.int .i64 t.n,va]) t:=⟨va,rfl,oks,gargs⟩
              obtain ⟨aa,acap,rfl,alc,acc,_⟩:=gargs
              have k1:=kept hwr hb g1
              have k2:=kept hwr hb g2
              have k3:=kept hwr hb g3
              have k4:=kept hwr hb g4
              have k5:=kept hwr hb g5
              have k6:=kept hwr hb g6
              obtain ⟨xa,hxa⟩ : ∃ p,Hid (Form.sa f.classes f.methods.length m.code.length m.locals t = p):=⟨_,rfl⟩
              obtain ⟨xb,hxb⟩ : ∃ p,Hid (Form.sb f.classes t = p):=⟨_,rfl⟩
              obtain ⟨xn,hxn⟩ : ∃ p,Hid (Form.sn t = p):=⟨_,rfl⟩
              have hins : Hid (Form.sins f.classes f.methods.length m.code.length m.locals t = (xa && xb && xn && decide (t.c = 0) && decide (t.args.length = 0))):=by
                show _ = _
                rw [← hxa.out,← hxb.out,← hxn.out];rfl
              have hq2:=Lib.hid hq
              have hwr2:=Lib.hid hwr
              clear del g1 g2 g3 g4 g5 g6
              go_wp2_with (go_at_call 142;refine (fieldsV f m t xa xb xn _ _ _ _ hxa.out hxb.out hxn.out (hf0.mono Rd.byB (by simp;omega)) (hm0.mono Rd.byB (by simp;omega)) (hvi.mono Rd.byB (by simp;omega)) hloc).mono ?_;rintro e w6 ⟨rfl,hb6⟩;have hw6 : Below wr.heap.size wr w6:=Below.trans Rd.byB (hb6.mono (by simp));have y4 : w6.cell? ⟨wr.heap.size,3,none⟩ = some (.int .i64 t.c):=kept hb6 (by simp) (by go_simp);have y6 : w6.cell? ⟨wr.heap.size,5,none⟩ = some (.slice aa t.args.length acap):=kept hb6 (by simp) (by go_simp))
              all_goals first
                | (go_ret
                   refine ⟨ret_bool (hsme2.out.trans (hno.out ?_)).symm,hwr2.out.trans (hw6.mono hwrs)⟩
                   go_tidy
                   rw [hins.out]
                   first | (simp_all;done) | (rw [show decide (t.args.length = 0) = false from decide_eq_false (by omega)];simp;done))
                | skip
              refine ⟨?_,?measure⟩
              iterate 39 apply Exists.intro
              refine ⟨?rel,rfl⟩
              case rel =>
                refine ⟨k + 1,by omega,by go_num,hq2.out.trans (hw6.mono hqs),hyes.out ?_⟩
                go_tidy
                rw [hins.out]
                simp_all
              case measure=>simp [intOf];omega
            · have hst : m.code.all (Form.sins f.classes f.methods.length m.code.length m.locals) = true:=Form.all_of (fun j hj=>hall.out j hj (by omega))
              have hst2:=Lib.hid hst
              clear hst hall del
              go_wp2
              go_ret
              exact ⟨ret_bool (by rw [hsme2.out,hst2.out]),hwr⟩
end FormW
end Go.Proofs.Ytncmhenfgbcihab
namespace Go.Proofs.Ytncmhenfgbcihab
open Go.RowKit
set_option linter.unusedSimpArgs false
set_option linter.unusedVariables false
namespace FormW
open Num Rd D HierW
theorem methodV (f : Fi) (m : Me) (p : Bool) (vf vm : Value) (w : World) (hp : Form.sme f m = p) (hf : VFi w w.heap.size vf f) (hm : VMe w w.heap.size vm m) :
    Calls Try.prog 90 #[vf,vm] w fun e w'=>e = .returned (.bool p) ∧ Below w.heap.size w w':=by
  subst hp;exact method f m vf vm w hf hm
theorem mayV (v : Value) (l : List Cls) (p : Bool) (w : World) (hp : Hier.may l = p) (h : Cs w v l) : Calls Try.prog 88 #[v] w fun e w'=>e = .returned (.bool p) ∧ Below w.heap.size w w':=by
  subst hp;exact may v l w h
set_option maxRecDepth 100000 in
set_option maxHeartbeats 4000000 in
theorem smay (f : Fi) (vf : Value) (w : World) (hf : VFi w w.heap.size vf f) :
    Calls Try.prog 46 #[vf] w fun e w'=>e = .returned (.bool (Form.smay f)) ∧ Below w.heap.size w w':=by
  have hf0:=hf
  obtain ⟨vc,vme,rfl,hcs,⟨ma,mcap,rfl,mlc,mcc,mel⟩⟩:=hf
  obtain ⟨ph,hph⟩ : ∃ p,Hid (Hier.may f.classes = p):=⟨_,rfl⟩
  obtain ⟨pn,hpn⟩ : ∃ p,Hid (Form.rng f.methods.length 1 9 = p):=⟨_,rfl⟩
  have hall0 : Hid (Form.smay f = (ph && pn && f.methods.all (Form.sme f))):=by
    show _ = _
    rw [← hph.out,← hpn.out];rfl
  cases ph <;> cases pn
  all_goals go_enter Try.func46,Try.ntmps46
  all_goals go_wp2_with (first
    | (go_at_call 88;refine (mayV _ _ _ _ hph.out (Cs.next hcs Rd.byB)).mono ?_;rintro e w1 ⟨rfl,hb1⟩;have hw1 : Below w.heap.size w w1:=Below.trans Rd.byB (hb1.mono (by simp));have y0 : w1.cell? ⟨w.heap.size,0,none⟩ = some vc:=kept hb1 (by simp) (by go_simp);have y1 : w1.cell? ⟨w.heap.size,1,none⟩ = some (.slice ma f.methods.length mcap):=kept hb1 (by simp) (by go_simp))
    | (go_at_call 89;refine (sinV _ _ _ _ _ hpn.out).mono ?_;rintro e w2 ⟨rfl,rfl⟩))
  all_goals first
    | (go_ret
       exact ⟨ret_bool (by rw [hall0.out];simp),hw1⟩)
    | skip
  have hws:=hw1.size
  have nn : w.heap.size < w1.heap.size:=by have:=lt_cell y0;omega
  go_loopw [19] (fun i wr=>∃ k : Nat,k ≤ f.methods.length ∧ i = .int .i64 k ∧ Below w1.heap.size w1 wr ∧ Hid (∀ j (h : j < f.methods.length),j < k → Form.sme f f.methods[j] = true)) (fun i _=>f.methods.length - (intOf i).toNat)
  case atStart=>exact ⟨0,by omega,rfl,Rd.byB,fun j _ h=>absurd h (by omega)⟩
  case round =>
    obtain ⟨k,hk,rfl,hq,hall⟩:=hrel
    have hqs:=hq.size
    have hwr : Below w.heap.size w wr:=hw1.trans (hq.mono hws)
    have hwrs:=hwr.size
    have n3 : w.heap.size < wr.heap.size:=by omega
    have c1:=kept hq (by omega) y0
    have c2:=kept hq (by omega) y1
    clear y0 y1
    by_cases hlt : k < f.methods.length
    · obtain ⟨b,o,rfl,hb,he⟩:=mel k hlt
      have hyes:=Lib.hid (Form.all_step (p:=Form.sme f) hall.out hlt)
      have hno:=Lib.hid (Form.all_not (p:=Form.sme f) hlt)
      obtain ⟨t,ht⟩:=at_of hlt
      rw [ht.out] at he hyes hno
      obtain ⟨vp,vd,vh,g0,g1,g2,g3,g4,g5,g6,g7,oks,s1,s2,s3⟩:=he
      have hvm : VMe w w.heap.size (.agg #[vp,.int .i64 t.ret.kind,.int .i64 t.ret.cls,.int .i64 t.stack,.int .i64 t.locals,.int .i64 t.regs,vd,vh]) t:=⟨vp,vd,vh,rfl,oks,s1,s2,s3⟩
      obtain ⟨pa,pcap,rfl,_,_,_⟩:=s1
      obtain ⟨da,dcap,rfl,_,_,_⟩:=s2
      obtain ⟨ha,hcap,rfl,_,_,_⟩:=s3
      have k0:=kept hwr hb g0
      have k1:=kept hwr hb g1
      have k2:=kept hwr hb g2
      have k3:=kept hwr hb g3
      have k4:=kept hwr hb g4
      have k5:=kept hwr hb g5
      have k6:=kept hwr hb g6
      have k7:=kept hwr hb g7
      obtain ⟨p,hp⟩ : ∃ p,Hid (Form.sme f t = p):=⟨_,rfl⟩
      have hq2:=Lib.hid hq
      have hwr2:=Lib.hid hwr
      clear mel g0 g1 g2 g3 g4 g5 g6 g7
      cases p
      all_goals go_wp2_with (go_at_call 90;refine (methodV f t _ _ _ _ hp.out (hf0.mono Rd.byB (by simp;omega)) (hvm.mono Rd.byB (by simp;omega))).mono ?_;rintro e w6 ⟨rfl,hb6⟩;have hw6 : Below wr.heap.size wr w6:=Below.trans Rd.byB (hb6.mono (by simp)))
      · go_ret
        exact ⟨ret_bool (by rw [hall0.out];simp [hno.out hp.out]),hwr2.out.trans (hw6.mono hwrs)⟩
      · go_roundw
        case rel=>exact ⟨k + 1,by omega,by go_num,hq2.out.trans (hw6.mono hqs),hyes.out hp.out⟩
        case measure=>simp [intOf];omega
    · have hst:=Lib.hid (Form.all_of (p:=Form.sme f) (fun j hj=>hall.out j hj (by omega)))
      clear hall mel
      go_wp2
      go_ret
      exact ⟨ret_bool (by rw [hall0.out,hst.out];rfl),hwr⟩
end FormW
end Go.Proofs.Ytncmhenfgbcihab
namespace Go.Proofs.Ytncmhenfgbcihab
open Go.RowKit
set_option linter.unusedSimpArgs false
set_option linter.unusedVariables false
namespace Sck
open Num Rd D Mem Hpw Flow HierW FormW
section
variable {w : World} {f : Fi} {vf : Value}
def ChkR (w : World) (f : Fi) (e : Ending) (w' : World) : Prop:=∃ c k : Int,e = .returned (.agg #[.int .i64 c,.int .i64 k,.int .i64 0]) ∧ Below w.heap.size w w' ∧ ((c = 2 ∧ Form.smay f = false) ∨ c = 3 ∨ (c = 0 ∧ Form.smay f = true ∧ ∀ m ∈ f.methods,Chk.okMe f m = true))
theorem methodV (p : Bool) {vm : Value} {m : Me} (S : Run.FiS f) (hmem : m ∈ f.methods) (hf : VFi w w.heap.size vf f) (hm : VMe w w.heap.size vm m) (hp : Chk.okMe f m = p) : Calls Try.prog 47 #[vf,vm] w (MethR w p):=by
  rw [← hp];exact method S hmem hf hm
theorem smayV' (p : Bool) (hf : VFi w w.heap.size vf f) (hp : Form.smay f = p) : Calls Try.prog 46 #[vf] w fun e w'=>e = .returned (.bool p) ∧ Below w.heap.size w w':=by
  rw [← hp];exact smay f vf w hf
set_option maxRecDepth 100000 in
set_option maxHeartbeats 4000000 in
theorem check (hf : VFi w w.heap.size vf f) : Calls Try.prog 14 #[vf] w (ChkR w f):=by
  have HF:=Lib.hid hf
  obtain ⟨vc,vms,rfl,hc,hms⟩:=hf
  obtain ⟨ca,ccap,rfl,_⟩:=hc
  obtain ⟨ma,mcap,rfl,q1,q2,hel⟩:=hms
  have HEL:=Lib.hid hel
  clear hel
  obtain ⟨p,hs⟩ : ∃ p,Hid (Form.smay f = p):=⟨_,Lib.hid rfl⟩
  go_enter Try.func14,Try.ntmps14
  go_wp2_with fail
  refine (smayV' p (HF.out.mono (by exact Rd.byB) (by simp <;> omega)) hs.out).mono ?_
  rintro e w1 ⟨rfl,hb1⟩
  have b0 : w1.cell? ⟨w.heap.size,0,none⟩ = some (.slice ca f.classes.length ccap):=kept hb1 Rd.byL (by go_simp)
  have b1 : w1.cell? ⟨w.heap.size,1,none⟩ = some (.slice ma f.methods.length mcap):=kept hb1 Rd.byL (by go_simp)
  have y0 : w1.cell? ⟨w.heap.size + 1,0,none⟩ = some (.int .i64 0):=kept hb1 Rd.byL (by go_simp)
  have y1 : w1.cell? ⟨w.heap.size + 1,1,none⟩ = some (.int .i64 0):=kept hb1 Rd.byL (by go_simp)
  have y2 : w1.cell? ⟨w.heap.size + 1,2,none⟩ = some (.int .i64 0):=kept hb1 Rd.byL (by go_simp)
  have f0 : w1.frozen? ⟨w.heap.size + 1,0,none⟩ = false:=keptf hb1 Rd.byL (by go_simp)
  have f1 : w1.frozen? ⟨w.heap.size + 1,1,none⟩ = false:=keptf hb1 Rd.byL (by go_simp)
  have f2 : w1.frozen? ⟨w.heap.size + 1,2,none⟩ = false:=keptf hb1 Rd.byL (by go_simp)
  have hbw : Below w.heap.size w w1:=Below.trans (by exact Rd.byB) (hb1.mono (by simp <;> omega))
  have hsz:=hbw.size
  have ly:=cell_lt y0
  clear hb1
  cases p
  · go_wp2
    refine bodyPost_ret (v:=.agg #[.int .i64 2,.int .i64 0,.int .i64 0]) (by simp [results,Try.results14,go_sem] <;> go_simp) rfl ?_
    exact ⟨2,0,rfl,by exact Rd.byB,.inl ⟨rfl,hs.out⟩⟩
  · have S:=Run.fiS_of hs.out
    go_wp2_with fail
    go_loopw [14] (fun c wr=>∃ n : Nat,c = .int .i64 n ∧ n ≤ f.methods.length ∧ Hid (Below w1.heap.size w1 wr) ∧ Hid (∀ j (h : j < f.methods.length),j < n → Chk.okMe f f.methods[j] = true)) (fun c _=>f.methods.length - (intOf c).toNat)
    case atStart=>exact ⟨0,rfl,Nat.zero_le _,Below.refl _ _,fun j _ h=>absurd h (by omega)⟩
    case round =>
      obtain ⟨n,rfl,hn,hbr,hall⟩:=hrel
      have hszr:=hbr.out.size
      have hbwr : Below w.heap.size w wr:=hbw.trans (hbr.out.mono hsz)
      have r0:=kept hbr.out ly y0
      have r1:=kept hbr.out ly y1
      have r2:=kept hbr.out ly y2
      have z0:=keptf hbr.out ly f0
      have z1:=keptf hbr.out ly f1
      have z2:=keptf hbr.out ly f2
      have c0:=kept hbr.out (cell_lt b0) b0
      have c1:=kept hbr.out (cell_lt b0) b1
      have lc:=cell_lt c0
      have lr:=cell_lt r0
      by_cases hlt : n < f.methods.length
      · obtain ⟨mb,mo,rfl,hmb,vp,vd,vh,g0,g1,g2,g3,g4,g5,g6,g7,oks,t1,t2,t3⟩:=HEL.out n hlt
        have hvm : VMe w w.heap.size (.agg #[vp,.int .i64 f.methods[n].ret.kind,.int .i64 f.methods[n].ret.cls,.int .i64 f.methods[n].stack,.int .i64 f.methods[n].locals,.int .i64 f.methods[n].regs,vd,vh]) f.methods[n]:=⟨vp,vd,vh,rfl,oks,t1,t2,t3⟩
        obtain ⟨pa,pcap,rfl,_⟩:=t1
        obtain ⟨da,dcap,rfl,_⟩:=t2
        obtain ⟨ha,hcap,rfl,_⟩:=t3
        have HVM:=Lib.hid hvm
        clear hvm
        obtain ⟨q,hq⟩ : ∃ q,Hid (Chk.okMe f f.methods[n] = q):=⟨_,Lib.hid rfl⟩
        have hmem:=Lib.hid (List.getElem_mem hlt)
        have hst:=Lib.hid (fun j (h : j < f.methods.length) (hj : j < n + 1) (hqt : q = true)=>(show Chk.okMe f f.methods[j] = true from by
          by_cases hj2 : j < n
          · exact hall.out j h hj2
          · obtain rfl : j = n:=by omega
            rw [hq.out];exact hqt))
        replace g0:=kept hbwr hmb g0
        replace g1:=kept hbwr hmb g1
        replace g2:=kept hbwr hmb g2
        replace g3:=kept hbwr hmb g3
        replace g4:=kept hbwr hmb g4
        replace g5:=kept hbwr hmb g5
        replace g6:=kept hbwr hmb g6
        replace g7:=kept hbwr hmb g7
        have lg:=cell_lt g0
        have i9 : (n : Int) < f.methods.length:=by omega
        clear b0 b1 y0 y1 y2 f0 f1 f2
        generalize f.methods[n] = cm at *
        go_wp2_with fail
        refine (methodV q S hmem.out (HF.out.mono (hbwr.trans (by exact Rd.byB)) Rd.byL) (HVM.out.mono (hbwr.trans (by exact Rd.byB)) Rd.byL) hq.out).mono ?_
        rintro e w2 ⟨⟨x1,x2,x3,rfl⟩,hb2⟩
        have hb2r : Below wr.heap.size wr w2:=Below.trans (by exact Rd.byB) (hb2.mono Rd.byL)
        replace r0:=kept hb2r lr r0
        replace r1:=kept hb2r lr r1
        replace r2:=kept hb2r lr r2
        replace z0:=keptf hb2r lr z0
        replace z1:=keptf hb2r lr z1
        replace z2:=keptf hb2r lr z2
        have hb2w : Below w.heap.size w w2:=hbwr.trans (hb2r.mono hbwr.size)
        have ls2:=hb2w.size
        cases q
        · go_wp2
          refine bodyPost_ret (v:=.agg #[.int .i64 3,.int .i64 n,.int .i64 0]) (by simp [results,Try.results14,go_sem] <;> go_simp) rfl ?_
          exact ⟨3,n,rfl,by exact Rd.byB,.inr (.inl rfl)⟩
        · go_wp2
          exact ⟨⟨n + 1,by simp,hlt,Lib.hid (hbr.out.trans (hb2r.mono hszr)),Lib.hid (fun j h hj=>hst.out j h hj (by first | rfl | trivial))⟩,by simp only [intOf];omega⟩
      · go_wp2
        refine bodyPost_ret (v:=.agg #[.int .i64 0,.int .i64 0,.int .i64 0]) (by simp [results,Try.results14,go_sem] <;> go_simp) rfl ?_
        refine ⟨0,0,rfl,by exact Rd.byB,.inr (.inr ⟨rfl,hs.out,fun m hm=>?_⟩)⟩
        obtain ⟨j,hj,rfl⟩:=List.getElem_of_mem hm
        exact hall.out j hj (by omega)
end
end Sck
end Go.Proofs.Ytncmhenfgbcihab
