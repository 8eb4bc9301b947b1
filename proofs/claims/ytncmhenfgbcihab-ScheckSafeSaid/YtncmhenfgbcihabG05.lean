/- Parts of the proof: Sj, Sk, Sn, So, Sp, Sq, Sr, Ss. -/
import Derived.Test.YtncmhenfgbcihabG04
import Derived.Defers
import Derived.Recover
import Derived.Laws.Pointers
import Derived.Test.YtncmhenfgbcihabG03
import Derived.BigQuiet
import Derived.Deep.RegionHeld3
import Derived.Deep.RegionLaw
import Derived.BigRegion
import Derived.Deep.Cut
import Derived.StillTailTactics
namespace Go.Proofs.Ytncmhenfgbcihab
open Go.RowKit
set_option linter.unusedSimpArgs false
set_option linter.unusedVariables false
namespace Sck
open Num Rd D Mem Hpw Flow HierW FormW
section
variable {E : FE} {w0 w w' : World} {B0 mb : Nat} {vs vk0 vk : Value} {s : State}
theorem method_cells (M : MS E w B0 mb vs vk s) {ka : Nat} (h1 : ka < E.f.methods.length) :
    ∃ cb co ccap pa pcap da dcap ha hcap,E.vm = .slice (some ⟨cb,co,none⟩) E.f.methods.length ccap ∧ E.f.methods.length ≤ ccap ∧ ccap ≤ 9223372036854775807 ∧ cb < B0 ∧
      (w.cell? ⟨cb,co + ka * 8,none⟩ = some (.slice pa (Run.meAt E.f ka).params.length pcap) ∧ w.cell? ⟨cb,co + ka * 8 + 1,none⟩ = some (.int .i64 (Run.meAt E.f ka).ret.kind) ∧ w.cell? ⟨cb,co + ka * 8 + 2,none⟩ = some (.int .i64 (Run.meAt E.f ka).ret.cls) ∧
        w.cell? ⟨cb,co + ka * 8 + 3,none⟩ = some (.int .i64 (Run.meAt E.f ka).stack) ∧ w.cell? ⟨cb,co + ka * 8 + 4,none⟩ = some (.int .i64 (Run.meAt E.f ka).locals) ∧ w.cell? ⟨cb,co + ka * 8 + 5,none⟩ = some (.int .i64 (Run.meAt E.f ka).regs) ∧
        w.cell? ⟨cb,co + ka * 8 + 6,none⟩ = some (.slice da (Run.meAt E.f ka).code.length dcap) ∧ w.cell? ⟨cb,co + ka * 8 + 7,none⟩ = some (.slice ha (Run.meAt E.f ka).handlers.length hcap)) ∧
      Sl 2 ETy w B0 (.slice pa (Run.meAt E.f ka).params.length pcap) (Run.meAt E.f ka).params ∧ TOk (Run.meAt E.f ka).ret:=by
  obtain ⟨a,ccap,e,c1,c2,hel⟩:=M.mes
  obtain ⟨cb,co,rfl,hcb,vp,vc,vh,g0,g1,g2,g3,g4,g5,g6,g7,oks,s1,s2,s3⟩:=hel ka h1
  have ea : Run.meAt E.f ka = E.f.methods[ka]:=by unfold Run.meAt;rw [List.getD_eq_getElem?_getD,List.getElem?_eq_getElem h1];rfl
  rw [ea]
  have S1:=s1
  obtain ⟨pa,pcap,rfl,_⟩:=s1
  obtain ⟨da,dcap,rfl,_⟩:=s2
  obtain ⟨ha,hcap,rfl,_⟩:=s3
  exact ⟨cb,co,ccap,pa,pcap,da,dcap,ha,hcap,e,c1,c2,hcb,⟨g0,g1,g2,g3,g4,g5,g6,g7⟩,S1,oks.1,oks.2.1⟩
theorem Gon.step2 {v : State → Value} {o : Option State} {e : Ending} {s' : State} (G : Gon E B0 mb vs vk0 w0 w vk s) (A : AnsO E B0 mb vs vk w v o e w') (h : o = Option.some s') : ∃ vk',Gon E B0 mb vs vk0 w0 w' vk' s' ∧ ∀ g,vk'.ownBlock = Option.some g → vk.ownBlock = Option.some g ∨ w.heap.size ≤ g:=by
  subst h
  obtain ⟨_,⟨vk',M,N⟩,K⟩:=A
  exact ⟨vk',⟨M,fun g hg=>(N g hg).elim (G.N g) (fun e=>.inr (Nat.le_trans G.K.size e)),G.K.trans K G.mo⟩,N⟩
theorem rev_drop {l : List Ty} {j : Nat} (h : j < l.length) : l.reverse.drop j = l.getD (l.length - 1 - j) none_ :: l.reverse.drop (j + 1):=by
  have h2 : j < l.reverse.length:=by simpa using h
  rw [List.drop_eq_getElem_cons h2,List.getElem_reverse,List.getD_eq_getElem?_getD,List.getElem?_eq_getElem (show l.length - 1 - j < l.length by omega)];rfl
theorem takes_cons {c : List Cls} {t : Ty} {ts : List Ty} {s : State} {k : State → Option State} : Chk.takes c (t :: ts) s k = (Chk.take c t s some).bind fun s=>Chk.takes c ts s k:=by
  rw [Chk.takes,take_bind]
set_option maxRecDepth 100000 in
set_option maxHeartbeats 4000000 in
theorem ob19 (M : MS E w B0 mb vs vk s) {o : Option State} (ia ib ic in_ : Int) (a : Option Addr) (n cap : Nat) (hbig : s.stack.length ≤ 1000) (oka : Ok ia) {ka : Nat} (eka : ia = ka) (hka : ka < E.f.methods.length) (hp4 : (Run.meAt E.f ka).params.length ≤ 4) (ho : Hid (o = Chk.takes E.f.classes (Run.meAt E.f ka).params.reverse s fun s=>if (Run.meAt E.f ka).ret.kind = 0 then some s else Chk.put E.m s (Run.meAt E.f ka).ret)) : Calls Try.prog 235 #[.pointer (some ⟨mb,0,none⟩),.agg #[.int .i64 19,.int .i64 ia,.int .i64 ib,.int .i64 ic,.int .i64 in_,.slice a n cap]] w (AnsO E B0 mb vs vk w unit_ o):=by
  subst eka
  have HM:=Lib.hid M
  have G0:=Lib.hid (Gon.start M)
  have d0:=(M.blk 0 (by simp)).1
  have d1:=(M.blk 1 (by simp)).1
  simp only [List.getElem_cons_zero,List.getElem_cons_succ] at d0 d1
  obtain ⟨bad,hck⟩:=M.ck
  have c1:=(hck 1 (by simp [ccells,meV])).1
  have c2:=(hck 2 (by simp [ccells,meV])).1
  have r4:=(hck 4 (by simp [ccells,meV])).1
  have r5:=(hck 5 (by simp [ccells,meV])).1
  simp [ccells,meV] at c1 c2 r4 r5
  have lmb:=M.mbw
  have lcb:=cell_lt c1
  have hb0:=M.base
  have hlow:=M.low
  have nm : ∀ k,mo mb vs vk k → k < w.heap.size:=fun k hk=>(M.mo_lo hk).2
  have ncb : ¬ mo mb vs vk E.cb:=fun hk=>by have:=(M.mo_lo hk).1;omega
  have nbx : ¬ mo mb vs vk w.heap.size:=fun hk=>by have:=nm _ hk;omega
  have nlow : ∀ k,k < B0 → ¬ mo mb vs vk k:=fun k hk hm=>by have:=(M.mo_lo hm).1;omega
  clear hck M
  go_enter Try.func235,Try.ntmps235
  go_wp2_with fail
  obtain ⟨W,hW⟩ : ∃ W,W = w.alloc (.cells #[.int .i64 19,.int .i64 ka,.int .i64 ib,.int .i64 ic,.int .i64 in_,.slice a n cap] 63):=⟨_,rfl⟩
  have hbW : Below w.heap.size w W:=by rw [hW];exact Rd.byB
  have hsW : W.heap.size = w.heap.size + 1:=by rw [hW];simp
  have b0 : W.cell? ⟨w.heap.size,0,none⟩ = some (.int .i64 19):=by rw [hW];go_simp
  have b1 : W.cell? ⟨w.heap.size,1,none⟩ = some (.int .i64 ka):=by rw [hW];go_simp
  have b2 : W.cell? ⟨w.heap.size,2,none⟩ = some (.int .i64 ib):=by rw [hW];go_simp
  replace d0:=kept hbW lmb d0
  replace d1:=kept hbW lmb d1
  replace c1:=kept hbW lcb c1
  replace c2:=kept hbW lcb c2
  replace r4:=kept hbW lcb r4
  replace r5:=kept hbW lcb r5
  replace G0:=Lib.hid (G0.out.below hbW)
  rw [← hW]
  clear hW
  obtain ⟨cb,co,ccap,pa,pcap,da,dcap,ha,hcap,evm,x1,x2,hcb,⟨g0,g1,g2,g3,g4,g5,g6,g7⟩,HP,rok⟩:=method_cells G0.out.M hka
  rw [evm] at c2
  obtain ⟨cm,hcm⟩ : ∃ cm,Hid (Run.meAt E.f ka = cm):=⟨_,Lib.hid rfl⟩
  rw [hcm.out] at g0 g1 g2 g3 g4 g5 g6 g7 HP rok ho hp4
  obtain ⟨⟨rk,rc⟩,hrt⟩ : ∃ r,Hid (cm.ret = r):=⟨_,Lib.hid rfl⟩
  rw [hrt.out] at g1 g2 rok
  simp only at g1 g2
  have lcb2:=cell_lt g0
  have lcb3 : cb < w.heap.size + 1:=by omega
  have lcb4 : w.heap.size < w.heap.size + 1:=by omega
  have i1 : (ka : Int) < E.f.methods.length:=by omega
  have lW : w.heap.size < W.heap.size:=by omega
  obtain ⟨np,hnp⟩ : ∃ np,cm.params.length = np:=⟨_,rfl⟩
  rw [hnp] at g0 hp4
  have HP':=Lib.hid HP
  obtain ⟨pa2,pcap2,e2,p1,p2,hel⟩:=HP
  simp only [Value.slice.injEq] at e2
  obtain ⟨rfl,_,rfl⟩:=e2
  have hel':=Lib.hid hel
  clear hel
  go_wp2_with fail
  go_region
  have s0 : IntKind.i64.wrap ((np : Int) - 1) = (np : Int) - 1:=by rw [Num.wrap_i64,wrap64_id (by unfold Ok;omega)]
  go_wp2_with fail
  have z0 : ∀ (W' : World),True:=fun _=>trivial
  have nmb : ¬ mb = w.heap.size + 1:=by omega
  have nvs : vs.ownBlock ≠ some (w.heap.size + 1):=fun e=>by have:=(HM.out.slots.lt e).2;omega
  have nvk : vk.ownBlock ≠ some (w.heap.size + 1):=fun e=>by have:=(HM.out.stack.lt e).2;omega
  have ho2:=ho.out
  rw [hrt.out] at ho2
  replace ho:=Lib.hid ho2
  clear ho2
  go_loopw [5] (fun v wr=>∃ (j : Nat) (vk1 : Value) (s1 : State),v = .int .i64 ((np : Int) - 1 - j) ∧ j ≤ np ∧ Hid (Gon E B0 mb vs vk w wr vk1 s1) ∧ Hid (o = Chk.takes E.f.classes (cm.params.reverse.drop j) s1 fun s=>if rk = 0 then some s else Chk.put E.m s ⟨rk,rc⟩) ∧ s1.stack.length ≤ 1000 ∧ (wr.cell? ⟨w.heap.size + 1,0,none⟩ = some (.slice pa np pcap) ∧ wr.cell? ⟨w.heap.size + 1,1,none⟩ = some (.int .i64 rk) ∧ wr.cell? ⟨w.heap.size + 1,2,none⟩ = some (.int .i64 rc)) ∧ vk1.ownBlock ≠ some (w.heap.size + 1)) (fun v _=>(intOf v + 1).toNat)
  case atStart=>exact ⟨0,vk,s,by simp,Nat.zero_le _,Lib.hid (G0.out.below (by exact Rd.byB)),ho,hbig,⟨by rw [← hsW];go_simp,by rw [← hsW];go_simp,by rw [← hsW];go_simp⟩,nvk⟩
  case round =>
    obtain ⟨j,vk1,s1,rfl,hj,HG,HO,hl,⟨x0,y1,y2⟩,hnb⟩:=hrel
    have lbx:=cell_lt x0
    have hbB : Below B0 w wr:=HM.out.kb HG.out.K
    have hbB2 : Below B0 W wr:=⟨hbB.os.trans hbW.os.symm,hbB.tape.trans hbW.tape.symm,hbB.output.trans hbW.output.symm,by have:=HG.out.K.size;omega,fun k hk=>(hbB.block k hk).trans (hbW.block k (by omega)).symm⟩
    clear g0 g1 g2 g3 g4 g5 g6 g7 c1 c2 b0 b1 b2 d0 d1 r4 r5 G0
    by_cases hlt : j < np
    · obtain ⟨kk,hkk⟩ : ∃ kk,kk = np - 1 - j:=⟨_,rfl⟩
      have ek : ((np : Int) - 1 - j) = (kk : Int):=by omega
      rw [ek]
      have hkl : kk < cm.params.length:=by omega
      have i2 : (kk : Int) < np:=by omega
      have ekj : kk + j + 1 = np:=by omega
      replace ekj:=Lib.hid ekj
      replace hkk:=Lib.hid hkk
      clear ek
      obtain ⟨pb,po,rfl,hpb,q0,q1,_⟩:=hel'.out kk hkl
      replace q0:=kept hbB2 hpb q0
      replace q1:=kept hbB2 hpb q1
      obtain ⟨⟨tk,tc⟩,ht⟩ : ∃ t,Hid (cm.params[kk] = t):=⟨_,Lib.hid rfl⟩
      rw [ht.out] at q0 q1
      simp only at q0 q1
      have HO2 : Hid (o = (Chk.take E.f.classes ⟨tk,tc⟩ s1 some).bind fun s=>Chk.takes E.f.classes (cm.params.reverse.drop (j + 1)) s fun s=>if rk = 0 then some s else Chk.put E.m s ⟨rk,rc⟩):=by
        show _ = _
        rw [HO.out,rev_drop (by omega),hnp,← hkk.out,List.getD_eq_getElem?_getD,List.getElem?_eq_getElem hkl,Option.getD_some,ht.out,takes_cons]
      clear HO
      have s1w : IntKind.i64.wrap ((kk : Int) - 1) = (kk : Int) - 1:=by rw [Num.wrap_i64,wrap64_id (by unfold Ok;omega)]
      have lpb : pb < wr.heap.size:=cell_lt q0
      go_wp2_with fail
      refine (take HG.out.M ⟨tk,tc⟩ (by omega)).mono ?_
      rintro e w1 A
      rcases A.cases with ⟨s2,h1,rfl⟩ | ⟨h1,rfl⟩
      rotate_left
      · refine And.intro rfl ?_
        exact HG.out.none2 A h1 (by rw [HO2.out,h1];rfl)
      obtain ⟨vk2,G2,N2⟩:=HG.out.step2 A h1
      have l2:=take_len h1
      have KA:=A.kp
      have nbx3 : ¬ mo mb vs vk1 (w.heap.size + 1):=fun hk=>by
        rcases hk with e | e | e
        · exact nmb e.symm
        · exact nvs e
        · exact hnb e
      replace x0:=KA.cell x0 nbx3
      replace y1:=KA.cell y1 nbx3
      replace y2:=KA.cell y2 nbx3
      have h':=HO2.out
      rw [h1,Option.bind_some] at h'
      replace HO2:=Lib.hid h'
      replace G2:=Lib.hid G2
      have hnb2 : vk2.ownBlock ≠ some (w.heap.size + 1):=fun e=>by
        rcases N2 _ e with q | q
        · exact hnb q
        · omega
      clear A h1 h' KA
      go_wp2_with fail
      refine ⟨⟨j + 1,vk2,s2,by have:=ekj.out;congr 1;omega,by omega,G2,HO2,by omega,⟨x0,y1,y2⟩,hnb2⟩,by have:=ekj.out;simp only [intOf];omega⟩
    · have ek : ((np : Int) - 1 - j) = -1:=by omega
      rw [ek]
      have HO2 : Hid (o = if rk = 0 then some s1 else Chk.put E.m s1 ⟨rk,rc⟩):=by
        show _ = _
        rw [HO.out,List.drop_of_length_le (by simp;omega),Chk.takes]
      clear HO
      by_cases q : rk = 0
      · have q0 : (rk != 0) = false:=by simpa using q
        replace HO2:=Lib.hid (HO2.out.trans (if_pos q))
        go_wp2
        first | go_end0 | ((try simp only [Exit.inBlock,Exit.then]);refine bodyPost_ret (results_none rfl _ _ _) rfl ?_)
        exact HG.out.some HO2.out
      · have q0 : (rk != 0) = true:=by simpa using q
        replace ho:=Lib.hid (HO2.out.trans (if_neg q))
        have G0:=HG
        go_wp2_with fail
        refine (put G0.out.M ⟨rk,rc⟩ rok (by omega)).mono ?_
        rintro e w5 A
        have A2:=Lib.hid (G0.out.fin A)
        rcases A.cases with ⟨s5,h1,rfl⟩ | ⟨h1,rfl⟩
        · clear A h1
          go_wp2
          first | go_end0 | ((try simp only [Exit.inBlock,Exit.then]);refine bodyPost_ret (results_none rfl _ _ _) rfl ?_)
          rw [ho.out]
          exact A2.out
        · refine And.intro rfl ?_
          rw [ho.out]
          exact A2.out
end
end Sck
end Go.Proofs.Ytncmhenfgbcihab
namespace Go.Proofs.Ytncmhenfgbcihab
open Go.RowKit
set_option linter.unusedSimpArgs false
set_option linter.unusedVariables false
namespace Sck
open Num Rd D Mem Hpw Flow HierW FormW
section
variable {E : FE} {w0 w w' : World} {B0 mb : Nat} {vs vk0 vk : Value} {s : State}
theorem any_bind {s : State} {k : Ty → State → Option State} : Chk.any s k = (Chk.any s fun _ s=>some s).bind fun s1=>k (Chk.last s) s1:=by
  unfold Chk.any
  split <;> rfl
theorem tkb {o : Option State} {c : List Cls} {t : Ty} {s : State} {k : State → Option State} (h : o = Chk.take c t s k) : o = (Chk.take c t s some).bind k:=h.trans take_bind
theorem anb {o : Option State} {s : State} (h : o = Chk.any s fun x s=>(Chk.put E.m s x).bind fun s=>Chk.put E.m s x) : o = (Chk.any s fun _ s=>some s).bind fun s1=>(Chk.put E.m s1 (Chk.last s)).bind fun s2=>Chk.put E.m s2 (Chk.last s):=h.trans any_bind
set_option maxRecDepth 100000 in
set_option maxHeartbeats 4000000 in
theorem dobj (M : MS E w B0 mb vs vk s) {o : Option State} (op ia ib ic in_ : Int) (a : Option Addr) (n cap : Nat) (hn : op ≠ 1 ∧ op ≠ 2 ∧ op ≠ 25 ∧ op ≠ 3 ∧ op ≠ 4 ∧ op ≠ 5 ∧ op ≠ 6 ∧ op ≠ 7 ∧ op ≠ 8 ∧ op ≠ 9 ∧ op ≠ 10 ∧ op ≠ 12 ∧ op ≠ 22 ∧ op ≠ 23 ∧ op ≠ 24)
    (hob : ∀ W,MS E W B0 mb vs vk s → Calls Try.prog 235 #[.pointer (some ⟨mb,0,none⟩),.agg #[.int .i64 op,.int .i64 ia,.int .i64 ib,.int .i64 ic,.int .i64 in_,.slice a n cap]] W (AnsO E B0 mb vs vk W unit_ o)) :
    Calls Try.prog 197 #[.pointer (some ⟨mb,0,none⟩),.agg #[.int .i64 op,.int .i64 ia,.int .i64 ib,.int .i64 ic,.int .i64 in_,.slice a n cap]] w (AnsO E B0 mb vs vk w unit_ o):=by
  obtain ⟨h1,h2,h25,h3,h4,h5,h6,h7,h8,h9,h10,h12,h22,h23,h24⟩:=hn
  have q1 : (op == 1) = false:=by simpa using h1
  have q2 : (op == 2) = false:=by simpa using h2
  have q25 : (op == 25) = false:=by simpa using h25
  have q3 : (op == 3) = false:=by simpa using h3
  have q4 : (op == 4) = false:=by simpa using h4
  have q5 : (op == 5) = false:=by simpa using h5
  have q6 : (op == 6) = false:=by simpa using h6
  have q7 : (op == 7) = false:=by simpa using h7
  have q8 : (op == 8) = false:=by simpa using h8
  have q9 : (op == 9) = false:=by simpa using h9
  have q10 : (op == 10) = false:=by simpa using h10
  have q12 : (op == 12) = false:=by simpa using h12
  have q22 : (op == 22) = false:=by simpa using h22
  have q23 : (op == 23) = false:=by simpa using h23
  have q24 : (op == 24) = false:=by simpa using h24
  clear h1 h2 h25 h3 h4 h5 h6 h7 h8 h9 h10 h12 h22 h23 h24
  have G0:=Lib.hid (Gon.start M)
  clear M
  go_enter Try.func197,Try.ntmps197
  go_wp2_with fail
  refine (hob _ (G0.out.below (by exact Rd.byB)).M).mono ?_
  rintro e w1 A
  have A2:=Lib.hid ((G0.out.below (by exact Rd.byB)).fin A)
  rcases A.cases with ⟨s1,h1,rfl⟩ | ⟨h1,rfl⟩
  · clear A h1
    go_wp2
    first | go_end0 | ((try simp only [Exit.inBlock,Exit.then]);refine bodyPost_ret (results_none rfl _ _ _) rfl ?_)
    exact A2.out
  · refine And.intro rfl ?_
    exact A2.out
theorem nf_at {l : List Cls} {a : Int} (h : 0 ≤ a ∧ a < l.length) : Form.nf l a = (Hier.at' l a.toNat).fields.length:=by
  unfold Form.nf;first | rfl | (rw [if_pos h]) | simp [h]
theorem does {i : Ins} (M : MS E w B0 mb vs vk s) (S : Run.FiS E.f) (MM : Run.MeS E.f E.m) (hi : Run.InS E.f E.m i) (G : Chk.Gd E.f.classes.length E.m.locals.toNat E.m.stack.toNat s) (oka : Ok i.a) (a : Option Addr) (n cap : Nat) :
    Calls Try.prog 197 #[.pointer (some ⟨mb,0,none⟩),.agg #[.int .i64 i.op,.int .i64 i.a,.int .i64 i.b,.int .i64 i.c,.int .i64 i.n,.slice a n cap]] w (AnsO E B0 mb vs vk w unit_ (Chk.does E.f E.m i s)):=by
  have hfew:=G.few
  have hst:=MM.stack
  have hloc:=MM.locals
  have hlen:=G.len
  have hbig : s.stack.length ≤ 1000:=by omega
  have hsl : s.slots.length ≤ 1000:=by omega
  obtain ⟨op,ia,ib,ic,in_,iargs⟩:=i
  simp only at oka
  have hop:=hi.op
  simp only at hop
  have tk2 : ∀ (t1 t2 x : Ty),(Chk.take E.f.classes t1 s fun s=>Chk.take E.f.classes t2 s fun s=>Chk.put E.m s x) = (Chk.take E.f.classes t1 s some).bind fun s=>(Chk.take E.f.classes t2 s some).bind fun s=>Chk.put E.m s x:=fun t1 t2 x=>by
    rw [take_bind];congr 1;funext s;rw [take_bind]
  by_cases q1 : op = 1
  · subst q1;exact op1 M ia ib ic in_ a n cap hbig oka (Lib.hid rfl)
  by_cases q2 : op = 2
  · subst q2;exact op2 M ia ib ic in_ a n cap hbig oka (Lib.hid rfl)
  by_cases q25 : op = 25
  · subst q25;exact op25 M ia ib ic in_ a n cap hbig oka (Lib.hid rfl)
  by_cases q3 : op = 3
  · subst q3;exact op3 M ia ib ic in_ a n cap hbig oka (Lib.hid rfl)
  by_cases q4 : op = 4
  · subst q4
    obtain ⟨hb,ha0,ha1⟩:=hi.slot (.inl rfl)
    simp only at hb ha0 ha1
    exact op4 M ia ib ic in_ a n cap hbig oka (ka:=ia.toNat) (by omega) (by rw [hlen];unfold Form.wide at ha1;split at ha1 <;> omega) G.pair hsl (Lib.hid rfl)
  by_cases q5 : op = 5
  · subst q5
    obtain ⟨hb,ha0,ha1⟩:=hi.slot (.inr rfl)
    simp only at hb ha0 ha1
    have h1 : ia.toNat < s.slots.length:=by rw [hlen];unfold Form.wide at ha1;split at ha1 <;> omega
    have h2s : (Chk.last s).kind = ib → ib = 2 → ia.toNat + 1 < s.slots.length:=fun _ e=>by rw [hlen];unfold Form.wide at ha1;rw [if_pos e] at ha1;omega
    by_cases q : ib = 3
    · refine op5a M ia ib ic in_ a n cap hbig oka (ka:=ia.toNat) (by omega) h1 G.pair hsl q h2s (Lib.hid ?_)
      show Chk.d5 _ _ _ = _
      unfold Chk.d5
      rw [any_bind]
      simp only [fits_ok q]
    · refine op5b M ia ib ic in_ a n cap hbig oka (ka:=ia.toNat) (by omega) h1 G.pair hsl q h2s (Lib.hid ?_)
      show Chk.d5 _ _ _ = _
      unfold Chk.d5
      rw [any_bind]
      simp only [fits_no q,decide_eq_true_eq,beq_iff_eq]
  by_cases q6 : op = 6
  · subst q6;exact op6 M ia ib ic in_ a n cap hbig oka (Lib.hid (tk2 _ _ _))
  by_cases q7 : op = 7
  · subst q7;exact op7 M ia ib ic in_ a n cap hbig oka (Lib.hid (tk2 _ _ _))
  by_cases q8 : op = 8
  · subst q8;exact op8 M ia ib ic in_ a n cap hbig oka (Lib.hid (tkb rfl))
  by_cases q9 : op = 9
  · subst q9;exact op9 M ia ib ic in_ a n cap hbig oka (Lib.hid (tkb rfl))
  by_cases q10 : op = 10
  · subst q10;exact op10 M ia ib ic in_ a n cap hbig oka (Lib.hid (tk2 _ _ _))
  by_cases q12 : op = 12
  · subst q12;exact op12 M ia ib ic in_ a n cap hbig oka (Lib.hid rfl)
  by_cases q22 : op = 22
  · subst q22;exact op22 M ia ib ic in_ a n cap hbig oka (Lib.hid rfl)
  by_cases q23 : op = 23
  · subst q23;exact op23 M ia ib ic in_ a n cap hbig oka (Lib.hid (anb rfl))
  by_cases q24 : op = 24
  · subst q24;exact op24 M ia ib ic in_ a n cap hbig oka (Lib.hid rfl)
  refine dobj M op ia ib ic in_ a n cap ⟨q1,q2,q25,q3,q4,q5,q6,q7,q8,q9,q10,q12,q22,q23,q24⟩ (fun W M=>?_)
  by_cases q11 : op = 11
  · subst q11;exact ob11 M ia ib ic in_ a n cap hbig oka (Lib.hid rfl)
  by_cases q13 : op = 13
  · subst q13;exact ob13 M ia ib ic in_ a n cap hbig oka (Lib.hid rfl)
  by_cases q21 : op = 21
  · subst q21;exact ob21 M ia ib ic in_ a n cap hbig oka (Lib.hid rfl)
  by_cases q14 : op = 14
  · subst q14;exact ob14 M ia ib ic in_ a n cap hbig oka (Lib.hid rfl)
  by_cases q15 : op = 15
  · subst q15
    have hc:=hi.cls (.inr (.inl rfl))
    have hf:=hi.fld (.inl rfl)
    simp only at hc hf
    rw [nf_at hc] at hf
    exact ob15 M ia ib ic in_ a n cap hbig oka (ka:=ia.toNat) (kb:=ib.toNat) (by omega) (by omega) (by omega) (by omega) (Lib.hid (tkb rfl))
  by_cases q16 : op = 16
  · subst q16
    have hc:=hi.cls (.inr (.inr (.inl rfl)))
    have hf:=hi.fld (.inr rfl)
    simp only at hc hf
    rw [nf_at hc] at hf
    exact ob16 M ia ib ic in_ a n cap hbig oka (ka:=ia.toNat) (kb:=ib.toNat) (by omega) (by omega) (by omega) (by omega) (Lib.hid (tkb rfl))
  by_cases q17 : op = 17
  · subst q17;exact ob17 M ia ib ic in_ a n cap hbig oka (Lib.hid (tkb rfl))
  by_cases q18 : op = 18
  · subst q18;exact ob18 M ia ib ic in_ a n cap hbig oka (Lib.hid (tkb rfl))
  by_cases q19 : op = 19
  · subst q19
    have hm:=hi.meth rfl
    simp only at hm
    have hk : ia.toNat < E.f.methods.length:=by omega
    exact ob19 M ia ib ic in_ a n cap hbig oka (ka:=ia.toNat) (by omega) hk (S.mes _ (Run.meAt_mem hk)).params.1 (Lib.hid rfl)
  by_cases q20 : op = 20
  · subst q20;exact ob20 M ia ib ic in_ a n cap hbig oka (Lib.hid rfl)
  omega
end
end Sck
end Go.Proofs.Ytncmhenfgbcihab
namespace Go.Proofs.Ytncmhenfgbcihab
open Go.RowKit
set_option linter.unusedSimpArgs false
set_option linter.unusedVariables false
namespace Sck
open Num Rd D Mem Hpw Flow HierW FormW
theorem assert_yes (w : World) : (Instr.typeAssert (.iface 280 (.agg #[])) 20 280 true).run Try.prog w = .ok (.tuple #[.agg #[],.bool true]) w:=by kernel_rfl
set_option maxHeartbeats 1000000 in
theorem idle (p : Addr) (w : World) : CallsD Try.prog 196 #[.pointer (some p)] .returning w fun e u' w'=>e = .returned (.tuple #[]) ∧ u' = .returning ∧ w' = w:=by
  refine callsD_of_wpS Try.func196 rfl fun c₀ cs hu=>?_
  apply wpS_seq
  apply wpS_region
  simp [wpOpsS,go_sem,recoverD,hu,Try.ntmps196,Exit.thenS]
  refine wpS_of_wp ?_
  go_wp2
  all_goals (cases c₀;simp_all [bodyPostS,results,Try.results196])
set_option maxRecDepth 100000 in
set_option maxHeartbeats 1000000 in
theorem caught (n : Nat) (older : List PanicEntry) (w : World) (h0 : w.cell? ⟨n, 0, none⟩ = some (.bool false)) (hf : w.frozen? ⟨n, 0, none⟩ = false) :
    CallsD Try.prog 196 #[.pointer (some ⟨n,0,none⟩)] (.panicking ({ v:=.iface 280 (.agg #[]),recovered:=false } :: older)) w fun e u' w' =>
      e = .returned (.tuple #[]) ∧ u' = .panicking ({ v:=.iface 280 (.agg #[]),recovered:=true } :: older) ∧ w' = (w.setCell ⟨n,0,none⟩ (.bool false)).alloc (.cells #[] 280):=by
  have hta:=assert_yes
  have hn:=cell_lt h0
  refine callsD_of_wpS Try.func196 rfl fun c₀ cs hu=>?_
  apply wpS_seq
  apply wpS_region
  simp [wpOpsS,go_sem,recoverD,hu,Try.ntmps196,Exit.thenS]
  rw [show (Array.replicate 14 undef : Array Value) = #[undef,undef,undef,undef,undef,undef,undef,undef,undef,undef,undef,undef,undef,undef] from rfl]
  simp only [List.setIfInBounds_toArray,List.set_cons_succ,List.set_cons_zero,List.append_toArray,List.cons_append,List.nil_append]
  refine wpS_of_wp ?_
  go_wp2
  simp [bodyPostS,results,Try.results196]
section
variable {E : FE} {w0 w w' : World} {B0 mb : Nat} {vs vk0 vk : Value} {s : State}
def TryR (E : FE) (B0 mb : Nat) (vs vk : Value) (w : World) (o : Option State) (e : Ending) (w' : World) : Prop :=
  e = .returned (.bool o.isSome) ∧ Kp (mo mb vs vk) w w' ∧ match o with
    | some s'=>∃ vk',MS E w' B0 mb vs vk' s' ∧ ∀ g,vk'.ownBlock = some g → vk.ownBlock = some g ∨ w.heap.size ≤ g
    | none=>∃ x y z u,Blk w' mb [x,y,z,u]
theorem MS.far (M : MS E w B0 mb vs vk s) {X : Nat → Prop} (K : Kp X w w') (hX : ∀ k,X k → B0 ≤ k ∧ ¬ mo mb vs vk k) : MS E w' B0 mb vs vk s:=by
  have hbB : Below B0 w w':=K.below M.base (fun k hk=>(hX k hk).1)
  obtain ⟨bad,ck⟩:=M.ck
  exact ⟨M.blk.next K (fun e=>(hX _ e).2 (.inl rfl)),M.slots.keep K (fun g hg e=>(hX _ e).2 (.inr (.inl hg))),M.stack.keep K (fun g hg e=>(hX _ e).2 (.inr (.inr hg))),M.lo,M.n1,M.n2,M.n3,M.live,⟨bad,fun j hj=>⟨kept hbB M.low (ck j hj).1,keptf hbB M.low (ck j hj).2⟩⟩,M.cls.mono mCls hbB (Nat.le_refl _),M.mes.mono mMe hbB (Nat.le_refl _),M.low,M.may⟩
set_option maxRecDepth 100000 in
set_option maxHeartbeats 4000000 in
theorem try_ {i : Ins} (M : MS E w B0 mb vs vk s) (S : Run.FiS E.f) (MM : Run.MeS E.f E.m) (hi : Run.InS E.f E.m i) (G : Chk.Gd E.f.classes.length E.m.locals.toNat E.m.stack.toNat s) (oka : Ok i.a) (a : Option Addr) (n cap : Nat) :
    Calls Try.prog 147 #[.pointer (some ⟨mb,0,none⟩),.agg #[.int .i64 i.op,.int .i64 i.a,.int .i64 i.b,.int .i64 i.c,.int .i64 i.n,.slice a n cap]] w (TryR E B0 mb vs vk w (Chk.does E.f E.m i s)):=by
  have hmf : ∀ (fn : Fn) (first cap : Array Value) (w : World),(Instr.makeFunc fn first cap).run Try.prog w = .ok (.func fn first cap) w:=fun _ _ _ _=>rfl
  have G0:=Lib.hid (Gon.start M)
  have nm : ∀ k,mo mb vs vk k → k < w.heap.size:=fun k hk=>(M.mo_lo hk).2
  have nb : ¬ mo mb vs vk (w.heap.size + 1):=fun hk=>by have:=nm _ hk;omega
  obtain ⟨o,ho⟩ : ∃ o,Hid (Chk.does E.f E.m i s = o):=⟨_,Lib.hid rfl⟩
  rw [ho.out]
  go_enter_defers Try.func147,Try.ntmps147
  go_wp2_with fail
  refine (does (G0.out.below (by exact Rd.byB)).M S MM hi G oka a n cap).mono ?_
  rw [ho.out]
  rintro e w1 A
  have A2:=Lib.hid ((G0.out.below (by exact Rd.byB)).fin A)
  have KA:=A.kp
  have c4 : w1.cell? ⟨w.heap.size + 1,0,none⟩ = some (.bool false):=KA.cell (by go_simp) nb
  have f4 : w1.frozen? ⟨w.heap.size + 1,0,none⟩ = false:=KA.frz (by go_simp) (by simp) nb
  have l4:=cell_lt c4
  rcases A.cases with ⟨s1,h1,rfl⟩ | ⟨h1,rfl⟩
  · subst h1
    obtain ⟨_,⟨vk2,M2,N2⟩,_⟩:=A
    have hbase:=M.base
    have nm2 : ¬ mo mb vs vk2 (w.heap.size + 1):=fun hk=>by
      rcases hk with e | e | e
      · exact nb (.inl e)
      · exact nb (.inr (.inl e))
      · rcases N2 _ e with q | q
        · exact nb (.inr (.inr q))
        · simp at q;omega
    have HK2:=Lib.hid (A2.out.kp)
    replace M2:=Lib.hid M2
    replace N2:=Lib.hid N2
    go_wp2_with fail
    refine leaves_cons (f:=196) (args:=#[.pointer (some ⟨w.heap.size + 1,0,none⟩)]) (by simp) (by simp [go_sem]) ?_
    refine (idle _ _).mono ?_
    rintro e u' w'' ⟨rfl,rfl,rfl⟩
    simp [Leaves,settle,results,Try.results147,go_sem,c4,l4]
    have KS : Kp (fun k=>k = w.heap.size + 1) w1 (w1.setCell ⟨w.heap.size + 1,0,none⟩ (.bool true)):=Kp.setCell (Kp.refl (fun k=>k = w.heap.size + 1) w1) (p:=⟨w.heap.size + 1,0,none⟩) (.inl rfl) _
    refine ⟨rfl,HK2.out.setCell (p:=⟨w.heap.size + 1,0,none⟩) (.inr (by simp)) _,vk2,M2.out.far KS (fun k e=>by subst e;exact ⟨by omega,nm2⟩),fun g hg=>(N2.out g hg).imp id (fun e=>by simp at e;omega)⟩
  · subst h1
    clear A
    unfold brk
    go_wp2_with fail
    refine leaves_cons (f:=196) (args:=#[.pointer (some ⟨w.heap.size + 1,0,none⟩)]) (by simp) (by simp [go_sem]) ?_
    refine (caught (w.heap.size + 1) [] _ c4 f4).mono ?_
    rintro e u' w'' ⟨rfl,rfl,rfl⟩
    simp [Leaves,settle,results,Try.results147,go_sem,c4,l4]
    have KS : Kp (fun k=>k = w.heap.size + 1) w1 (w1.setCell ⟨w.heap.size + 1,0,none⟩ (.bool false)):=Kp.setCell (Kp.refl (fun k=>k = w.heap.size + 1) w1) (p:=⟨w.heap.size + 1,0,none⟩) (.inl rfl) _
    obtain ⟨_,⟨x,y,z,u,B⟩,K2⟩:=A2.out
    refine ⟨rfl,(K2.setCell (p:=⟨w.heap.size + 1,0,none⟩) (.inr (by simp)) _).alloc _,x,y,z,u,(B.next KS (fun e=>nb (.inl e.symm))).alloc _⟩
end
end Sck
end Go.Proofs.Ytncmhenfgbcihab
namespace Go.Proofs.Ytncmhenfgbcihab
open Go.RowKit
set_option linter.unusedSimpArgs false
set_option linter.unusedVariables false
namespace Sck
open Num Rd D Mem Hpw Flow HierW FormW
section
variable {w : World} {X X2 : Nat → Prop} {v1 v2 : Value} {l1 l2 : List Ty}
theorem ext_of_getD {l1 l2 : List Ty} (h : l1.length = l2.length) (ha : ∀ j,j < l1.length → l1.getD j none_ = l2.getD j none_) : l1 = l2:=by
  apply List.ext_getElem h
  intro i h1 h2
  have:=ha i h1
  rw [List.getD_eq_getElem?_getD,List.getD_eq_getElem?_getD,List.getElem?_eq_getElem h1,List.getElem?_eq_getElem h2] at this
  exact this
set_option maxRecDepth 100000 in
set_option maxHeartbeats 2000000 in
theorem equalT (h1 : TS w X v1 l1) (h2 : TS w X2 v2 l2) (hl : l1.length ≤ 1000000) : Calls Try.prog 195 #[v1,v2] w fun e w'=>e = .returned (.bool (decide (l1 = l2))) ∧ Below w.heap.size w w':=by
  have H1:=Lib.hid h1
  have H2:=Lib.hid h2
  obtain ⟨a,cap,rfl,q1,q2⟩:=h1.len
  obtain ⟨a2,cap2,rfl,q3,q4⟩:=h2.len
  clear h1 h2
  have hq:=run_neq_ty
  have hg:=run_guard_ty
  by_cases hlen : l1.length = l2.length
  · have hb : ((l1.length : Int) != (l2.length : Int)) = false:=by simp [hlen]
    rw [hlen] at hl
    obtain ⟨n,hn⟩ : ∃ n,n = l2.length:=⟨_,rfl⟩
    have hn1 : l1.length = n:=by omega
    have hn2 : l2.length = n:=by omega
    rw [hn1] at q1 hb ⊢
    rw [hn2] at q3 hb ⊢
    clear hn hlen hb
    have hbig : n ≤ 1000000:=by omega
    go_enter Try.func195,Try.ntmps195
    go_wp2_with fail
    go_loopw [13] (fun i wr=>∃ k : Nat,i = .int .i64 k ∧ k ≤ n ∧ Below w.heap.size w wr ∧ Hid (∀ j,j < k → l1.getD j none_ = l2.getD j none_)) (fun i _=>n - (intOf i).toNat)
    case atStart=>exact ⟨0,rfl,Nat.zero_le _,by exact Rd.byB,fun j h=>absurd h (by omega)⟩
    case round =>
      obtain ⟨k,rfl,hk,hbl,hall⟩:=hrel
      by_cases hlt : k < n
      · obtain ⟨b,o,c1,e1,_,_,hb1,_,hc1⟩:=H1.out.cells (by omega)
        obtain ⟨b2,o2,c2,e2,_,_,hb2,_,hc2⟩:=H2.out.cells (by omega)
        rw [hn1] at e1
        rw [hn2] at e2
        simp only [Value.slice.injEq,true_and] at e1 e2
        obtain ⟨rfl,rfl⟩:=e1
        obtain ⟨rfl,rfl⟩:=e2
        obtain ⟨z0,z1⟩:=hc1 k (by omega)
        obtain ⟨y0,y1⟩:=hc2 k (by omega)
        replace z0:=kept hbl hb1 z0
        replace z1:=kept hbl hb1 z1
        replace y0:=kept hbl hb2 y0
        replace y1:=kept hbl hb2 y1
        obtain ⟨⟨xk,xc⟩,hx⟩ : ∃ x,Hid (l1.getD k none_ = x):=⟨_,Lib.hid rfl⟩
        obtain ⟨⟨yk,yc⟩,hy⟩ : ∃ x,Hid (l2.getD k none_ = x):=⟨_,Lib.hid rfl⟩
        rw [hx.out] at z0 z1
        rw [hy.out] at y0 y1
        simp only at z0 z1 y0 y1
        have i1 : (k : Int) < n:=by omega
        clear hc1 hc2
        by_cases heq : xk = yk ∧ xc = yc
        · obtain ⟨rfl,rfl⟩:=heq
          have p1 : (!(xk == xk && xc == xc)) = false:=by simp
          go_wp2
          go_quiet (fail)
          go_wp2
          refine ⟨⟨k + 1,by simp,hlt,by exact Rd.byB,fun j hj=>?_⟩,by simp only [intOf];omega⟩
          by_cases hj2 : j < k
          · exact hall.out j hj2
          · obtain rfl : j = k:=by omega
            rw [hx.out,hy.out]
        · have p1 : (!(xk == yk && xc == yc)) = true := by
            cases h : (xk == yk && xc == yc)
            · rfl
            · simp at h;exact absurd h heq
          go_wp2
          go_quiet (fail)
          go_wp2
          go_ret
          refine ⟨ret_bool ?_,by exact Rd.byB⟩
          symm
          refine decide_eq_false (fun e=>heq ?_)
          have:=hy.out
          rw [← e,hx.out] at this
          injection this with t1 t2
          exact ⟨t1,t2⟩
      · go_wp2
        go_ret
        refine ⟨ret_bool ?_,by exact Rd.byB⟩
        symm
        exact decide_eq_true (ext_of_getD (by omega) (fun j hj=>hall.out j (by omega)))
  · have hb : ((l1.length : Int) != (l2.length : Int)) = true:=by simp;omega
    go_enter Try.func195,Try.ntmps195
    go_wp2
    go_ret
    exact ⟨ret_bool (by symm;exact decide_eq_false (fun e=>hlen (by rw [e]))),by exact Rd.byB⟩
theorem equalV (p : Bool) (h1 : TS w X v1 l1) (h2 : TS w X2 v2 l2) (hl : l1.length ≤ 1000000) (hp : decide (l1 = l2) = p) : Calls Try.prog 195 #[v1,v2] w fun e w'=>e = .returned (.bool p) ∧ Below w.heap.size w w':=by
  subst hp;exact equalT h1 h2 hl
theorem state_dec (a b : State) : decide (a = b) = ((a.broken == b.broken) && decide (a.slots = b.slots) && decide (a.stack = b.stack)):=by
  obtain ⟨s1,k1,b1⟩:=a
  obtain ⟨s2,k2,b2⟩:=b
  rw [Bool.eq_iff_iff]
  simp only [decide_eq_true_eq,Bool.and_eq_true,beq_iff_eq,State.mk.injEq]
  constructor
  · rintro ⟨h1,h2,h3⟩;exact ⟨⟨h3,h1⟩,h2⟩
  · rintro ⟨⟨h3,h1⟩,h2⟩;exact ⟨h1,h2,h3⟩
set_option maxRecDepth 100000 in
set_option maxHeartbeats 2000000 in
theorem same {va vb : Value} {a b : State} (ha : VSt w X va a) (hb : VSt w X2 vb b) (hl : a.slots.length ≤ 1000000) (hl2 : a.stack.length ≤ 1000000) : Calls Try.prog 146 #[va,vb] w fun e w'=>e = .returned (.bool (decide (a = b))) ∧ Below w.heap.size w w':=by
  obtain ⟨av,aw,rfl,s1,k1⟩:=ha
  obtain ⟨bs,bk,rfl,s2,k2⟩:=hb
  have S1:=Lib.hid s1
  have S2:=Lib.hid s2
  have K1:=Lib.hid k1
  have K2:=Lib.hid k2
  obtain ⟨c1,n1,rfl,_⟩:=s1.len
  obtain ⟨c2,n2,rfl,_⟩:=k1.len
  obtain ⟨c3,n3,rfl,_⟩:=s2.len
  obtain ⟨c4,n4,rfl,_⟩:=k2.len
  clear s1 s2 k1 k2
  replace hl:=Lib.hid hl
  replace hl2:=Lib.hid hl2
  obtain ⟨p1,h1⟩ : ∃ p,Hid ((a.broken == b.broken) = p):=⟨_,Lib.hid rfl⟩
  obtain ⟨p2,h2⟩ : ∃ p,Hid (decide (a.slots = b.slots) = p):=⟨_,Lib.hid rfl⟩
  obtain ⟨p3,h3⟩ : ∃ p,Hid (decide (a.stack = b.stack) = p):=⟨_,Lib.hid rfl⟩
  have hdec : Hid (decide (a = b) = (p1 && p2 && p3)):=by
    show _ = _
    rw [state_dec,h1.out,h2.out,h3.out]
  have h1':=h1.out
  cases p1
  ·
    go_enter Try.func146,Try.ntmps146
    go_wp2
    go_ret
    exact ⟨ret_bool (by symm;rw [hdec.out];first | rfl | simp),by exact Rd.byB⟩
  cases p2
  ·
    go_enter Try.func146,Try.ntmps146
    go_wp2_with (go_at_call 195;refine (equalV false (S1.out.below (X':=fun _=>False) (by exact Rd.byB) (fun _ _ e=>e.elim)) (S2.out.below (X':=fun _=>False) (by exact Rd.byB) (fun _ _ e=>e.elim)) hl.out h2.out).mono ?_;rintro e w2 ⟨rfl,hb2⟩)
    go_ret
    exact ⟨ret_bool (by symm;rw [hdec.out];first | rfl | simp),by exact Below.trans Rd.byB (hb2.mono Rd.byL)⟩
  go_enter Try.func146,Try.ntmps146
  go_wp2_with (first | (go_at_call 195;refine (equalV p3 (K1.out.below (X':=fun _=>False) hb2W (fun _ _ e=>e.elim)) (K2.out.below (X':=fun _=>False) hb2W (fun _ _ e=>e.elim)) hl2.out h3.out).mono ?_;rintro e w3 ⟨rfl,hb3⟩) | (go_at_call 195;refine (equalV true (S1.out.below (X':=fun _=>False) (by exact Rd.byB) (fun _ _ e=>e.elim)) (S2.out.below (X':=fun _=>False) (by exact Rd.byB) (fun _ _ e=>e.elim)) hl.out h2.out).mono ?_;rintro e w2 ⟨rfl,hb2⟩;have hb2W : Below w.heap.size w w2:=Below.trans (by exact Rd.byB) (hb2.mono Rd.byL);have x1 : w2.cell? ⟨w.heap.size,1,none⟩ = some (.slice c2 a.stack.length n2):=kept hb2 Rd.byL (by go_simp);have y1 : w2.cell? ⟨w.heap.size + 1,1,none⟩ = some (.slice c4 b.stack.length n4):=kept hb2 Rd.byL (by go_simp)))
  go_ret
  exact ⟨ret_bool (by symm;rw [hdec.out];first | rfl | simp),by exact Below.trans hb2W (hb3.mono hb2W.size)⟩
end
end Sck
end Go.Proofs.Ytncmhenfgbcihab
namespace Go.Proofs.Ytncmhenfgbcihab
open Go.RowKit
set_option linter.unusedSimpArgs false
set_option linter.unusedVariables false
namespace Sck
open Num Rd D Mem Hpw Flow HierW FormW
theorem kpb2 {X : Nat → Prop} {w0 w1 w2 : World} (K : Kp X w0 w1) (hb : Below w1.heap.size w1 w2) : Kp X w0 w2:=K.trans (Kp.of_below (X:=fun _=>False) hb (Nat.le_refl _)) (fun _ h=>h.elim)
def zn (c : List Cls) (n : Nat) (l m : List Ty) : List Ty:=(List.range l.length).map fun i=>if i < n then Flow.both c (l.getD i none_) (m.getD i none_) else l.getD i none_
section
variable {c : List Cls} {l m : List Ty}
theorem zn_len (n : Nat) : (zn c n l m).length = l.length:=by unfold zn;simp
theorem zn_getD (n i : Nat) (hi : i < l.length) : (zn c n l m).getD i none_ = if i < n then Flow.both c (l.getD i none_) (m.getD i none_) else l.getD i none_:=by
  unfold zn
  rw [List.getD_eq_getElem?_getD,List.getElem?_map,List.getElem?_range hi];rfl
theorem zn_zero : zn c 0 l m = l:=ext_of_getD (zn_len 0) (fun j hj=>by rw [zn_len] at hj;rw [zn_getD 0 j hj,if_neg (by omega)])
theorem zn_all (h : l.length = m.length) : zn c l.length l m = zip c l m:=ext_of_getD (by rw [zn_len,Flow.zip_len]) (fun j hj=>by rw [zn_len] at hj;rw [zn_getD _ j hj,if_pos hj,Flow.zip_getD l m j h,if_pos hj])
theorem zn_succ (n : Nat) (hn : n < l.length) : zn c (n + 1) l m = (zn c n l m).set n (Flow.both c (l.getD n none_) (m.getD n none_)):=ext_of_getD (by simp [zn_len]) (fun j hj=>by
  rw [zn_len] at hj
  rw [zn_getD _ j hj,Chk.getD_set,zn_len,zn_getD _ j hj]
  by_cases e : j = n
  · subst e;rw [if_pos (by omega),if_pos ⟨rfl,hn⟩]
  · by_cases e2 : j < n
    · rw [if_pos (by omega),if_neg (by omega),if_pos e2]
    · rw [if_neg (by omega),if_neg (by omega),if_neg e2])
theorem tok_both (hm : Hier.may c = true) {a b : Ty} (wa : Wf c.length a) (wb : Wf c.length b) (ha : TOk a) (hb : TOk b) : TOk (Flow.both c a b):=by
  have hlen : c.length ≤ 12:=((Hier.may_iff c).1 hm).1.2
  unfold Flow.both
  split
  · exact ha
  · split
    · exact hb
    · split
      · exact ha
      · split
        · rename_i h
          have:=Hier.meet_range hm (wa.1 h.1) (wb.1 h.2)
          exact ⟨by unfold Ok;simp only;omega,by unfold Ok;simp only;omega⟩
        · exact tok_none
theorem any_zip {n : Nat} (h : l.length = m.length) (hn : n < l.length) (h0 : (Flow.both c (l.getD n none_) (m.getD n none_)).kind = 0) : (zip c l m).any (fun x=>decide (x.kind = 0)) = true:=by
  rw [List.any_eq_true]
  have hl : n < (zip c l m).length:=by rw [Flow.zip_len];exact hn
  refine ⟨(zip c l m)[n],List.getElem_mem hl,?_⟩
  have:=Flow.zip_getD (c:=c) l m n h
  rw [if_pos hn,List.getD_eq_getElem?_getD,List.getElem?_eq_getElem hl] at this
  simp only [Option.getD_some] at this
  rw [this];simpa using h0
theorem no_zip (h : l.length = m.length) (h0 : ∀ n,n < l.length → (Flow.both c (l.getD n none_) (m.getD n none_)).kind ≠ 0) : (zip c l m).any (fun x=>decide (x.kind = 0)) = false:=by
  rw [List.any_eq_false]
  intro x hx
  obtain ⟨n,hn,rfl⟩:=List.getElem_of_mem hx
  have hn2 : n < l.length:=by rw [Flow.zip_len] at hn;exact hn
  have:=Flow.zip_getD (c:=c) l m n h
  rw [if_pos hn2,List.getD_eq_getElem?_getD,List.getElem?_eq_getElem hn] at this
  simp only [Option.getD_some] at this
  rw [this];simpa using h0 n hn2
end
section
variable {w : World} {X X2 : Nat → Prop} {c : List Cls} {nl ns : Nat} {va vb vc : Value} {a b : State}
def TogR (w : World) (r : State) (e : Ending) (w' : World) : Prop:=∃ v',e = .returned v' ∧ VSt w' (fun k=>k < w.heap.size) v' r ∧ Below w.heap.size w w'
theorem togBad {w w' : World} {r : State} (h : r = State.bad) (hb : Below w.heap.size w w') : TogR w r (.returned (.agg #[.slice none 0 0,.slice none 0 0,.bool true])) w':=by
  subst h;exact ⟨_,rfl,VSt.bad _ _,hb⟩
set_option maxRecDepth 100000 in
set_option maxHeartbeats 2000000 in
theorem tog1 (hm : Hier.may c = true) (hc : Cs w vc c) (ha : VSt w X va a) (hb : VSt w X2 vb b) (h : a.broken = true ∨ b.broken = true ∨ a.stack.length ≠ b.stack.length) : Calls Try.prog 145 #[vc,va,vb] w (TogR w (Flow.together c a b)):=by
  have hr : Hid (Flow.together c a b = State.bad):=by show _ = _;unfold Flow.together;rw [if_pos h]
  rw [hr.out]
  obtain ⟨av,aw,rfl,s1,k1⟩:=ha
  obtain ⟨bv,bw,rfl,s2,k2⟩:=hb
  have S1:=Lib.hid s1
  have S2:=Lib.hid s2
  have K1:=Lib.hid k1
  have K2:=Lib.hid k2
  obtain ⟨c1,n1,rfl,_⟩:=s1.len
  obtain ⟨c2,n2,rfl,_⟩:=k1.len
  obtain ⟨c3,n3,rfl,_⟩:=s2.len
  obtain ⟨c4,n4,rfl,_⟩:=k2.len
  clear s1 s2 k1 k2
  by_cases h1 : a.broken = true
  · go_enter Try.func145,Try.ntmps145
    go_wp2
    refine bodyPost_ret (v:=.agg #[.slice none 0 0,.slice none 0 0,.bool true]) (by simp [results,Try.results145,go_sem] <;> go_simp) rfl ?_
    exact togBad rfl (by exact Rd.byB)
  · have h1' : a.broken = false:=by simpa using h1
    by_cases h2 : b.broken = true
    · go_enter Try.func145,Try.ntmps145
      go_wp2
      refine bodyPost_ret (v:=.agg #[.slice none 0 0,.slice none 0 0,.bool true]) (by simp [results,Try.results145,go_sem] <;> go_simp) rfl ?_
      exact togBad rfl (by exact Rd.byB)
    · have h2' : b.broken = false:=by simpa using h2
      have h3 : ((a.stack.length : Int) != (b.stack.length : Int)) = true:=by
        rcases h with h | h | h
        · exact absurd h h1
        · exact absurd h h2
        · simp;omega
      have h3' : ¬ (a.stack.length : Int) = (b.stack.length : Int):=by simpa using h3
      go_enter Try.func145,Try.ntmps145
      go_wp2
      refine bodyPost_ret (v:=.agg #[.slice none 0 0,.slice none 0 0,.bool true]) (by simp [results,Try.results145,go_sem] <;> go_simp) rfl ?_
      exact togBad rfl (by exact Rd.byB)
set_option maxRecDepth 100000 in
set_option maxHeartbeats 8000000 in
theorem tog2 (hm : Hier.may c = true) (hc : Cs w vc c) (ha : VSt w X va a) (hb : VSt w X2 vb b) (h1 : a.broken = false) (h2 : b.broken = false) (hsl : a.slots.length = b.slots.length) (hkl : a.stack.length = b.stack.length) (ws : WfL c.length a.slots) (wk : WfL c.length a.stack) (ws2 : WfL c.length b.slots) (wk2 : WfL c.length b.stack) (hnl : a.slots.length ≤ 1000) (hns : a.stack.length ≤ 1000) : Calls Try.prog 145 #[vc,va,vb] w (TogR w (Flow.together c a b)):=by
  have HW1:=Lib.hid ws
  have HW2:=Lib.hid wk
  have HW3:=Lib.hid ws2
  have HW4:=Lib.hid wk2
  have hwf:=Hier.wf_of_may hm
  obtain ⟨ca,ccap,evc,_⟩:=id hc
  have HC:=Lib.hid hc
  rw [evc] at HC ⊢
  obtain ⟨av,aw,rfl,s1,k1⟩:=ha
  obtain ⟨bv,bw,rfl,s2,k2⟩:=hb
  have S1:=Lib.hid s1
  have S2:=Lib.hid s2
  have K1:=Lib.hid k1
  have K2:=Lib.hid k2
  obtain ⟨c1,n1,rfl,_⟩:=s1.len
  obtain ⟨c2,n2,rfl,_⟩:=k1.len
  obtain ⟨c3,n3,rfl,_⟩:=s2.len
  obtain ⟨c4,n4,rfl,_⟩:=k2.len
  clear s1 s2 k1 k2
  obtain ⟨sa,ka,ba⟩:=a
  obtain ⟨sb,kb,bb⟩:=b
  simp only at h1 h2 hsl hkl hnl hns HW1 HW2 HW3 HW4 S1 S2 K1 K2
  subst h1
  subst h2
  clear ws wk ws2 wk2 hc
  have hsl':=Lib.hid hsl
  have hkl':=Lib.hid hkl
  rw [← hsl] at S2
  rw [← hkl] at K2
  have hrow : Hid (Flow.together c ⟨sa,ka,false⟩ ⟨sb,kb,false⟩ = if (zip c ka kb).any (fun x=>decide (x.kind = 0)) = true then State.bad else ⟨zip c sa sb,zip c ka kb,false⟩):=by
    show _ = _;unfold Flow.together;rw [if_neg (by simp [hkl])]
  generalize hres : Flow.together c ⟨sa,ka,false⟩ ⟨sb,kb,false⟩ = res at hrow ⊢
  simp only
  rw [← hsl,← hkl]
  clear hres hsl hkl evc
  replace hnl:=Lib.hid hnl
  replace hns:=Lib.hid hns
  have hV : VSt w X (.agg #[.slice c1 sa.length n1,.slice c2 ka.length n2,.bool false]) ⟨sa,ka,false⟩:=⟨_,_,rfl,S1.out,K1.out⟩
  have HV:=Lib.hid hV
  clear hV
  go_enter Try.func145,Try.ntmps145
  go_wp2_with (go_at_call 144;refine (clone (HV.out.below (X':=fun _=>False) (by exact Rd.byB) (fun _ _ e=>e.elim)) (Nat.le_trans hnl.out (by decide)) (Nat.le_trans hns.out (by decide))).mono ?_;rintro e w2 ⟨vs,vk,rfl,R1,R2,N12,hb2⟩;obtain ⟨g1,d1,rfl⟩:=R1.any;obtain ⟨g2,d2,rfl⟩:=R2.any;replace R1:=Lib.hid R1;replace R2:=Lib.hid R2;replace N12:=Lib.hid N12;simp only)
  obtain ⟨W3,hW3⟩ : ∃ W3,W3 = w2.alloc (.cells #[.slice g1 sa.length d1,.slice g2 ka.length d2,.bool false] 157):=⟨_,rfl⟩
  have hs2:=hb2.size
  simp at hs2
  have hb3 : Below (w.heap.size + 3) (((w.alloc (.cells #[.slice c1 sa.length n1,.slice c2 ka.length n2,.bool false] 157)).alloc (.cells #[.slice c3 sa.length n3,.slice c4 ka.length n4,.bool false] 157)).alloc (.cells #[.slice none 0 0,.slice none 0 0,.bool false] 157)) W3:=by
    rw [hW3]
    exact (hb2.mono Rd.byL).alloc Rd.byL _
  have hbW : Below w.heap.size w W3:=Below.trans (by exact Rd.byB) (hb3.mono Rd.byL)
  have a0 : W3.cell? ⟨w.heap.size,0,none⟩ = some (.slice c1 sa.length n1):=kept hb3 Rd.byL (by go_simp)
  have a1 : W3.cell? ⟨w.heap.size,1,none⟩ = some (.slice c2 ka.length n2):=kept hb3 Rd.byL (by go_simp)
  have b0 : W3.cell? ⟨w.heap.size + 1,0,none⟩ = some (.slice c3 sa.length n3):=kept hb3 Rd.byL (by go_simp)
  have b1 : W3.cell? ⟨w.heap.size + 1,1,none⟩ = some (.slice c4 ka.length n4):=kept hb3 Rd.byL (by go_simp)
  have r0 : W3.cell? ⟨w.heap.size + 1 + 1,0,none⟩ = some (.slice none 0 0):=kept hb3 Rd.byL (by go_simp)
  have r1 : W3.cell? ⟨w.heap.size + 1 + 1,1,none⟩ = some (.slice none 0 0):=kept hb3 Rd.byL (by go_simp)
  have r2 : W3.cell? ⟨w.heap.size + 1 + 1,2,none⟩ = some (.bool false):=kept hb3 Rd.byL (by go_simp)
  have f0 : W3.frozen? ⟨w.heap.size + 1 + 1,0,none⟩ = false:=keptf hb3 Rd.byL (by go_simp)
  have f1 : W3.frozen? ⟨w.heap.size + 1 + 1,1,none⟩ = false:=keptf hb3 Rd.byL (by go_simp)
  have f2 : W3.frozen? ⟨w.heap.size + 1 + 1,2,none⟩ = false:=keptf hb3 Rd.byL (by go_simp)
  have s0 : W3.cell? ⟨w2.heap.size,0,none⟩ = some (.slice g1 sa.length d1):=by rw [hW3];go_simp
  have s1 : W3.cell? ⟨w2.heap.size,1,none⟩ = some (.slice g2 ka.length d2):=by rw [hW3];go_simp
  have s2 : W3.cell? ⟨w2.heap.size,2,none⟩ = some (.bool false):=by rw [hW3];go_simp
  have hsz3 : W3.heap.size = w2.heap.size + 1:=by rw [hW3];simp
  have T1 : Hid (TR W3 (w.heap.size + 3) (.slice g1 sa.length d1) (zn c 0 sa sb)):=by
    show TR _ _ _ _
    rw [zn_zero];exact (R1.out.below (by rw [hW3];exact Rd.byB)).low Rd.byL
  have T2 : Hid (TR W3 (w.heap.size + 3) (.slice g2 ka.length d2) (zn c 0 ka kb)):=by
    show TR _ _ _ _
    rw [zn_zero];exact (R2.out.below (by rw [hW3];exact Rd.byB)).low Rd.byL
  have q1 : Hid (∀ g,(Value.slice g1 sa.length d1).ownBlock = some g → w.heap.size + 3 ≤ g ∧ g < w2.heap.size):=fun g hg=>by have:=R1.out.lt hg;(try simp at this);omega
  have q2 : Hid (∀ g,(Value.slice g2 ka.length d2).ownBlock = some g → w.heap.size + 3 ≤ g ∧ g < w2.heap.size):=fun g hg=>by have:=R2.out.lt hg;(try simp at this);omega
  have nX : ∀ b,b < w.heap.size → w.heap.size ≤ b → False:=fun b h1 h2=>by omega
  have SA:=Lib.hid (S1.out.below (X':=fun k=>w.heap.size ≤ k) hbW (fun b h1 h2=>(nX b h1 h2).elim))
  have SB:=Lib.hid (S2.out.below (X':=fun k=>w.heap.size ≤ k) hbW (fun b h1 h2=>(nX b h1 h2).elim))
  have KA:=Lib.hid (K1.out.below (X':=fun k=>w.heap.size ≤ k) hbW (fun b h1 h2=>(nX b h1 h2).elim))
  have KB:=Lib.hid (K2.out.below (X':=fun k=>w.heap.size ≤ k) hbW (fun b h1 h2=>(nX b h1 h2).elim))
  have oks : Hid (TsOk sa ∧ TsOk sb ∧ TsOk ka ∧ TsOk kb):=⟨S1.out.2,S2.out.2,K1.out.2,K2.out.2⟩
  have CW:=Lib.hid (HC.out.next hbW)
  rw [← hW3]
  clear hW3 hb2 R1 R2 S1 S2 K1 K2 HV hb3
  go_loopw [31] (fun v wr=>∃ n : Nat,v = .int .i64 n ∧ n ≤ sa.length ∧ Hid (Kp (fun k=>(Value.slice g1 sa.length d1).ownBlock = some k) W3 wr) ∧ Hid (TR wr (w.heap.size + 3) (.slice g1 sa.length d1) (zn c n sa sb))) (fun v _=>sa.length - (intOf v).toNat)
  case atStart=>exact ⟨0,rfl,Nat.zero_le _,Kp.refl _ _,T1⟩
  case round =>
    obtain ⟨n,rfl,hn,KP,TN⟩:=hrel
    have ne : ∀ k,(w.heap.size + 3 ≤ k → w2.heap.size ≤ k) → ¬ (Value.slice g1 sa.length d1).ownBlock = some k:=fun k hk e=>by have:=q1.out k e;omega
    have a0':=KP.out.cell a0 (ne _ (by omega))
    have a1':=KP.out.cell a1 (ne _ (by omega))
    have b0':=KP.out.cell b0 (ne _ (by omega))
    have b1':=KP.out.cell b1 (ne _ (by omega))
    have r0':=KP.out.cell r0 (ne _ (by omega))
    have r1':=KP.out.cell r1 (ne _ (by omega))
    have r2':=KP.out.cell r2 (ne _ (by omega))
    have f0':=KP.out.frz f0 (cell_lt r0) (ne _ (by omega))
    have f1':=KP.out.frz f1 (cell_lt r0) (ne _ (by omega))
    have f2':=KP.out.frz f2 (cell_lt r0) (ne _ (by omega))
    have s0':=KP.out.cell s0 (ne _ (by omega))
    have s1':=KP.out.cell s1 (ne _ (by omega))
    have s2':=KP.out.cell s2 (ne _ (by omega))
    have hszr:=KP.out.size
    by_cases hlt : n < sa.length
    · clear a0 a1 b0 b1 r0 r1 r2 f0 f1 f2 s0 s1 s2
      obtain ⟨pa,oa,pcap,e1,_,_,lpa,npa,hca⟩:=SA.out.cells (by omega)
      obtain ⟨pb,ob,pcap2,e2,_,_,lpb,npb,hcb⟩:=SB.out.cells (by rw [← hsl'.out];omega)
      simp only [Value.slice.injEq,true_and] at e1
      obtain ⟨rfl,rfl⟩:=e1
      rw [← hsl'.out] at e2
      simp only [Value.slice.injEq,true_and] at e2
      obtain ⟨rfl,rfl⟩:=e2
      obtain ⟨z0,z1⟩:=hca n hlt
      obtain ⟨y0,y1⟩:=hcb n (by rw [← hsl'.out];exact hlt)
      obtain ⟨og,dcap,e3,_,_,k3,k4,hcs⟩:=TN.out.form (by rw [zn_len];omega)
      rw [zn_len] at e3
      simp only [Value.slice.injEq,true_and] at e3
      obtain ⟨rfl,rfl⟩:=e3
      obtain ⟨x0,x1,x2,x3⟩:=hcs n (by rw [zn_len];exact hlt)
      have hq:=q1.out og rfl
      have npa' : ¬ og = pa:=fun e=>by omega
      have npb' : ¬ og = pb:=fun e=>by omega
      have npa2 : ¬ pa = og:=fun e=>by omega
      have npb2 : ¬ pb = og:=fun e=>by omega
      have no1 : ¬ og = w.heap.size:=by omega
      have no2 : ¬ og = w.heap.size + 1:=by omega
      have no3 : ¬ og = w2.heap.size:=by omega
      have no4 : ¬ w.heap.size = og:=by omega
      have no5 : ¬ w.heap.size + 1 = og:=by omega
      have no6 : ¬ w2.heap.size = og:=by omega
      replace z0:=KP.out.cell z0 (fun e=>npa' (by simpa [Value.ownBlock] using e))
      replace z1:=KP.out.cell z1 (fun e=>npa' (by simpa [Value.ownBlock] using e))
      replace y0:=KP.out.cell y0 (fun e=>npb' (by simpa [Value.ownBlock] using e))
      replace y1:=KP.out.cell y1 (fun e=>npb' (by simpa [Value.ownBlock] using e))
      obtain ⟨⟨xk,xc⟩,hA⟩ : ∃ x,Hid (sa.getD n none_ = x):=⟨_,Lib.hid rfl⟩
      obtain ⟨⟨yk,yc⟩,hB⟩ : ∃ x,Hid (sb.getD n none_ = x):=⟨_,Lib.hid rfl⟩
      obtain ⟨⟨uk,uc⟩,hU⟩ : ∃ x,Hid ((zn c n sa sb).getD n none_ = x):=⟨_,Lib.hid rfl⟩
      rw [hA.out] at z0 z1
      rw [hB.out] at y0 y1
      rw [hU.out] at x0 x1
      simp only at z0 z1 y0 y1 x0 x1
      obtain ⟨⟨rk,rc⟩,hR⟩ : ∃ x,Hid (Flow.both c ⟨xk,xc⟩ ⟨yk,yc⟩ = x):=⟨_,Lib.hid rfl⟩
      have hRt : TOk ⟨rk,rc⟩:=by
        rw [← hR.out,← hA.out,← hB.out]
        exact tok_both hm (Chk.getD_wf HW1.out n) (Chk.getD_wf HW3.out n) (TsOk.getD (oks.out.1) n) (TsOk.getD (oks.out.2.1) n)
      have i1 : (n : Int) < sa.length:=by omega
      have hbR : Below w.heap.size w wr:=hbW.trans (KP.out.below (by have:=hbW.size;omega) (fun k e=>by have:=q1.out k e;omega))
      have CR:=Lib.hid (HC.out.next hbR)
      clear hca hcb hcs
      go_wp2_with fail
      refine wp_region_held_drew (S:=fun w'=>(w'.cell? ⟨w2.heap.size,0,none⟩ = some (.slice (some ⟨og,0,none⟩) sa.length d1) ∧ w'.cell? ⟨w.heap.size,0,none⟩ = some (.slice (some ⟨pa,oa,none⟩) sa.length n1) ∧ w'.cell? ⟨w.heap.size + 1,0,none⟩ = some (.slice (some ⟨pb,ob,none⟩) sa.length n3)) ∧ (w'.cell? ⟨pa,oa + n * 2,none⟩ = some (.int .i64 xk) ∧ w'.cell? ⟨pa,oa + n * 2 + 1,none⟩ = some (.int .i64 xc)) ∧ w'.cell? ⟨pb,ob + n * 2,none⟩ = some (.int .i64 yk) ∧ w'.cell? ⟨pb,ob + n * 2 + 1,none⟩ = some (.int .i64 yc)) (by kernel_rfl) (by (try dsimp only);exact ⟨⟨s0',a0',b0'⟩,⟨z0,z1⟩,y0,y1⟩) (fun hHeld=>?_)
      refine Drawn.tk 0 (some 34) rfl rfl (by assumption) ?_
      try simp only [Act.put,Drawn.La,Drawn.Lb,Drawn.Lc]
      refine Drawn.tk 1 (some 35) rfl rfl (by assumption) ?_
      try simp only [Act.put,Drawn.La,Drawn.Lb,Drawn.Lc]
      refine Drawn.tk 2 (some 36) rfl rfl (by assumption) ?_
      try simp only [Act.put,Drawn.La,Drawn.Lb,Drawn.Lc]
      refine Drawn.tk 3 (some 37) rfl rfl (by assumption) ?_
      try simp only [Act.put,Drawn.La,Drawn.Lb,Drawn.Lc]
      refine Drawn.tk 4 (some 38) rfl rfl (by assumption) ?_
      try simp only [Act.put,Drawn.La,Drawn.Lb,Drawn.Lc]
      refine Drawn.tk 5 (some 39) rfl rfl (by assumption) ?_
      try simp only [Act.put,Drawn.La,Drawn.Lb,Drawn.Lc]
      refine Drawn.tk 6 (some 40) rfl rfl (by assumption) ?_
      try simp only [Act.put,Drawn.La,Drawn.Lb,Drawn.Lc]
      refine Drawn.tk 7 (some 41) rfl rfl (by assumption) ?_
      try simp only [Act.put,Drawn.La,Drawn.Lb,Drawn.Lc]
      refine Drawn.tk 8 (some 42) rfl rfl (by assumption) ?_
      try simp only [Act.put,Drawn.La,Drawn.Lb,Drawn.Lc]
      refine Drawn.tk 9 (some 43) rfl rfl (by assumption) ?_
      try simp only [Act.put,Drawn.La,Drawn.Lb,Drawn.Lc]
      refine Drawn.tk 10 (some 44) rfl rfl (by assumption) ?_
      try simp only [Act.put,Drawn.La,Drawn.Lb,Drawn.Lc]
      refine Drawn.tk 11 (some 45) rfl rfl (by assumption) ?_
      try simp only [Act.put,Drawn.La,Drawn.Lb,Drawn.Lc]
      refine Drawn.tk 12 (some 46) rfl rfl (by assumption) ?_
      try simp only [Act.put,Drawn.La,Drawn.Lb,Drawn.Lc]
      refine Drawn.tk 13 (some 47) rfl rfl (by assumption) ?_
      try simp only [Act.put,Drawn.La,Drawn.Lb,Drawn.Lc]
      refine wpAnyH_ready (rs:=[14]) (by kernel_rfl) (by simp) ?_
      refine AllReadyH.cons rfl (fun K hK=>?_) AllReadyH.nil
      go_simp
      go_at_call 194
      refine (both (CR.out.next (by exact Rd.byB)) hwf ⟨xk,xc⟩ ⟨yk,yc⟩).mono ?_
      rintro e w4 ⟨rfl,hb4⟩
      rw [hR.out]
      have hb4r : Below wr.heap.size wr w4:=Below.trans (by exact Rd.byB) (hb4.mono Rd.byL)
      have t0:=kept hb4r (cell_lt s0') s0'
      have t1:=kept hb4r (cell_lt a0') a0'
      have t2:=kept hb4r (cell_lt b0') b0'
      have t3:=kept hb4r (cell_lt z0) z0
      have t4:=kept hb4r (cell_lt z1) z1
      have t5:=kept hb4r (cell_lt y0) y0
      have t6:=kept hb4r (cell_lt y1) y1
      have t7:=kept hb4r k4 x0
      have t8:=kept hb4r k4 x1
      have t9:=keptf hb4r k4 x2
      have t10:=keptf hb4r k4 x3
      go_wp2_with fail
      refine hK.out _ _ (by (try dsimp only);exact ⟨⟨t0,t1,t2⟩,⟨t3,t4⟩,t5,t6⟩) (fun hHeld=>?_)
      clear hK K
      try simp only [Act.put,Drawn.La,Drawn.Lb,Drawn.Lc]
      refine Drawn.tk 15 (some 49) rfl rfl (by assumption) ?_
      try simp only [Act.put,Drawn.La,Drawn.Lb,Drawn.Lc]
      refine wpAnyH_ready (rs:=[16]) (by kernel_rfl) (by simp) ?_
      refine AllReadyH.cons rfl (fun K hK=>?_) AllReadyH.nil
      go_simp
      refine hK.out _ _ (by (try dsimp only);refine ⟨⟨?_,?_,?_⟩,⟨?_,?_⟩,?_,?_⟩ <;> go_simp) (fun hHeld=>?_)
      clear hK K
      try simp only [Act.put,Drawn.La,Drawn.Lb,Drawn.Lc]
      refine wpAnyH_done (by kernel_rfl) ?_ _
      have TN2 : Hid (TR ((w4.setCell ⟨og,n * 2,none⟩ (.int .i64 rk)).setCell ⟨og,n * 2 + 1,none⟩ (.int .i64 rc)) (w.heap.size + 3) (.slice (some ⟨og,0,none⟩) sa.length d1) (zn c (n + 1) sa sb)):=by
        show TR _ _ _ _
        rw [zn_succ n hlt,hA.out,hB.out,hR.out]
        have h:=TR.set (l:=zn c n sa sb) (by rw [zn_len];exact TN.out.below hb4r) (i:=n) (by rw [zn_len];exact hlt) hRt
        rw [zn_len] at h
        exact h
      have KP2 : Hid (Kp (fun k=>(Value.slice (some ⟨og,0,none⟩) sa.length d1).ownBlock = some k) W3 ((w4.setCell ⟨og,n * 2,none⟩ (.int .i64 rk)).setCell ⟨og,n * 2 + 1,none⟩ (.int .i64 rc))):=((kpb2 KP.out hb4r).setCell (p:=⟨og,n * 2,none⟩) (.inl rfl) _).setCell (p:=⟨og,n * 2 + 1,none⟩) (.inl rfl) _
      go_wp2
      exact ⟨⟨n + 1,by simp,hlt,KP2,TN2⟩,by simp only [intOf];omega⟩
    · obtain rfl : n = sa.length:=by omega
      obtain ⟨wo,rfl⟩ : ∃ wo : World,wo = wr:=⟨_,rfl⟩
      have hbo : Below w.heap.size w wo:=hbW.trans (KP.out.below (by have:=hbW.size;omega) (fun k e=>by have:=q1.out k e;omega))
      have TF:=TN
      have T2o : Hid (TR wo (w.heap.size + 3) (.slice g2 ka.length d2) (zn c 0 ka kb)):=T2.out.keep KP.out (fun g hg e=>N12.out g e hg)
      have KA2:=Lib.hid (KA.out.next (X':=fun k=>w.heap.size ≤ k) KP.out (fun b _ e=>by have:=q1.out b e;omega) (fun _ _ e=>e))
      have KB2:=Lib.hid (KB.out.next (X':=fun k=>w.heap.size ≤ k) KP.out (fun b _ e=>by have:=q1.out b e;omega) (fun _ _ e=>e))
      replace a0:=a0'
      replace a1:=a1'
      replace b0:=b0'
      replace b1:=b1'
      replace r0:=r0'
      replace r1:=r1'
      replace r2:=r2'
      replace f0:=f0'
      replace f1:=f1'
      replace f2:=f2'
      replace s0:=s0'
      replace s1:=s1'
      replace s2:=s2'
      clear a0' a1' b0' b1' r0' r1' r2' f0' f1' f2' s0' s1' s2' ne KP TN T1 T2 SA SB KA KB CW hlt hn
      go_wp2_with fail
      go_loopw [54] (fun v wr=>∃ n : Nat,v = .int .i64 n ∧ n ≤ ka.length ∧ Hid (Kp (fun k=>(Value.slice g2 ka.length d2).ownBlock = some k) wo wr) ∧ Hid (TR wr (w.heap.size + 3) (.slice g2 ka.length d2) (zn c n ka kb)) ∧ Hid (∀ j,j < n → (Flow.both c (ka.getD j none_) (kb.getD j none_)).kind ≠ 0)) (fun v _=>ka.length - (intOf v).toNat)
      case atStart=>exact ⟨0,rfl,Nat.zero_le _,Kp.refl _ _,T2o,fun j h=>absurd h (by omega)⟩
      case round =>
        obtain ⟨n,rfl,hn,KP,TN,hall⟩:=hrel
        have ne : ∀ k,(w.heap.size + 3 ≤ k → w2.heap.size ≤ k) → ¬ (Value.slice g2 ka.length d2).ownBlock = some k:=fun k hk e=>by have:=q2.out k e;omega
        have a1':=KP.out.cell a1 (ne _ (by omega))
        have b1':=KP.out.cell b1 (ne _ (by omega))
        have r0':=KP.out.cell r0 (ne _ (by omega))
        have r1':=KP.out.cell r1 (ne _ (by omega))
        have r2':=KP.out.cell r2 (ne _ (by omega))
        have f0':=KP.out.frz f0 (cell_lt r0) (ne _ (by omega))
        have f1':=KP.out.frz f1 (cell_lt r0) (ne _ (by omega))
        have f2':=KP.out.frz f2 (cell_lt r0) (ne _ (by omega))
        have s0':=KP.out.cell s0 (ne _ (by omega))
        have s1':=KP.out.cell s1 (ne _ (by omega))
        have s2':=KP.out.cell s2 (ne _ (by omega))
        have hszo:=KP.out.size
        have lro:=cell_lt r0'
        have hbR0 : Below w.heap.size w wr:=hbo.trans (KP.out.below hbo.size (fun k e=>by have:=q2.out k e;omega))
        by_cases hlt : n < ka.length
        · clear a0 a1 b0 b1 r0 r1 r2 f0 f1 f2 s0 s1 s2
          obtain ⟨pa,oa,pcap,e1,_,_,lpa,npa,hca⟩:=KA2.out.cells (by omega)
          obtain ⟨pb,ob,pcap2,e2,_,_,lpb,npb,hcb⟩:=KB2.out.cells (by rw [← hkl'.out];omega)
          simp only [Value.slice.injEq,true_and] at e1
          obtain ⟨rfl,rfl⟩:=e1
          rw [← hkl'.out] at e2
          simp only [Value.slice.injEq,true_and] at e2
          obtain ⟨rfl,rfl⟩:=e2
          obtain ⟨z0,z1⟩:=hca n hlt
          obtain ⟨y0,y1⟩:=hcb n (by rw [← hkl'.out];exact hlt)
          obtain ⟨og,dcap,e3,_,_,k3,k4,hcs⟩:=TN.out.form (by rw [zn_len];omega)
          rw [zn_len] at e3
          simp only [Value.slice.injEq,true_and] at e3
          obtain ⟨rfl,rfl⟩:=e3
          obtain ⟨x0,x1,x2,x3⟩:=hcs n (by rw [zn_len];exact hlt)
          have hq:=q2.out og rfl
          have npa' : ¬ og = pa:=fun e=>by omega
          have npb' : ¬ og = pb:=fun e=>by omega
          have npa2 : ¬ pa = og:=fun e=>by omega
          have npb2 : ¬ pb = og:=fun e=>by omega
          have no1 : ¬ og = w.heap.size:=by omega
          have no2 : ¬ og = w.heap.size + 1:=by omega
          have no3 : ¬ og = w2.heap.size:=by omega
          have no4 : ¬ w.heap.size = og:=by omega
          have no5 : ¬ w.heap.size + 1 = og:=by omega
          have no6 : ¬ w2.heap.size = og:=by omega
          replace z0:=KP.out.cell z0 (fun e=>npa' (by simpa [Value.ownBlock] using e))
          replace z1:=KP.out.cell z1 (fun e=>npa' (by simpa [Value.ownBlock] using e))
          replace y0:=KP.out.cell y0 (fun e=>npb' (by simpa [Value.ownBlock] using e))
          replace y1:=KP.out.cell y1 (fun e=>npb' (by simpa [Value.ownBlock] using e))
          obtain ⟨⟨xk,xc⟩,hA⟩ : ∃ x,Hid (ka.getD n none_ = x):=⟨_,Lib.hid rfl⟩
          obtain ⟨⟨yk,yc⟩,hB⟩ : ∃ x,Hid (kb.getD n none_ = x):=⟨_,Lib.hid rfl⟩
          obtain ⟨⟨uk,uc⟩,hU⟩ : ∃ x,Hid ((zn c n ka kb).getD n none_ = x):=⟨_,Lib.hid rfl⟩
          rw [hA.out] at z0 z1
          rw [hB.out] at y0 y1
          rw [hU.out] at x0 x1
          simp only at z0 z1 y0 y1 x0 x1
          obtain ⟨⟨rk,rc⟩,hR⟩ : ∃ x,Hid (Flow.both c ⟨xk,xc⟩ ⟨yk,yc⟩ = x):=⟨_,Lib.hid rfl⟩
          have hRt : TOk ⟨rk,rc⟩:=by
            rw [← hR.out,← hA.out,← hB.out]
            exact tok_both hm (Chk.getD_wf HW2.out n) (Chk.getD_wf HW4.out n) (TsOk.getD (oks.out.2.2.1) n) (TsOk.getD (oks.out.2.2.2) n)
          have i1 : (n : Int) < ka.length:=by omega
          have hbR : Below w.heap.size w wr:=hbR0
          have CR:=Lib.hid (HC.out.next hbR)
          clear hca hcb hcs
          go_wp2_with fail
          refine wp_region_held_drew (S:=fun w'=>(w'.cell? ⟨w2.heap.size,1,none⟩ = some (.slice (some ⟨og,0,none⟩) ka.length d2) ∧ w'.cell? ⟨w.heap.size,1,none⟩ = some (.slice (some ⟨pa,oa,none⟩) ka.length n2) ∧ w'.cell? ⟨w.heap.size + 1,1,none⟩ = some (.slice (some ⟨pb,ob,none⟩) ka.length n4)) ∧ (w'.cell? ⟨pa,oa + n * 2,none⟩ = some (.int .i64 xk) ∧ w'.cell? ⟨pa,oa + n * 2 + 1,none⟩ = some (.int .i64 xc)) ∧ w'.cell? ⟨pb,ob + n * 2,none⟩ = some (.int .i64 yk) ∧ w'.cell? ⟨pb,ob + n * 2 + 1,none⟩ = some (.int .i64 yc)) (by kernel_rfl) (by (try dsimp only);exact ⟨⟨s1',a1',b1'⟩,⟨z0,z1⟩,y0,y1⟩) (fun hHeld=>?_)
          refine Drawn.tk 0 (some 57) rfl rfl (by assumption) ?_
          try simp only [Act.put,Drawn.La,Drawn.Lb,Drawn.Lc]
          refine Drawn.tk 1 (some 58) rfl rfl (by assumption) ?_
          try simp only [Act.put,Drawn.La,Drawn.Lb,Drawn.Lc]
          refine Drawn.tk 2 (some 59) rfl rfl (by assumption) ?_
          try simp only [Act.put,Drawn.La,Drawn.Lb,Drawn.Lc]
          refine Drawn.tk 3 (some 60) rfl rfl (by assumption) ?_
          try simp only [Act.put,Drawn.La,Drawn.Lb,Drawn.Lc]
          refine Drawn.tk 4 (some 61) rfl rfl (by assumption) ?_
          try simp only [Act.put,Drawn.La,Drawn.Lb,Drawn.Lc]
          refine Drawn.tk 5 (some 62) rfl rfl (by assumption) ?_
          try simp only [Act.put,Drawn.La,Drawn.Lb,Drawn.Lc]
          refine Drawn.tk 6 (some 63) rfl rfl (by assumption) ?_
          try simp only [Act.put,Drawn.La,Drawn.Lb,Drawn.Lc]
          refine Drawn.tk 7 (some 64) rfl rfl (by assumption) ?_
          try simp only [Act.put,Drawn.La,Drawn.Lb,Drawn.Lc]
          refine Drawn.tk 8 (some 65) rfl rfl (by assumption) ?_
          try simp only [Act.put,Drawn.La,Drawn.Lb,Drawn.Lc]
          refine Drawn.tk 9 (some 66) rfl rfl (by assumption) ?_
          try simp only [Act.put,Drawn.La,Drawn.Lb,Drawn.Lc]
          refine Drawn.tk 10 (some 67) rfl rfl (by assumption) ?_
          try simp only [Act.put,Drawn.La,Drawn.Lb,Drawn.Lc]
          refine Drawn.tk 11 (some 68) rfl rfl (by assumption) ?_
          try simp only [Act.put,Drawn.La,Drawn.Lb,Drawn.Lc]
          refine Drawn.tk 12 (some 69) rfl rfl (by assumption) ?_
          try simp only [Act.put,Drawn.La,Drawn.Lb,Drawn.Lc]
          refine Drawn.tk 13 (some 70) rfl rfl (by assumption) ?_
          try simp only [Act.put,Drawn.La,Drawn.Lb,Drawn.Lc]
          refine wpAnyH_ready (rs:=[14]) (by kernel_rfl) (by simp) ?_
          refine AllReadyH.cons rfl (fun K hK=>?_) AllReadyH.nil
          go_simp
          go_at_call 194
          refine (both (CR.out.next (by exact Rd.byB)) hwf ⟨xk,xc⟩ ⟨yk,yc⟩).mono ?_
          rintro e w4 ⟨rfl,hb4⟩
          rw [hR.out]
          have hb4r : Below wr.heap.size wr w4:=Below.trans (by exact Rd.byB) (hb4.mono Rd.byL)
          have t0:=kept hb4r (cell_lt s1') s1'
          have t1:=kept hb4r (cell_lt a1') a1'
          have t2:=kept hb4r (cell_lt b1') b1'
          have t3:=kept hb4r (cell_lt z0) z0
          have t4:=kept hb4r (cell_lt z1) z1
          have t5:=kept hb4r (cell_lt y0) y0
          have t6:=kept hb4r (cell_lt y1) y1
          have t7:=kept hb4r k4 x0
          have t8:=kept hb4r k4 x1
          have t9:=keptf hb4r k4 x2
          have t10:=keptf hb4r k4 x3
          go_wp2_with fail
          refine hK.out _ _ (by (try dsimp only);exact ⟨⟨t0,t1,t2⟩,⟨t3,t4⟩,t5,t6⟩) (fun hHeld=>?_)
          clear hK K
          try simp only [Act.put,Drawn.La,Drawn.Lb,Drawn.Lc]
          refine Drawn.tk 15 (some 72) rfl rfl (by assumption) ?_
          try simp only [Act.put,Drawn.La,Drawn.Lb,Drawn.Lc]
          refine wpAnyH_ready (rs:=[16]) (by kernel_rfl) (by simp) ?_
          refine AllReadyH.cons rfl (fun K hK=>?_) AllReadyH.nil
          go_simp
          refine hK.out _ _ (by (try dsimp only);refine ⟨⟨?_,?_,?_⟩,⟨?_,?_⟩,?_,?_⟩ <;> go_simp) (fun hHeld=>?_)
          clear hK K
          try simp only [Act.put,Drawn.La,Drawn.Lb,Drawn.Lc]
          refine wpAnyH_done (by kernel_rfl) ?_ _
          have TN2 : Hid (TR ((w4.setCell ⟨og,n * 2,none⟩ (.int .i64 rk)).setCell ⟨og,n * 2 + 1,none⟩ (.int .i64 rc)) (w.heap.size + 3) (.slice (some ⟨og,0,none⟩) ka.length d2) (zn c (n + 1) ka kb)):=by
            show TR _ _ _ _
            rw [zn_succ n hlt,hA.out,hB.out,hR.out]
            have h:=TR.set (l:=zn c n ka kb) (by rw [zn_len];exact TN.out.below hb4r) (i:=n) (by rw [zn_len];exact hlt) hRt
            rw [zn_len] at h
            exact h
          have KP2 : Hid (Kp (fun k=>(Value.slice (some ⟨og,0,none⟩) ka.length d2).ownBlock = some k) wo ((w4.setCell ⟨og,n * 2,none⟩ (.int .i64 rk)).setCell ⟨og,n * 2 + 1,none⟩ (.int .i64 rc))):=((kpb2 KP.out hb4r).setCell (p:=⟨og,n * 2,none⟩) (.inl rfl) _).setCell (p:=⟨og,n * 2 + 1,none⟩) (.inl rfl) _
          have hbF : Below w.heap.size w ((w4.setCell ⟨og,n * 2,none⟩ (.int .i64 rk)).setCell ⟨og,n * 2 + 1,none⟩ (.int .i64 rc)):=hbo.trans (KP2.out.below hbo.size (fun k e=>by have:=q2.out k e;omega))
          have nrg : ¬ w.heap.size + 1 + 1 = og:=by omega
          have ngr : ¬ og = w.heap.size + 1 + 1:=by omega
          have u0:=kept hb4r (cell_lt r0') r0'
          have u1:=kept hb4r (cell_lt r1') r1'
          have u2:=kept hb4r (cell_lt r2') r2'
          have v0:=keptf hb4r (cell_lt r0') f0'
          have v1:=keptf hb4r (cell_lt r0') f1'
          have v2:=keptf hb4r (cell_lt r0') f2'
          by_cases hk0 : rk = 0
          · subst hk0
            go_wp2
            refine bodyPost_ret (v:=.agg #[.slice none 0 0,.slice none 0 0,.bool true]) (by simp [results,Try.results145,go_sem] <;> go_simp) rfl ?_
            refine togBad ?_ (by exact Rd.byB)
            rw [hrow.out,if_pos (any_zip hkl'.out hlt (by rw [hA.out,hB.out,hR.out]))]
          · have hk0b : (rk == 0) = false:=by simpa using hk0
            go_wp2
            refine ⟨⟨n + 1,by simp,hlt,KP2,TN2,fun j hj=>?_⟩,by simp only [intOf];omega⟩
            by_cases hj2 : j < n
            · exact hall.out j hj2
            · obtain rfl : j = n:=by omega
              rw [hA.out,hB.out,hR.out];exact hk0
        · obtain rfl : n = ka.length:=by omega
          have hz : (zip c ka kb).any (fun x=>decide (x.kind = 0)) = false:=no_zip hkl'.out hall.out
          have hres : Hid (res = ⟨zip c sa sb,zip c ka kb,false⟩):=by show _ = _;rw [hrow.out,if_neg (by rw [hz];simp)]
          clear a0 a1 b0 b1 r0 r1 r2 f0 f1 f2 s0 s1 s2
          have nrs : ¬ w.heap.size + 1 + 1 = w2.heap.size:=by omega
          have nsr : ¬ w2.heap.size = w.heap.size + 1 + 1:=by omega
          go_wp2
          refine bodyPost_ret (v:=.agg #[.slice g1 sa.length d1,.slice g2 ka.length d2,.bool false]) (by simp [results,Try.results145,go_sem] <;> go_simp) rfl ?_
          have KS : ∀ (W : World) (j : Nat) (u : Value),Kp (fun k=>k = w.heap.size + 1 + 1) wr W → Kp (fun k=>k = w.heap.size + 1 + 1) wr (W.setCell ⟨w.heap.size + 1 + 1,j,none⟩ u):=fun W j u K=>K.setCell (p:=⟨w.heap.size + 1 + 1,j,none⟩) (.inl rfl) u
          have KSS:=KS _ 2 (.bool false) (KS _ 1 (.slice g2 ka.length d2) (KS _ 0 (.slice g1 sa.length d1) (Kp.refl _ wr)))
          rw [hres.out]
          have TA : TR wr (w.heap.size + 3) (.slice g1 sa.length d1) (zip c sa sb):=by
            have h:=TF.out.keep KP.out (fun g hg e=>N12.out g hg e)
            rw [zn_all hsl'.out] at h;exact h
          have TB : TR wr (w.heap.size + 3) (.slice g2 ka.length d2) (zip c ka kb):=by
            have h:=TN.out
            rw [zn_all hkl'.out] at h;exact h
          refine ⟨_,rfl,⟨_,_,rfl,(TA.keep KSS (fun g hg e=>?_)).ts (fun g hg e=>?_),(TB.keep KSS (fun g hg e=>?_)).ts (fun g hg e=>?_)⟩,hbR0.trans (KSS.below hbR0.size (fun k e=>by omega))⟩
          · have:=(TA.lt hg).1;omega
          · have:=(TA.lt hg).1;omega
          · have:=(TB.lt hg).1;omega
          · have:=(TB.lt hg).1;omega
theorem together (hm : Hier.may c = true) (hc : Cs w vc c) (ha : VSt w X va a) (hb : VSt w X2 vb b) (oa : StOk c.length nl ns a) (ob : StOk c.length nl ns b) (hnl : nl ≤ 1000) (hns : ns ≤ 1000) : Calls Try.prog 145 #[vc,va,vb] w (TogR w (Flow.together c a b)):=by
  by_cases h : a.broken = true ∨ b.broken = true ∨ a.stack.length ≠ b.stack.length
  · exact tog1 hm hc ha hb h
  · have h1 : a.broken = false := by cases h' : a.broken; · rfl
                                     · exact absurd (.inl h') h
    have h2 : b.broken = false := by cases h' : b.broken; · rfl
                                     · exact absurd (.inr (.inl h')) h
    obtain ⟨a1,a2,a3,a4,a5⟩:=oa.2 h1
    obtain ⟨b1,b2,b3,b4,b5⟩:=ob.2 h2
    exact tog2 hm hc ha hb h1 h2 (by omega) (Decidable.byContradiction fun e=>h (.inr (.inr e))) a3 a4 b3 b4 (by omega) (by omega)
end
end Sck
end Go.Proofs.Ytncmhenfgbcihab
namespace Go.Proofs.Ytncmhenfgbcihab
open Go.RowKit
set_option linter.unusedSimpArgs false
set_option linter.unusedVariables false
namespace Sck
open Num Rd D Mem Hpw Flow HierW FormW
theorem info_i : (Try.prog.info? 3).map (fun i=>(i.zero,i.size,i.bytes)) = some (some (.int .i64 0),1,8):=by kernel_rfl
theorem news_i {W : World} {l : List Value} {T : TypeId} {b : Nat} (hb : b = W.heap.size) : ∀ j u,l[j]? = some u → (W.alloc (.cells l.toArray T)).cell? ((⟨b,0,none⟩ : Addr).add j) = some u:=fun j u hj=>by
  subst hb
  have hadd : (⟨W.heap.size,0,none⟩ : Addr).add j = ⟨W.heap.size,j,none⟩:=by unfold Addr.add;split <;> simp_all
  rw [hadd,World.cell?_alloc_new]
  simpa using hj
theorem wcells_append (l m : List Nat) : wcells (l ++ m) = wcells l ++ wcells m:=by unfold wcells;rw [List.map_append]
section
variable {E : FE} {w w' : World} {vw : Value} {R : Flow.Run} {nl ns len : Nat} {v : Value} {s : State}
def LeadR (E : FE) (vw : Value) (w : World) (R : Flow.Run) (e : Ending) (w' : World) : Prop :=
  e = .returned (.tuple #[]) ∧ ∃ vw',Fw E w' vw' R ∧ Kp (zone E vw) w w' ∧ ∀ k,zone E vw' k → zone E vw k ∨ w.heap.size ≤ k
theorem zlt (F : Fw E w vw R) : ∀ k,zone E vw k → k < w.heap.size:=fun k hk=>(zone_lo F hk).2
set_option maxRecDepth 100000 in
set_option maxHeartbeats 4000000 in
theorem lead0 (F : Fw E w vw R) (hv : VSt w (zone E vw) v s) (a : Nat) (ha : ¬ a < R.states.length) : Calls Try.prog 93 #[.pointer (some ⟨E.fb,0,none⟩),.int .i64 a,v] w (LeadR E vw w (Flow.lead E.f.classes R a s)):=by
  have e : Flow.lead E.f.classes R a s = R:=by unfold Flow.lead;rw [if_neg ha]
  rw [e]
  obtain ⟨x,y,rfl,t1,t2⟩:=hv
  obtain ⟨c1,n1,rfl,_⟩:=t1.len
  obtain ⟨c2,n2,rfl,_⟩:=t2.len
  have HF:=Lib.hid F
  have l1:=(F.fl 1 (by simp)).1
  have hfb:=zlt F E.fb (.inl rfl)
  have hfb1 : E.fb < w.heap.size + 1:=by omega
  simp only [List.getElem_cons_zero,List.getElem_cons_succ] at l1
  have hge : (R.states.length : Int) ≤ a:=by omega
  clear F
  go_enter Try.func93,Try.ntmps93
  go_wp2
  ((try simp only [Exit.inBlock,Exit.then]);refine bodyPost_ret (results_none rfl _ _ _) rfl ?_)
  exact ⟨rfl,vw,HF.out.below (by exact Rd.byB),Kp.of_below (by exact Rd.byB) (Nat.le_refl _),fun k hk=>.inl hk⟩
set_option maxRecDepth 100000 in
set_option maxHeartbeats 4000000 in
theorem lead1 (F : Fw E w vw R) (hv : VSt w (zone E vw) v s) (h1 : s.slots.length ≤ 1000) (h2 : s.stack.length ≤ 1000) (a : Nat) (ha : a < R.states.length) (hn : R.states.getD a none = none) (hwl : R.work.length ≤ 100000000) : Calls Try.prog 93 #[.pointer (some ⟨E.fb,0,none⟩),.int .i64 a,v] w (LeadR E vw w (Flow.lead E.f.classes R a s)):=by
  have e : Flow.lead E.f.classes R a s = ⟨R.states.set a (some s),R.work ++ [a],R.bad⟩:=by unfold Flow.lead;rw [if_pos ha,hn]
  rw [e]
  obtain ⟨io,hi',hy0,hy1,hy2⟩:=info_parts info_i
  have HV:=Lib.hid hv
  obtain ⟨x,y,rfl,t1,t2⟩:=hv
  obtain ⟨c1,n1,rfl,_⟩:=t1.len
  obtain ⟨c2,n2,rfl,_⟩:=t2.len
  obtain ⟨sl,st,br⟩:=s
  simp only at h1 h2 HV t1 t2
  clear t1 t2
  have HF:=Lib.hid F
  have zl:=zlt F
  have l1:=(F.fl 1 (by simp)).1
  have hfb:=zlt F E.fb (.inl rfl)
  have hsb:=zlt F E.sb (.inr (.inr (.inl rfl)))
  have hfb1 : E.fb < w.heap.size + 1:=by omega
  have hsb1 : E.sb < w.heap.size + 1:=by omega
  simp only [List.getElem_cons_zero,List.getElem_cons_succ] at l1
  obtain ⟨v0,k0,fz0,p0⟩:=F.st a ha
  rw [hn] at p0
  obtain rfl : v0 = .pointer none:=p0
  have ha2 : (a : Int) < R.states.length:=by omega
  have H1:=Lib.hid h1
  have H2:=Lib.hid h2
  have HWL:=Lib.hid hwl
  have hap:=F.some_.2
  have hne:=F.ne
  have hn1 : ¬ E.sb = E.fb:=fun e=>hne.2.1 e.symm
  have hn2 : ¬ E.fb = E.sb:=hne.2.1
  obtain ⟨wa,wcap,evw⟩:=row_any F.wk
  have EVW:=Lib.hid evw
  clear F h1 h2 hwl hn e evw
  go_enter Try.func93,Try.ntmps93
  go_wp2_with fail
  refine (clone (HV.out.below (X':=fun _=>False) (by exact Rd.byB) (fun _ _ e=>e.elim)) (Nat.le_trans H1.out (by decide)) (Nat.le_trans H2.out (by decide))).mono ?_
  rintro e w2 ⟨vs,vk,rfl,R1,R2,N12,hb2⟩
  obtain ⟨g1,d1,rfl⟩:=R1.any
  obtain ⟨g2,d2,rfl⟩:=R2.any
  replace R1:=Lib.hid R1
  replace R2:=Lib.hid R2
  simp only
  have hb2w : Below w.heap.size w w2:=Below.trans (by exact Rd.byB) (hb2.mono Rd.byL)
  have l1':=kept hb2w hfb l1
  have k0':=kept hb2w hsb k0
  have fz0':=keptf hb2w hsb fz0
  have hs2:=hb2.size
  simp at hs2
  have hfb2 : E.fb < w2.heap.size:=by omega
  have hsb2 : E.sb < w2.heap.size:=by omega
  go_upto_region 9 with (fail)
  have hbx : Below w.heap.size w (w2.alloc (.cells #[.slice g1 sl.length d1,.slice g2 st.length d2,.bool br] 157)):=hb2w.alloc hb2w.size _
  have F3:=HF.out.below hbx
  have nz : ∀ k,w.heap.size ≤ k → ¬ zone E vw k:=fun k h1 h2=>by have:=zl k h2;omega
  have hal : Below w2.heap.size w2 (w2.alloc (.cells #[.slice g1 sl.length d1,.slice g2 st.length d2,.bool br] 157)):=(Below.refl _ _).alloc (Nat.le_refl _) _
  have hP : PSt (w2.alloc (.cells #[.slice g1 sl.length d1,.slice g2 st.length d2,.bool br] 157)) (zone E vw) (.pointer (some ⟨w2.heap.size,0,none⟩)) (some ⟨sl,st,br⟩) :=
    ⟨w2.heap.size,_,_,rfl,nz _ (by omega),by go_simp,by go_simp,by go_simp,(R1.out.below hal).ts (fun g hg=>nz g (by have:=(R1.out.lt hg).1;simp at this;omega)),(R2.out.below hal).ts (fun g hg=>nz g (by have:=(R2.out.lt hg).1;simp at this;omega))⟩
  have F4:=F3.state ha hP
  have K4 : Kp (zone E vw) w ((w2.alloc (.cells #[.slice g1 sl.length d1,.slice g2 st.length d2,.bool br] 157)).setCell ⟨E.sb,a,none⟩ (.pointer (some ⟨w2.heap.size,0,none⟩))):=(Kp.of_below hbx (Nat.le_refl _)).setCell (p:=⟨E.sb,a,none⟩) (.inl (.inr (.inr (.inl rfl)))) _
  clear F3 hP
  rw [World.setCell_alloc_past _ _ _ _ hsb2] at F4 K4
  have hB4:=F4.base
  obtain ⟨W4,hW4⟩ : ∃ W4,W4 = (w2.setCell ⟨E.sb,a,none⟩ (.pointer (some ⟨w2.heap.size,0,none⟩))).alloc (.cells #[.slice g1 sl.length d1,.slice g2 st.length d2,.bool br] 157):=⟨_,rfl⟩
  rw [← hW4] at F4 K4 hB4 ⊢
  clear hW4
  have m2:=(F4.fl 2 (by simp)).1
  have n2':=(F4.fl 2 (by simp)).2
  simp only [List.getElem_cons_zero,List.getElem_cons_succ] at m2
  rw [EVW.out] at m2
  have hfb4:=cell_lt m2
  have hfb5 : E.fb < W4.heap.size + 1:=by omega
  have hrow : Hid (W4.ownsRow E.B 3 1 (.slice wa R.work.length wcap) R.work.length (wcells R.work)):=by
    show World.ownsRow _ _ _ _ _ _ _
    rw [← EVW.out];exact F4.wk
  have hbig : R.work.length + 1 ≤ maxLen:=by have:=HWL.out;unfold maxLen;omega
  have hbig2 : (R.work.length + 1) * 8 ≤ 140737488355328:=by have:=HWL.out;omega
  replace hbig:=Lib.hid hbig
  replace hbig2:=Lib.hid hbig2
  replace F4:=Lib.hid F4
  replace K4:=Lib.hid K4
  go_wp2_with (at_builtin;refine wpList_append_lies _ rfl (.tmp 57) (.tmp 59) 61 rfl E.B 3 io (.int .i64 0) 1 8 Try.underlying61 hi' hy0 hy1 hy2 rfl (by decide) (.slice wa R.work.length wcap) R.work.length (wcells R.work) (by simp [Act.eval,Act.put]) (row_alloc hrow.out _) ⟨W4.heap.size,0,none⟩ 1 1 [.int .i64 a] (by simp [Act.eval,Act.put]) rfl (by exact news_i (by simp)) (by simp [Value.oneCell']) (by decide) hbig.out hbig2.out (by simp;omega) _ rfl ?_;intro g3 cap3 w5 hown3 hgrow3 hat3 hlt3;rw [← EVW.out] at hgrow3 hat3;have K5 : Kp (fun k=>vw.ownBlock = some k) W4 w5:=(Kp.of_below (by exact Rd.byB) (Nat.le_refl _)).trans (Kp.of_grown (X:=fun k=>vw.ownBlock = some k) hgrow3 (fun k e=>e)) (fun y hy=>.inl hy);have nfw : ¬ vw.ownBlock = some E.fb:=(fun e=>(F4.out.far _ e).1 rfl);have m3 : w5.cell? ⟨E.fb,2,none⟩ = some (.slice wa R.work.length wcap):=K5.cell m2 nfw;have n3' : w5.frozen? ⟨E.fb,2,none⟩ = false:=K5.frz n2' hfb4 nfw;have hat4 : vw.ownBlock = some g3 ∨ W4.heap.size ≤ g3:=(hat3.imp id (fun e=>by rw [e];simp));have HA:=Lib.hid (F4.out.work (l:=R.work ++ [a]) (vn:=.slice (some ⟨g3,0,none⟩) (R.work.length + 1) cap3) K5 (by rw [List.length_append,wcells_append];exact hown3) (fun g hg=>by have e : g = g3:=(by simpa [Value.ownBlock,eq_comm] using hg);subst e;exact hat4));clear hown3 hgrow3 hat3 hat4 K5)
  first | go_end0 | ((try simp only [Exit.inBlock,Exit.then]);refine bodyPost_ret (results_none rfl _ _ _) rfl ?_)
  obtain ⟨A1,A2,A3⟩:=HA.out
  exact ⟨rfl,_,A1,K4.out.trans A2 (fun y hy=>.inl hy),fun k hk=>(A3 k hk).imp id (fun e=>Nat.le_trans K4.out.size e)⟩
end
end Sck
end Go.Proofs.Ytncmhenfgbcihab
namespace Go.Proofs.Ytncmhenfgbcihab
open Go.RowKit
set_option linter.unusedSimpArgs false
set_option linter.unusedVariables false
namespace Sck
open Num Rd D Mem Hpw Flow HierW FormW
section
variable {E : FE} {w w' : World} {vw : Value} {R : Flow.Run} {nl ns len : Nat} {v : Value} {s was : State}
theorem sameV {w : World} {X X2 : Nat → Prop} {va vb : Value} {a b : State} (p : Bool) (ha : VSt w X va a) (hb : VSt w X2 vb b) (hl : a.slots.length ≤ 1000000) (hl2 : a.stack.length ≤ 1000000) (hp : decide (a = b) = p) : Calls Try.prog 146 #[va,vb] w fun e w'=>e = .returned (.bool p) ∧ Below w.heap.size w w':=by
  subst hp;exact same ha hb hl hl2
theorem stok_len {n nl ns : Nat} {s : State} (h : StOk n nl ns s) (h1 : nl ≤ 1000) (h2 : ns ≤ 1000) : s.slots.length ≤ 1000000 ∧ s.stack.length ≤ 1000000:=by
  cases hb : s.broken
  · obtain ⟨a1,a2,_⟩:=h.2 hb;omega
  · rw [h.1 hb];simp [State.bad]
set_option maxRecDepth 100000 in
set_option maxHeartbeats 8000000 in
theorem lead2 (F : Fw E w vw R) (hm : Hier.may E.f.classes = true) (hv : VSt w (zone E vw) v s) (os : StOk E.f.classes.length nl ns s) (ow : StOk E.f.classes.length nl ns was) (hnl : nl ≤ 1000) (hns : ns ≤ 1000) (a : Nat) (ha : a < R.states.length) (hn : R.states.getD a none = some was) (hwl : R.work.length ≤ 100000000) : Calls Try.prog 93 #[.pointer (some ⟨E.fb,0,none⟩),.int .i64 a,v] w (LeadR E vw w (Flow.lead E.f.classes R a s)):=by
  obtain ⟨T,hT⟩ : ∃ T,Hid (Flow.together E.f.classes was s = T):=⟨_,Lib.hid rfl⟩
  have e : Hid (Flow.lead E.f.classes R a s = if T = was then R else ⟨R.states.set a (some T),R.work ++ [a],R.bad⟩):=by
    show _ = _;unfold Flow.lead;rw [if_pos ha,hn];simp only;rw [hT.out]
  generalize hres : Flow.lead E.f.classes R a s = res at e ⊢
  clear hres
  have oT : StOk E.f.classes.length nl ns T:=by rw [← hT.out];exact together_ok hm ow os
  have hTl:=Lib.hid (stok_len oT hnl hns)
  obtain ⟨io,hi',hy0,hy1,hy2⟩:=info_parts info_i
  have HV:=Lib.hid hv
  obtain ⟨x,y,rfl,t1,t2⟩:=hv
  obtain ⟨c1,n1,rfl,_⟩:=t1.len
  obtain ⟨c2,n2,rfl,_⟩:=t2.len
  obtain ⟨sl,st,br⟩:=s
  simp only at HV t1 t2
  clear t1 t2
  have HF:=Lib.hid F
  have zl:=zlt F
  have l0:=(F.fl 0 (by simp)).1
  have l1:=(F.fl 1 (by simp)).1
  have hfb:=zlt F E.fb (.inl rfl)
  have hsb:=zlt F E.sb (.inr (.inr (.inl rfl)))
  have hfb1 : E.fb < w.heap.size + 1:=by omega
  have hsb1 : E.sb < w.heap.size + 1:=by omega
  simp only [List.getElem_cons_zero,List.getElem_cons_succ] at l0 l1
  obtain ⟨v0,k0,fz0,p0⟩:=F.st a ha
  rw [hn] at p0
  obtain ⟨pb,va,vb,rfl,hpz,q0,q1,q2,u1,u2⟩:=p0
  have hW : VSt w (zone E vw) (.agg #[va,vb,.bool was.broken]) was:=⟨va,vb,rfl,u1,u2⟩
  obtain ⟨c3,n3,rfl,_⟩:=u1.len
  obtain ⟨c4,n4,rfl,_⟩:=u2.len
  have HW:=Lib.hid hW
  have hpb:=cell_lt q0
  have hpb1 : pb < w.heap.size + 1:=by omega
  have hpb2 : pb < w.heap.size + 1 + 1:=by omega
  obtain ⟨ca,ccap,evc,_⟩:=F.cls
  have HC : Hid (Cs w E.vc E.f.classes):=F.cls.mono mCls (Below.refl _ _) F.base
  rw [evc] at HC l0
  have ha2 : (a : Int) < R.states.length:=by omega
  have HWL:=Lib.hid hwl
  have hap:=F.some_.2
  have hne:=F.ne
  have hn1 : ¬ E.sb = E.fb:=fun e=>hne.2.1 e.symm
  have hn2 : ¬ E.fb = E.sb:=hne.2.1
  have nz : Hid (∀ k,w.heap.size ≤ k → ¬ zone E vw k):=fun k h1 h2=>by have:=zl k h2;omega
  obtain ⟨wa,wcap,evw⟩:=row_any F.wk
  have EVW:=Lib.hid evw
  obtain ⟨p,hp⟩ : ∃ p,Hid (decide (T = was) = p):=⟨_,Lib.hid rfl⟩
  have HNL:=Lib.hid hnl
  have HNS:=Lib.hid hns
  clear F hwl hn evw hW u1 u2 hnl hns
  replace e:=Lib.hid e.out
  go_enter Try.func93,Try.ntmps93
  go_upto_region 6 with (fail)
  obtain ⟨W,hWd⟩ : ∃ W,W = w.alloc (.cells #[.slice c1 sl.length n1,.slice c2 st.length n2,.bool br] 157):=⟨_,rfl⟩
  have hbW : Below w.heap.size w W:=by rw [hWd];exact Rd.byB
  have hsW : W.heap.size = w.heap.size + 1:=by rw [hWd];simp
  have s0 : W.cell? ⟨w.heap.size,0,none⟩ = some (.slice c1 sl.length n1):=by rw [hWd];go_simp
  have s1 : W.cell? ⟨w.heap.size,1,none⟩ = some (.slice c2 st.length n2):=by rw [hWd];go_simp
  have s2 : W.cell? ⟨w.heap.size,2,none⟩ = some (.bool br):=by rw [hWd];go_simp
  replace l0:=kept hbW hfb l0
  replace l1:=kept hbW hfb l1
  replace k0:=kept hbW hsb k0
  replace fz0:=keptf hbW hsb fz0
  replace q0:=kept hbW hpb q0
  replace q1:=kept hbW hpb q1
  replace q2:=kept hbW hpb q2
  rw [← hWd]
  clear hWd
  have hbx0 : W.cell? ⟨w.heap.size,0,none⟩ = W.cell? ⟨w.heap.size,0,none⟩:=rfl
  refine wp_region_held_drew (S:=fun w'=>w'.cell? ⟨E.fb,0,none⟩ = some (.slice ca E.f.classes.length ccap) ∧ (w'.cell? ⟨pb,0,none⟩ = some (.slice c3 was.slots.length n3) ∧ w'.cell? ⟨pb,1,none⟩ = some (.slice c4 was.stack.length n4) ∧ w'.cell? ⟨pb,2,none⟩ = some (.bool was.broken)) ∧ w'.cell? ⟨w.heap.size,0,none⟩ = some (.slice c1 sl.length n1) ∧ w'.cell? ⟨w.heap.size,1,none⟩ = some (.slice c2 st.length n2) ∧ w'.cell? ⟨w.heap.size,2,none⟩ = some (.bool br)) (by kernel_rfl) (by (try dsimp only);exact ⟨l0,⟨q0,q1,q2⟩,s0,s1,s2⟩) (fun hHeld=>?_)
  refine Drawn.tk 0 (some 33) rfl rfl (by assumption) ?_
  try simp only [Act.put,Drawn.La,Drawn.Lb,Drawn.Lc]
  refine Drawn.tk 1 (some 34) rfl rfl (by assumption) ?_
  try simp only [Act.put,Drawn.La,Drawn.Lb,Drawn.Lc]
  refine Drawn.tk 2 (some 35) rfl rfl (by assumption) ?_
  try simp only [Act.put,Drawn.La,Drawn.Lb,Drawn.Lc]
  refine Drawn.tk 3 (some 36) rfl rfl (by assumption) ?_
  try simp only [Act.put,Drawn.La,Drawn.Lb,Drawn.Lc]
  refine Drawn.tk 4 (some 37) rfl rfl (by assumption) ?_
  try simp only [Act.put,Drawn.La,Drawn.Lb,Drawn.Lc]
  refine Drawn.tk 5 (some 38) rfl rfl (by assumption) ?_
  try simp only [Act.put,Drawn.La,Drawn.Lb,Drawn.Lc]
  refine Drawn.tk 6 (some 39) rfl rfl (by assumption) ?_
  try simp only [Act.put,Drawn.La,Drawn.Lb,Drawn.Lc]
  refine Drawn.tk 7 (some 40) rfl rfl (by assumption) ?_
  try simp only [Act.put,Drawn.La,Drawn.Lb,Drawn.Lc]
  refine wpAnyH_ready (rs:=[8,9]) (by kernel_rfl) (by simp) ?_
  refine AllReadyH.cons rfl (fun K hK=>?_) (AllReadyH.cons rfl (fun K hK=>?_) AllReadyH.nil)
  · go_simp
    go_at_call 145
    refine (together hm (HC.out.next (hbW.trans (by exact Rd.byB))) (HW.out.below (X':=fun _=>False) (hbW.trans (by exact Rd.byB)) (fun _ _ e=>e.elim)) (HV.out.below (X':=fun _=>False) (hbW.trans (by exact Rd.byB)) (fun _ _ e=>e.elim)) ow os HNL.out HNS.out).mono ?_
    rintro e w2 ⟨v2,rfl,V2,hb2⟩
    rw [hT.out] at V2
    obtain ⟨xa,xb,rfl,X1,X2⟩:=V2
    obtain ⟨d1,m1,rfl,_⟩:=X1.len
    obtain ⟨d2,m2,rfl,_⟩:=X2.len
    have hb2W : Below W.heap.size W w2:=Below.trans (by exact Rd.byB) (hb2.mono Rd.byL)
    have e1:=kept hb2W (cell_lt l0) l0
    have e2:=kept hb2W (cell_lt q0) q0
    have e3:=kept hb2W (cell_lt q1) q1
    have e4:=kept hb2W (cell_lt q2) q2
    have e5:=kept hb2W (cell_lt s0) s0
    have e6:=kept hb2W (cell_lt s1) s1
    have e7:=kept hb2W (cell_lt s2) s2
    have lx1:=cell_lt e1
    have lx2:=cell_lt e2
    have lx3:=cell_lt e5
    go_wp2_with fail
    refine hK.out _ _ (by (try dsimp only);exact ⟨e1,⟨e2,e3,e4⟩,e5,e6,e7⟩) (fun hHeld=>?_)
    clear hK K
    try simp only [Act.put,Drawn.La,Drawn.Lb,Drawn.Lc]
    refine wpAnyH_ready (rs:=[9]) (by kernel_rfl) (by simp) ?_
    refine AllReadyH.cons rfl (fun K hK=>?_) AllReadyH.nil
    go_simp
    refine hK.out _ _ (by (try dsimp only);refine ⟨?_,⟨?_,?_,?_⟩,?_,?_,?_⟩ <;> go_simp) (fun hHeld=>?_)
    clear hK K
    try simp only [Act.put,Drawn.La,Drawn.Lb,Drawn.Lc]
    refine wpAnyH_ready (rs:=[10]) (by kernel_rfl) (by simp) ?_
    refine AllReadyH.cons rfl (fun K hK=>?_) AllReadyH.nil
    go_simp
    refine hK.out _ _ (by (try dsimp only);refine ⟨?_,⟨?_,?_,?_⟩,?_,?_,?_⟩ <;> go_simp) (fun hHeld=>?_)
    clear hK K
    try simp only [Act.put,Drawn.La,Drawn.Lb,Drawn.Lc]
    refine wpAnyH_done (by kernel_rfl) ?_ _
    obtain ⟨bx,hbx⟩ : ∃ bx,bx = w2.heap.size:=⟨_,rfl⟩
    obtain ⟨W5,hW5⟩ : ∃ W5,W5 = w2.alloc (.cells #[.slice d1 T.slots.length m1,.slice d2 T.stack.length m2,.bool T.broken] 157):=⟨_,rfl⟩
    have hs2:=hb2W.size
    have hal : Below w2.heap.size w2 W5:=by rw [hW5];exact Rd.byB
    have hb5 : Below W.heap.size W W5:=hb2W.trans (hal.mono hs2)
    have x0 : W5.cell? ⟨bx,0,none⟩ = some (.slice d1 T.slots.length m1):=by rw [hW5,hbx];go_simp
    have x1 : W5.cell? ⟨bx,1,none⟩ = some (.slice d2 T.stack.length m2):=by rw [hW5,hbx];go_simp
    have x2 : W5.cell? ⟨bx,2,none⟩ = some (.bool T.broken):=by rw [hW5,hbx];go_simp
    have hbxl : W.heap.size ≤ bx:=by omega
    have VT : Hid (VSt W5 (fun k=>k < W.heap.size) (.agg #[.slice d1 T.slots.length m1,.slice d2 T.stack.length m2,.bool T.broken]) T):=⟨_,_,rfl,X1.below (X':=fun k=>k < W.heap.size) hal (fun b _ e=>by simp;omega),X2.below (X':=fun k=>k < W.heap.size) hal (fun b _ e=>by simp;omega)⟩
    rw [← hW5,← hbx]
    clear hW5 hbx hal
    replace l1:=kept hb5 (cell_lt l1) l1
    replace fz0:=keptf hb5 (cell_lt k0) fz0
    replace k0:=kept hb5 (cell_lt k0) k0
    replace q1:=kept hb5 (cell_lt q1) q1
    replace q2:=kept hb5 (cell_lt q2) q2
    replace q0:=kept hb5 (cell_lt q0) q0
    have hbw5 : Below w.heap.size w W5:=hbW.trans (hb5.mono hbW.size)
    clear e1 e2 e3 e4 e5 e6 e7 s0 s1 s2 l0
    go_wp2_with fail
    go_still_tail 4,(by kernel_rfl)
    go_wp2_with fail
    refine (sameV p (VT.out.below (X':=fun _=>False) (w':=W5.drew) (by exact Rd.byB) (fun _ _ e=>e.elim)) (HW.out.below (X':=fun _=>False) (hbw5.trans (by exact Rd.byB)) (fun _ _ e=>e.elim)) hTl.out.1 hTl.out.2 hp.out).mono ?_
    rintro e6 w6 ⟨rfl,hb6⟩
    have hb6' : Below W5.heap.size W5 w6:=Below.trans (by exact Rd.byB) (hb6.mono Rd.byL)
    have hbw6 : Below w.heap.size w w6:=hbw5.trans (hb6'.mono hbw5.size)
    cases p
    · have hne' : ¬ T = was:=of_decide_eq_false hp.out
      obtain rfl:=e.out.trans (if_neg hne')
      replace l1:=kept hb6' (cell_lt l1) l1
      replace fz0:=keptf hb6' (cell_lt k0) fz0
      replace k0:=kept hb6' (cell_lt k0) k0
      replace x0:=kept hb6' (cell_lt x0) x0
      replace x1:=kept hb6' (cell_lt x1) x1
      replace x2:=kept hb6' (cell_lt x2) x2
      go_upto_region 9 with (fail)
      have F3:=HF.out.below hbw6
      have V6:=VT.out.below (X':=fun k=>k < w.heap.size) hb6' (fun b _ e=>by omega)
      obtain ⟨_,_,ev6,Y1,Y2⟩:=V6
      simp only [Value.agg.injEq] at ev6
      simp at ev6
      obtain ⟨rfl,rfl⟩:=ev6
      have hP : PSt w6 (zone E vw) (.pointer (some ⟨bx,0,none⟩)) (some T) :=
        ⟨bx,_,_,rfl,nz.out _ (by omega),x0,x1,x2,Y1.next (Kp.refl (fun _=>False) w6) (fun _ _ e=>e.elim) (fun b _ hz=>zl b hz),Y2.next (Kp.refl (fun _=>False) w6) (fun _ _ e=>e.elim) (fun b _ hz=>zl b hz)⟩
      have F4:=F3.state ha hP
      have K4 : Kp (zone E vw) w (w6.setCell ⟨E.sb,a,none⟩ (.pointer (some ⟨bx,0,none⟩))):=(Kp.of_below hbw6 (Nat.le_refl _)).setCell (p:=⟨E.sb,a,none⟩) (.inl (.inr (.inr (.inl rfl)))) _
      clear F3 hP
      have hB4:=F4.base
      obtain ⟨W4,hW4⟩ : ∃ W4,W4 = w6.setCell ⟨E.sb,a,none⟩ (.pointer (some ⟨bx,0,none⟩)):=⟨_,rfl⟩
      rw [← hW4] at F4 K4 hB4 ⊢
      clear hW4
      have m2:=(F4.fl 2 (by simp)).1
      have n2':=(F4.fl 2 (by simp)).2
      simp only [List.getElem_cons_zero,List.getElem_cons_succ] at m2
      rw [EVW.out] at m2
      have hfb4:=cell_lt m2
      have hfb5 : E.fb < W4.heap.size + 1:=by omega
      have hrow : Hid (W4.ownsRow E.B 3 1 (.slice wa R.work.length wcap) R.work.length (wcells R.work)):=by
        show World.ownsRow _ _ _ _ _ _ _
        rw [← EVW.out];exact F4.wk
      have hbig : R.work.length + 1 ≤ maxLen:=by have:=HWL.out;unfold maxLen;omega
      have hbig2 : (R.work.length + 1) * 8 ≤ 140737488355328:=by have:=HWL.out;omega
      replace hbig:=Lib.hid hbig
      replace hbig2:=Lib.hid hbig2
      replace F4:=Lib.hid F4
      replace K4:=Lib.hid K4
      go_wp2_with (at_builtin;refine wpList_append_lies _ rfl (.tmp 57) (.tmp 59) 61 rfl E.B 3 io (.int .i64 0) 1 8 Try.underlying61 hi' hy0 hy1 hy2 rfl (by decide) (.slice wa R.work.length wcap) R.work.length (wcells R.work) (by simp [Act.eval,Act.put]) (row_alloc hrow.out _) ⟨W4.heap.size,0,none⟩ 1 1 [.int .i64 a] (by simp [Act.eval,Act.put]) rfl (by exact news_i (by simp)) (by simp [Value.oneCell']) (by decide) hbig.out hbig2.out (by simp;omega) _ rfl ?_;intro g3 cap3 w5 hown3 hgrow3 hat3 hlt3;rw [← EVW.out] at hgrow3 hat3;have K5 : Kp (fun k=>vw.ownBlock = some k) W4 w5:=(Kp.of_below (by exact Rd.byB) (Nat.le_refl _)).trans (Kp.of_grown (X:=fun k=>vw.ownBlock = some k) hgrow3 (fun k e=>e)) (fun y hy=>.inl hy);have nfw : ¬ vw.ownBlock = some E.fb:=(fun e=>(F4.out.far _ e).1 rfl);have m3 : w5.cell? ⟨E.fb,2,none⟩ = some (.slice wa R.work.length wcap):=K5.cell m2 nfw;have n3' : w5.frozen? ⟨E.fb,2,none⟩ = false:=K5.frz n2' hfb4 nfw;have hat4 : vw.ownBlock = some g3 ∨ W4.heap.size ≤ g3:=(hat3.imp id (fun e=>by rw [e];simp));have HA:=Lib.hid (F4.out.work (l:=R.work ++ [a]) (vn:=.slice (some ⟨g3,0,none⟩) (R.work.length + 1) cap3) K5 (by rw [List.length_append,wcells_append];exact hown3) (fun g hg=>by have e : g = g3:=(by simpa [Value.ownBlock,eq_comm] using hg);subst e;exact hat4));clear hown3 hgrow3 hat3 hat4 K5)
      first | go_end0 | ((try simp only [Exit.inBlock,Exit.then]);refine bodyPost_ret (results_none rfl _ _ _) rfl ?_)
      obtain ⟨A1,A2,A3⟩:=HA.out
      exact ⟨rfl,_,A1,K4.out.trans A2 (fun y hy=>.inl hy),fun k hk=>(A3 k hk).imp id (fun e=>Nat.le_trans K4.out.size e)⟩
    · have heq : T = was:=of_decide_eq_true hp.out
      obtain rfl:=e.out.trans (if_pos heq)
      go_wp2
      ((try simp only [Exit.inBlock,Exit.then]);refine bodyPost_ret (results_none rfl _ _ _) rfl ?_)
      exact ⟨rfl,vw,HF.out.below hbw6,Kp.of_below hbw6 (Nat.le_refl _),fun k hk=>.inl hk⟩
  · go_simp
    refine hK.out _ _ (by (try dsimp only);refine ⟨?_,⟨?_,?_,?_⟩,?_,?_,?_⟩ <;> go_simp) (fun hHeld=>?_)
    clear hK K
    try simp only [Act.put,Drawn.La,Drawn.Lb,Drawn.Lc]
    refine wpAnyH_ready (rs:=[8]) (by kernel_rfl) (by simp) ?_
    refine AllReadyH.cons rfl (fun K hK=>?_) AllReadyH.nil
    go_simp
    go_at_call 145
    refine (together hm (HC.out.next (hbW.trans (by exact Rd.byB))) (HW.out.below (X':=fun _=>False) (hbW.trans (by exact Rd.byB)) (fun _ _ e=>e.elim)) (HV.out.below (X':=fun _=>False) (hbW.trans (by exact Rd.byB)) (fun _ _ e=>e.elim)) ow os HNL.out HNS.out).mono ?_
    rintro e w2 ⟨v2,rfl,V2,hb2⟩
    rw [hT.out] at V2
    obtain ⟨xa,xb,rfl,X1,X2⟩:=V2
    obtain ⟨d1,m1,rfl,_⟩:=X1.len
    obtain ⟨d2,m2,rfl,_⟩:=X2.len
    have hb2W : Below W.heap.size W w2:=Below.trans (by exact Rd.byB) (hb2.mono Rd.byL)
    have e1:=kept hb2W (cell_lt l0) l0
    have e2:=kept hb2W (cell_lt q0) q0
    have e3:=kept hb2W (cell_lt q1) q1
    have e4:=kept hb2W (cell_lt q2) q2
    have e5:=kept hb2W (cell_lt s0) s0
    have e6:=kept hb2W (cell_lt s1) s1
    have e7:=kept hb2W (cell_lt s2) s2
    have hs2':=hb2.size
    simp at hs2'
    have y0 : w2.cell? ⟨w.heap.size + 1,0,none⟩ = some (.slice none 0 0):=kept hb2 Rd.byL (by rw [← hsW];go_simp)
    have y1 : w2.cell? ⟨w.heap.size + 1,1,none⟩ = some (.slice none 0 0):=kept hb2 Rd.byL (by rw [← hsW];go_simp)
    have y2 : w2.cell? ⟨w.heap.size + 1,2,none⟩ = some (.bool false):=kept hb2 Rd.byL (by rw [← hsW];go_simp)
    have y3 : w2.frozen? ⟨w.heap.size + 1,0,none⟩ = false:=keptf hb2 Rd.byL (by rw [← hsW];go_simp)
    have y4 : w2.frozen? ⟨w.heap.size + 1,1,none⟩ = false:=keptf hb2 Rd.byL (by rw [← hsW];go_simp)
    have y5 : w2.frozen? ⟨w.heap.size + 1,2,none⟩ = false:=keptf hb2 Rd.byL (by rw [← hsW];go_simp)
    have ne1 : ¬ w.heap.size + 1 = E.fb:=by omega
    have ne2 : ¬ w.heap.size + 1 = pb:=by omega
    have ne3 : ¬ E.fb = w.heap.size + 1:=by omega
    have ne4 : ¬ pb = w.heap.size + 1:=by omega
    go_wp2_with fail
    refine hK.out _ _ (by (try dsimp only);exact ⟨e1,⟨e2,e3,e4⟩,e5,e6,e7⟩) (fun hHeld=>?_)
    clear hK K
    try simp only [Act.put,Drawn.La,Drawn.Lb,Drawn.Lc]
    refine wpAnyH_ready (rs:=[10]) (by kernel_rfl) (by simp) ?_
    refine AllReadyH.cons rfl (fun K hK=>?_) AllReadyH.nil
    go_simp
    refine hK.out _ _ (by (try dsimp only);refine ⟨?_,⟨?_,?_,?_⟩,?_,?_,?_⟩ <;> go_simp) (fun hHeld=>?_)
    clear hK K
    try simp only [Act.put,Drawn.La,Drawn.Lb,Drawn.Lc]
    refine wpAnyH_done (by kernel_rfl) ?_ _
    obtain ⟨bx,hbx⟩ : ∃ bx,bx = w.heap.size + 1:=⟨_,rfl⟩
    obtain ⟨W5,hW5⟩ : ∃ W5,W5 = ((w2.setCell ⟨w.heap.size + 1,0,none⟩ (.slice d1 T.slots.length m1)).setCell ⟨w.heap.size + 1,1,none⟩ (.slice d2 T.stack.length m2)).setCell ⟨w.heap.size + 1,2,none⟩ (.bool T.broken):=⟨_,rfl⟩
    have hs2:=hb2W.size
    have KS : ∀ (V : World) (j : Nat) (u : Value),Kp (fun k=>k = w.heap.size + 1) w2 V → Kp (fun k=>k = w.heap.size + 1) w2 (V.setCell ⟨w.heap.size + 1,j,none⟩ u):=fun V j u K=>K.setCell (p:=⟨w.heap.size + 1,j,none⟩) (.inl rfl) u
    have KSS : Kp (fun k=>k = w.heap.size + 1) w2 W5:=by rw [hW5];exact KS _ 2 _ (KS _ 1 _ (KS _ 0 _ (Kp.refl _ w2)))
    have hb5 : Below W.heap.size W W5:=hb2W.trans (KSS.below hs2 (fun k e=>by omega))
    have x0 : W5.cell? ⟨bx,0,none⟩ = some (.slice d1 T.slots.length m1):=by rw [hW5,hbx];go_simp
    have x1 : W5.cell? ⟨bx,1,none⟩ = some (.slice d2 T.stack.length m2):=by rw [hW5,hbx];go_simp
    have x2 : W5.cell? ⟨bx,2,none⟩ = some (.bool T.broken):=by rw [hW5,hbx];go_simp
    have hbxl : W.heap.size ≤ bx:=by omega
    have VT : Hid (VSt W5 (fun k=>k < W.heap.size) (.agg #[.slice d1 T.slots.length m1,.slice d2 T.stack.length m2,.bool T.broken]) T):=⟨_,_,rfl,X1.next (X':=fun k=>k < W.heap.size) KSS (fun b _ e=>by simp;omega) (fun b _ e=>by simp;omega),X2.next (X':=fun k=>k < W.heap.size) KSS (fun b _ e=>by simp;omega) (fun b _ e=>by simp;omega)⟩
    rw [← hW5,← hbx]
    clear hW5 hbx y0 y1 y2 y3 y4 y5 ne1 ne2 ne3 ne4
    replace l1:=kept hb5 (cell_lt l1) l1
    replace fz0:=keptf hb5 (cell_lt k0) fz0
    replace k0:=kept hb5 (cell_lt k0) k0
    replace q1:=kept hb5 (cell_lt q1) q1
    replace q2:=kept hb5 (cell_lt q2) q2
    replace q0:=kept hb5 (cell_lt q0) q0
    have hbw5 : Below w.heap.size w W5:=hbW.trans (hb5.mono hbW.size)
    clear e1 e2 e3 e4 e5 e6 e7 s0 s1 s2 l0
    go_wp2_with fail
    go_still_tail 4,(by kernel_rfl)
    go_wp2_with fail
    refine (sameV p (VT.out.below (X':=fun _=>False) (w':=W5.drew) (by exact Rd.byB) (fun _ _ e=>e.elim)) (HW.out.below (X':=fun _=>False) (hbw5.trans (by exact Rd.byB)) (fun _ _ e=>e.elim)) hTl.out.1 hTl.out.2 hp.out).mono ?_
    rintro e6 w6 ⟨rfl,hb6⟩
    have hb6' : Below W5.heap.size W5 w6:=Below.trans (by exact Rd.byB) (hb6.mono Rd.byL)
    have hbw6 : Below w.heap.size w w6:=hbw5.trans (hb6'.mono hbw5.size)
    cases p
    · have hne' : ¬ T = was:=of_decide_eq_false hp.out
      obtain rfl:=e.out.trans (if_neg hne')
      replace l1:=kept hb6' (cell_lt l1) l1
      replace fz0:=keptf hb6' (cell_lt k0) fz0
      replace k0:=kept hb6' (cell_lt k0) k0
      replace x0:=kept hb6' (cell_lt x0) x0
      replace x1:=kept hb6' (cell_lt x1) x1
      replace x2:=kept hb6' (cell_lt x2) x2
      go_upto_region 9 with (fail)
      have F3:=HF.out.below hbw6
      have V6:=VT.out.below (X':=fun k=>k < w.heap.size) hb6' (fun b _ e=>by omega)
      obtain ⟨_,_,ev6,Y1,Y2⟩:=V6
      simp only [Value.agg.injEq] at ev6
      simp at ev6
      obtain ⟨rfl,rfl⟩:=ev6
      have hP : PSt w6 (zone E vw) (.pointer (some ⟨bx,0,none⟩)) (some T) :=
        ⟨bx,_,_,rfl,nz.out _ (by omega),x0,x1,x2,Y1.next (Kp.refl (fun _=>False) w6) (fun _ _ e=>e.elim) (fun b _ hz=>zl b hz),Y2.next (Kp.refl (fun _=>False) w6) (fun _ _ e=>e.elim) (fun b _ hz=>zl b hz)⟩
      have F4:=F3.state ha hP
      have K4 : Kp (zone E vw) w (w6.setCell ⟨E.sb,a,none⟩ (.pointer (some ⟨bx,0,none⟩))):=(Kp.of_below hbw6 (Nat.le_refl _)).setCell (p:=⟨E.sb,a,none⟩) (.inl (.inr (.inr (.inl rfl)))) _
      clear F3 hP
      have hB4:=F4.base
      obtain ⟨W4,hW4⟩ : ∃ W4,W4 = w6.setCell ⟨E.sb,a,none⟩ (.pointer (some ⟨bx,0,none⟩)):=⟨_,rfl⟩
      rw [← hW4] at F4 K4 hB4 ⊢
      clear hW4
      have m2:=(F4.fl 2 (by simp)).1
      have n2':=(F4.fl 2 (by simp)).2
      simp only [List.getElem_cons_zero,List.getElem_cons_succ] at m2
      rw [EVW.out] at m2
      have hfb4:=cell_lt m2
      have hfb5 : E.fb < W4.heap.size + 1:=by omega
      have hrow : Hid (W4.ownsRow E.B 3 1 (.slice wa R.work.length wcap) R.work.length (wcells R.work)):=by
        show World.ownsRow _ _ _ _ _ _ _
        rw [← EVW.out];exact F4.wk
      have hbig : R.work.length + 1 ≤ maxLen:=by have:=HWL.out;unfold maxLen;omega
      have hbig2 : (R.work.length + 1) * 8 ≤ 140737488355328:=by have:=HWL.out;omega
      replace hbig:=Lib.hid hbig
      replace hbig2:=Lib.hid hbig2
      replace F4:=Lib.hid F4
      replace K4:=Lib.hid K4
      go_wp2_with (at_builtin;refine wpList_append_lies _ rfl (.tmp 57) (.tmp 59) 61 rfl E.B 3 io (.int .i64 0) 1 8 Try.underlying61 hi' hy0 hy1 hy2 rfl (by decide) (.slice wa R.work.length wcap) R.work.length (wcells R.work) (by simp [Act.eval,Act.put]) (row_alloc hrow.out _) ⟨W4.heap.size,0,none⟩ 1 1 [.int .i64 a] (by simp [Act.eval,Act.put]) rfl (by exact news_i (by simp)) (by simp [Value.oneCell']) (by decide) hbig.out hbig2.out (by simp;omega) _ rfl ?_;intro g3 cap3 w5 hown3 hgrow3 hat3 hlt3;rw [← EVW.out] at hgrow3 hat3;have K5 : Kp (fun k=>vw.ownBlock = some k) W4 w5:=(Kp.of_below (by exact Rd.byB) (Nat.le_refl _)).trans (Kp.of_grown (X:=fun k=>vw.ownBlock = some k) hgrow3 (fun k e=>e)) (fun y hy=>.inl hy);have nfw : ¬ vw.ownBlock = some E.fb:=(fun e=>(F4.out.far _ e).1 rfl);have m3 : w5.cell? ⟨E.fb,2,none⟩ = some (.slice wa R.work.length wcap):=K5.cell m2 nfw;have n3' : w5.frozen? ⟨E.fb,2,none⟩ = false:=K5.frz n2' hfb4 nfw;have hat4 : vw.ownBlock = some g3 ∨ W4.heap.size ≤ g3:=(hat3.imp id (fun e=>by rw [e];simp));have HA:=Lib.hid (F4.out.work (l:=R.work ++ [a]) (vn:=.slice (some ⟨g3,0,none⟩) (R.work.length + 1) cap3) K5 (by rw [List.length_append,wcells_append];exact hown3) (fun g hg=>by have e : g = g3:=(by simpa [Value.ownBlock,eq_comm] using hg);subst e;exact hat4));clear hown3 hgrow3 hat3 hat4 K5)
      first | go_end0 | ((try simp only [Exit.inBlock,Exit.then]);refine bodyPost_ret (results_none rfl _ _ _) rfl ?_)
      obtain ⟨A1,A2,A3⟩:=HA.out
      exact ⟨rfl,_,A1,K4.out.trans A2 (fun y hy=>.inl hy),fun k hk=>(A3 k hk).imp id (fun e=>Nat.le_trans K4.out.size e)⟩
    · have heq : T = was:=of_decide_eq_true hp.out
      obtain rfl:=e.out.trans (if_pos heq)
      go_wp2
      ((try simp only [Exit.inBlock,Exit.then]);refine bodyPost_ret (results_none rfl _ _ _) rfl ?_)
      exact ⟨rfl,vw,HF.out.below hbw6,Kp.of_below hbw6 (Nat.le_refl _),fun k hk=>.inl hk⟩
theorem lead (F : Fw E w vw R) (hm : Hier.may E.f.classes = true) (hR : RunOk E.f.classes.length nl ns len R) (hv : VSt w (zone E vw) v s) (os : StOk E.f.classes.length nl ns s) (hnl : nl ≤ 1000) (hns : ns ≤ 1000) (a : Nat) (hwl : R.work.length ≤ 100000000) : Calls Try.prog 93 #[.pointer (some ⟨E.fb,0,none⟩),.int .i64 a,v] w (LeadR E vw w (Flow.lead E.f.classes R a s)):=by
  by_cases ha : a < R.states.length
  · cases hn : R.states.getD a none with
    | none =>
      have h12 : s.slots.length ≤ 1000 ∧ s.stack.length ≤ 1000:=by
        cases hb : s.broken
        · obtain ⟨a1,a2,_⟩:=os.2 hb;omega
        · rw [os.1 hb];simp [State.bad]
      exact lead1 F hv h12.1 h12.2 a ha hn hwl
    | some was=>exact lead2 F hm hv os (hR.2.1 a was hn) hnl hns a ha hn hwl
  · exact lead0 F hv a ha
end
end Sck
end Go.Proofs.Ytncmhenfgbcihab
namespace Go.Proofs.Ytncmhenfgbcihab
open Go.RowKit
set_option linter.unusedSimpArgs false
set_option linter.unusedVariables false
namespace Sck
open Num Rd D Mem Hpw Flow HierW FormW
def NX (w : World) (B : Nat) (v : Value) (l : List Nat) : Prop:=∃ a cap,v = .slice a l.length cap ∧ l.length ≤ cap ∧ cap ≤ 9 ∧ ∀ i,i < l.length → ∃ b,a = some ⟨b,0,none⟩ ∧ B ≤ b ∧ w.cell? ⟨b,i,none⟩ = some (.int .i64 (l.getD i 0))
def NextR (w : World) (l : List Nat) (e : Ending) (w' : World) : Prop:=∃ v,e = .returned v ∧ NX w' w.heap.size v l ∧ Below w.heap.size w w'
theorem nx1 {w w' : World} {b B : Nat} {x : Nat} (hb : B ≤ b) (h : w'.cell? ⟨b,0,none⟩ = some (.int .i64 x)) : NX w' B (.slice (some ⟨b,0,none⟩) 1 1) [x] :=
  ⟨_,1,rfl,Nat.le_refl _,by omega,fun i hi=>⟨b,rfl,hb,by simp at hi;subst hi;exact h⟩⟩
theorem nx2 {w' : World} {b B : Nat} {x y : Nat} (hb : B ≤ b) (h : w'.cell? ⟨b,0,none⟩ = some (.int .i64 x)) (h2 : w'.cell? ⟨b,1,none⟩ = some (.int .i64 y)) : NX w' B (.slice (some ⟨b,0,none⟩) 2 2) [x,y] :=
  ⟨_,2,rfl,Nat.le_refl _,by omega,fun i hi=>⟨b,rfl,hb,by
    simp at hi
    rcases (show i = 0 ∨ i = 1 by omega) with e | e <;> subst e
    · exact h
    · exact h2⟩⟩
section
variable {w : World}
set_option maxRecDepth 100000 in
set_option maxHeartbeats 4000000 in
theorem nexts (op ia ib ic in_ : Int) (iargs : List Int) (a : Option Addr) (n cap : Nat) (at_ : Nat) (hat : at_ ≤ 100000) (hj : op = 11 ∨ op = 12 ∨ op = 13 → 0 ≤ ia) : Calls Try.prog 148 #[.agg #[.int .i64 op,.int .i64 ia,.int .i64 ib,.int .i64 ic,.int .i64 in_,.slice a n cap],.int .i64 at_] w (NextR w (Chk.nexts ⟨op,ia,ib,ic,in_,iargs⟩ at_)):=by
  have s1 : IntKind.i64.wrap ((at_ : Int) + 1) = ((at_ + 1 : Nat) : Int):=by rw [Num.wrap_i64,wrap64_id (by unfold Ok;omega)];omega
  have s2 : ((at_ : Int) + 1) = ((at_ + 1 : Nat) : Int):=by omega
  replace s2:=Lib.hid s2
  replace hat:=Lib.hid hat
  by_cases q11 : op = 11
  · subst q11
    obtain ⟨k,rfl⟩ : ∃ k : Nat,ia = (k : Int):=⟨ia.toNat,by have:=hj (.inl rfl);omega⟩
    have e : Hid (Chk.nexts ⟨11,(k : Int),ib,ic,in_,iargs⟩ at_ = [k]):=by show _ = _;simp [Chk.nexts]
    rw [e.out]
    clear hj
    go_enter Try.func148,Try.ntmps148
    go_wp2
    go_ret
    exact ⟨_,rfl,nx1 (w:=w) (by simp) (by go_simp),by exact Rd.byB⟩
  · have p11 : (op == 11) = false:=by simpa using q11
    by_cases q12 : op = 12 ∨ op = 13
    · obtain ⟨k,rfl⟩ : ∃ k : Nat,ia = (k : Int):=⟨ia.toNat,by have:=hj (.inr q12);omega⟩
      have e : Hid (Chk.nexts ⟨op,(k : Int),ib,ic,in_,iargs⟩ at_ = [at_ + 1,k]):=by show _ = _;unfold Chk.nexts;rw [if_neg q11,if_pos q12];simp
      rw [e.out]
      clear hj
      rcases q12 with q | q
      all_goals
        subst q
        clear p11 q11
        go_enter Try.func148,Try.ntmps148
        go_wp2
        go_ret
        exact ⟨_,rfl,nx2 (by simp) (by go_simp) (by go_simp),by exact Rd.byB⟩
    · by_cases q20 : op = 20 ∨ op = 21
      · have e : Hid (Chk.nexts ⟨op,ia,ib,ic,in_,iargs⟩ at_ = []):=by show _ = _;unfold Chk.nexts;rw [if_neg q11,if_neg q12,if_pos q20]
        rw [e.out]
        clear hj
        rcases q20 with q | q
        all_goals
          subst q
          clear p11 q11 q12
          go_enter Try.func148,Try.ntmps148
          go_wp2
          go_ret
          exact ⟨_,rfl,⟨none,0,rfl,Nat.le_refl _,by omega,fun i hi=>absurd hi (by simp)⟩,by exact Rd.byB⟩
      · have e : Hid (Chk.nexts ⟨op,ia,ib,ic,in_,iargs⟩ at_ = [at_ + 1]):=by show _ = _;unfold Chk.nexts;rw [if_neg q11,if_neg q12,if_neg q20]
        have p12 : (op == 12) = false:=by simp;omega
        have p13 : (op == 13) = false:=by simp;omega
        have p20 : (op == 20) = false:=by simp;omega
        have p21 : (op == 21) = false:=by simp;omega
        rw [e.out]
        clear hj q11 q12 q20
        go_enter Try.func148,Try.ntmps148
        go_wp2
        go_ret
        exact ⟨_,rfl,nx1 (w:=w) (by simp) (by go_simp),by exact Rd.byB⟩
end
end Sck
end Go.Proofs.Ytncmhenfgbcihab
