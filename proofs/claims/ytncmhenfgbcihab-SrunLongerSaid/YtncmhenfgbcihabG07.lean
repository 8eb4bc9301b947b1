/- Parts of the proof: Pk4, Pk5, Pl, Pq, Pr. -/
import Derived.Test.YtncmhenfgbcihabG06
import Derived.Defers
import Derived.Recover
import Derived.Laws.Pointers
namespace Go.Proofs.Ytncmhenfgbcihab
open Go.RowKit
set_option linter.unusedSimpArgs false
set_option linter.unusedVariables false
namespace Hpw
open Num Rd D Run Mem HierW
section
variable {E : Ev} {w w' w1 w2 : World} {L L' L1 : Lay} {h h' h1 h2 : Hp} {d : Nat} {P : PS} {m : Me} {fr fr' fr1 : Sf} {vs vs1 : Value}
set_option maxRecDepth 100000 in
set_option maxHeartbeats 2000000 in
theorem pl16n (S : ST E w L P m d h fr vs) (hbig : fr.stk.length ≤ 1000) (a b c n : Int) (args : List Int) (aa : Option Addr) (an acap : Nat) (hn : fr.stk = []) :
    Calls Try.prog 184 #[.pointer (some ⟨P.cb,0,none⟩),.agg #[.int .i64 16,.int .i64 a,.int .i64 b,.int .i64 c,.int .i64 n,.slice aa an acap]] w (PlR E L P m d vs fr (.tuple #[]) w (oA (sstep E.f E.input m ⟨16,a,b,c,n,args⟩ fr h))):=by
  rw [st16n (.inl hn)]
  have HS:=Lib.hid S
  have hcb:=S.cbw
  have hcb1 : P.cb < w.heap.size + 1:=by omega
  have nf:=S.fo_new (Nat.le_refl _)
  clear S
  go_enter Try.func184,Try.ntmps184
  go_wp2_with (go_at_call 179;refine (anyNo (HS.out.below (by exact Rd.byB)) hn).mono ?_;rintro e w2 ⟨rfl,hb2⟩;have HB2:=Lib.hid (show Below w.heap.size w w2 from Below.trans (by exact Rd.byB) (hb2.mono Rd.byL));clear hb2;unfold pan)
  refine And.intro rfl ?_
  exact plr_stuck (Gr.of_below HB2.out) (HS.out.below HB2.out)
set_option maxRecDepth 100000 in
set_option maxHeartbeats 2000000 in
theorem pl16m (S : ST E w L P m d h fr vs) (hbig : fr.stk.length ≤ 1000) (a b c n : Int) (args : List Int) (aa : Option Addr) (an acap : Nat) (hn1 : fr.stk ≠ []) (hn : fr.stk.dropLast = []) :
    Calls Try.prog 184 #[.pointer (some ⟨P.cb,0,none⟩),.agg #[.int .i64 16,.int .i64 a,.int .i64 b,.int .i64 c,.int .i64 n,.slice aa an acap]] w (PlR E L P m d vs fr (.tuple #[]) w (oA (sstep E.f E.input m ⟨16,a,b,c,n,args⟩ fr h))):=by
  rw [st16n (.inr hn)]
  have HS:=Lib.hid S
  have hcb:=S.cbw
  have hcb1 : P.cb < w.heap.size + 1:=by omega
  have nf:=S.fo_new (Nat.le_refl _)
  have c0:=S.c0
  obtain ⟨⟨tk,tn⟩,ht⟩ : ∃ t,Hid (top fr.stk = t):=⟨_,Lib.hid rfl⟩
  clear S
  go_enter Try.func184,Try.ntmps184
  go_wp2_with (go_at_call 179;refine (anyOk (HS.out.below (by exact Rd.byB)) hn1 hbig).mono ?_;rw [ht.out];unfold vl;rintro e w2 ⟨rfl,A⟩;obtain ⟨L2,v2,G2,S2⟩:=A.opn;have y2_0 : w2.cell? ⟨P.cb,0,none⟩ = some (.pointer (some ⟨E.hb,0,none⟩)):=S2.c0;have y2_1:=G2.cell (b:=w.heap.size) (o:=1) (v:=.int .i64 a) nf (by go_simp);have y2_2:=G2.cell (b:=w.heap.size) (o:=2) (v:=.int .i64 b) nf (by go_simp);have nf2:=G2.nf (by simp) nf;have nfb:=S2.fo_new (Nat.le_refl _);have hcb2:=S2.cbw;have GA:=Lib.hid ((Gr.of_below (E:=E) (L:=L) (P:=P) (vs:=vs) (w:=w) (by exact Rd.byB)).trans G2);replace S2:=Lib.hid S2;have hwl : w.heap.size < w2.heap.size:=(by have:=G2.kp.size;simp at this;omega);clear A G2)
  go_at_call 181
  refine (takeNo (S2.out.below (by exact Rd.byB)) hn _).mono ?_
  rintro e w3 ⟨rfl,hb⟩
  have HB3 : Below w2.heap.size w2 w3:=Below.trans (by exact Rd.byB) (hb.mono Rd.byL)
  unfold pan
  refine And.intro rfl ?_
  exact plr_stuck (GA.out.trans (Gr.of_below HB3)) (S2.out.below HB3)
set_option maxRecDepth 100000 in
set_option maxHeartbeats 2000000 in
theorem pl16b (S : ST E w L P m d h fr vs) (hbig : fr.stk.length ≤ 1000) (a b c n : Int) (args : List Int) (aa : Option Addr) (an acap : Nat) (hn : fr.stk ≠ []) (hn2 : fr.stk.dropLast ≠ []) (hk : (top fr.stk.dropLast).kind ≠ 3) :
    Calls Try.prog 184 #[.pointer (some ⟨P.cb,0,none⟩),.agg #[.int .i64 16,.int .i64 a,.int .i64 b,.int .i64 c,.int .i64 n,.slice aa an acap]] w (PlR E L P m d vs fr (.tuple #[]) w (oA (sstep E.f E.input m ⟨16,a,b,c,n,args⟩ fr h))):=by
  rw [st16 hn hn2]
  unfold kindly
  rw [if_neg hk]
  have HS:=Lib.hid S
  have hcb:=S.cbw
  have hcb1 : P.cb < w.heap.size + 1:=by omega
  have nf:=S.fo_new (Nat.le_refl _)
  have c0:=S.c0
  obtain ⟨⟨tk,tn⟩,ht⟩ : ∃ t,Hid (top fr.stk = t):=⟨_,Lib.hid rfl⟩
  clear S
  go_enter Try.func184,Try.ntmps184
  go_wp2_with (go_at_call 179;refine (anyOk (HS.out.below (by exact Rd.byB)) hn hbig).mono ?_;rw [ht.out];unfold vl;rintro e w2 ⟨rfl,A⟩;obtain ⟨L2,v2,G2,S2⟩:=A.opn;have y2_0 : w2.cell? ⟨P.cb,0,none⟩ = some (.pointer (some ⟨E.hb,0,none⟩)):=S2.c0;have y2_1:=G2.cell (b:=w.heap.size) (o:=1) (v:=.int .i64 a) nf (by go_simp);have y2_2:=G2.cell (b:=w.heap.size) (o:=2) (v:=.int .i64 b) nf (by go_simp);have nf2:=G2.nf (by simp) nf;have nfb:=S2.fo_new (Nat.le_refl _);have hcb2:=S2.cbw;have GA:=Lib.hid ((Gr.of_below (E:=E) (L:=L) (P:=P) (vs:=vs) (w:=w) (by exact Rd.byB)).trans G2);replace S2:=Lib.hid S2;have hwl : w.heap.size < w2.heap.size:=(by have:=G2.kp.size;simp at this;omega);clear A G2)
  go_at_call 181
  refine (takeBad (S2.out.below (by exact Rd.byB)) hn2 (by simp only [List.length_dropLast];omega) _ hk).mono ?_
  rintro e w3 ⟨rfl,A⟩
  obtain ⟨L3,v3,G3,S3⟩:=(LftF.before (w:=w2) (by exact Rd.byB) A).opn
  unfold pan
  refine And.intro rfl ?_
  exact plr_stuck (GA.out.trans G3) S3
set_option maxRecDepth 100000 in
set_option maxHeartbeats 2000000 in
theorem pl16o (S : ST E w L P m d h fr vs) (hbig : fr.stk.length ≤ 1000) (a b c n : Int) (args : List Int) (aa : Option Addr) (an acap : Nat) (hn : fr.stk ≠ []) (hn2 : fr.stk.dropLast ≠ []) (hk : (top fr.stk.dropLast).kind = 3) (hm : Hier.may E.f.classes = true) (HO : HpOk E.f.classes E.input E.fuel h) (hr : VlOk h.objs.length (top fr.stk.dropLast)) (hv : VlOk h.objs.length (top fr.stk)) (hc : 0 ≤ a ∧ a < E.f.classes.length) (hf : 0 ≤ b ∧ b < ((Hier.at' E.f.classes a.toNat).fields.length : Int)) :
    Calls Try.prog 184 #[.pointer (some ⟨P.cb,0,none⟩),.agg #[.int .i64 16,.int .i64 a,.int .i64 b,.int .i64 c,.int .i64 n,.slice aa an acap]] w (PlR E L P m d vs fr (.tuple #[]) w (oA (sstep E.f E.input m ⟨16,a,b,c,n,args⟩ fr h))):=by
  rw [st16 hn hn2]
  unfold kindly
  rw [if_pos hk]
  have HS:=Lib.hid S
  have hcb:=S.cbw
  have hcb1 : P.cb < w.heap.size + 1:=by omega
  have nf:=S.fo_new (Nat.le_refl _)
  have c0:=S.c0
  obtain ⟨⟨tk,tn⟩,ht⟩ : ∃ t,Hid (top fr.stk = t):=⟨_,Lib.hid rfl⟩
  obtain ⟨⟨uk,un⟩,hu⟩ : ∃ t,Hid (top fr.stk.dropLast = t):=⟨_,Lib.hid rfl⟩
  rw [hu.out] at hk hr ⊢
  rw [ht.out] at hv ⊢
  simp only at hk
  subst hk
  obtain ⟨r,hrr⟩ : ∃ r,Hid (Run.put E.f.classes ⟨3,un⟩ a b ⟨tk,tn⟩ (ftype E.f.classes a b) h = r):=⟨_,Lib.hid rfl⟩
  rw [hrr.out]
  have HV:=Lib.hid hv
  have HR:=Lib.hid hr
  have HH:=Lib.hid HO
  have HC:=Lib.hid hc
  have HF:=Lib.hid hf
  clear hv hr HO hc hf
  clear S
  go_enter Try.func184,Try.ntmps184
  go_wp2_with (go_at_call 179;refine (anyOk (HS.out.below (by exact Rd.byB)) hn hbig).mono ?_;rw [ht.out];unfold vl;rintro e w2 ⟨rfl,A⟩;obtain ⟨L2,v2,G2,S2⟩:=A.opn;have y2_0 : w2.cell? ⟨P.cb,0,none⟩ = some (.pointer (some ⟨E.hb,0,none⟩)):=S2.c0;have y2_1:=G2.cell (b:=w.heap.size) (o:=1) (v:=.int .i64 a) nf (by go_simp);have y2_2:=G2.cell (b:=w.heap.size) (o:=2) (v:=.int .i64 b) nf (by go_simp);have nf2:=G2.nf (by simp) nf;have nfb:=S2.fo_new (Nat.le_refl _);have hcb2:=S2.cbw;have GA:=Lib.hid ((Gr.of_below (E:=E) (L:=L) (P:=P) (vs:=vs) (w:=w) (by exact Rd.byB)).trans G2);replace S2:=Lib.hid S2;have hwl : w.heap.size < w2.heap.size:=(by have:=G2.kp.size;simp at this;omega);clear A G2)
  go_at_call 181
  refine (takeOk (S2.out.below (by exact Rd.byB)) hn2 (by simp only [List.length_dropLast];omega) _ (by rw [hu.out])).mono ?_
  rw [hu.out]
  unfold vl
  rintro e w3 ⟨rfl,A⟩
  obtain ⟨L3,v3,G3,S3⟩:=A.opn
  have y3_0 : w3.cell? ⟨P.cb,0,none⟩ = some (.pointer (some ⟨E.hb,0,none⟩)):=S3.c0
  have y3_1:=G3.cell (b:=w.heap.size) (o:=1) (v:=.int .i64 a) nf2 (by go_simp)
  have y3_2:=G3.cell (b:=w.heap.size) (o:=2) (v:=.int .i64 b) nf2 (by go_simp)
  have y3_3:=G3.cell (b:=w2.heap.size) (o:=0) (v:=.int .i64 tk) nfb (by go_simp)
  have y3_4:=G3.cell (b:=w2.heap.size) (o:=1) (v:=.int .i64 tn) nfb (by go_simp)
  have nf3:=G3.nf (by simp;omega) nf2
  have nf3b:=G3.nf (by simp) nfb
  have nf3c:=S3.fo_new (Nat.le_refl _)
  have GB:=Lib.hid ((GA.out.trans (Gr.of_below (by exact Rd.byB))).trans G3)
  have hcb3:=S3.cbw
  have hwl3 : w2.heap.size < w3.heap.size:=by have:=G3.kp.size;simp at this;omega
  have hwl4 : w.heap.size < w3.heap.size:=by omega
  replace S3:=Lib.hid S3
  clear A G3
  go_wp2_with fail
  refine wp_region_held_drew (S:=fun w'=>w'.cell? ⟨P.cb,0,none⟩ = some (.pointer (some ⟨E.hb,0,none⟩)) ∧ w'.cell? ⟨w3.heap.size,0,none⟩ = some (.int .i64 3) ∧ w'.cell? ⟨w3.heap.size,1,none⟩ = some (.int .i64 un) ∧ w'.cell? ⟨w.heap.size,1,none⟩ = some (.int .i64 a) ∧ w'.cell? ⟨w.heap.size,2,none⟩ = some (.int .i64 b) ∧ w'.cell? ⟨w2.heap.size,0,none⟩ = some (.int .i64 tk) ∧ w'.cell? ⟨w2.heap.size,1,none⟩ = some (.int .i64 tn)) (by kernel_rfl) (by (try dsimp only);refine ⟨?_,?_,?_,?_,?_,?_,?_⟩ <;> go_simp) (fun hHeld=>?_)
  refine Drawn.tk 0 (some 133) rfl rfl (by assumption) ?_
  try simp only [Act.put,Drawn.La,Drawn.Lb,Drawn.Lc]
  refine Drawn.tk 1 (some 134) rfl rfl (by assumption) ?_
  try simp only [Act.put,Drawn.La,Drawn.Lb,Drawn.Lc]
  refine Drawn.tk 2 (some 135) rfl rfl (by assumption) ?_
  try simp only [Act.put,Drawn.La,Drawn.Lb,Drawn.Lc]
  refine Drawn.tk 3 (some 136) rfl rfl (by assumption) ?_
  try simp only [Act.put,Drawn.La,Drawn.Lb,Drawn.Lc]
  refine Drawn.tk 4 (some 137) rfl rfl (by assumption) ?_
  try simp only [Act.put,Drawn.La,Drawn.Lb,Drawn.Lc]
  refine Drawn.tk 5 (some 138) rfl rfl (by assumption) ?_
  try simp only [Act.put,Drawn.La,Drawn.Lb,Drawn.Lc]
  refine Drawn.tk 6 (some 139) rfl rfl (by assumption) ?_
  try simp only [Act.put,Drawn.La,Drawn.Lb,Drawn.Lc]
  refine Drawn.tk 7 (some 140) rfl rfl (by assumption) ?_
  try simp only [Act.put,Drawn.La,Drawn.Lb,Drawn.Lc]
  refine Drawn.tk 8 (some 141) rfl rfl (by assumption) ?_
  try simp only [Act.put,Drawn.La,Drawn.Lb,Drawn.Lc]
  refine Drawn.tk 9 (some 142) rfl rfl (by assumption) ?_
  try simp only [Act.put,Drawn.La,Drawn.Lb,Drawn.Lc]
  refine wpAnyH_ready (rs:=[10]) (by kernel_rfl) (by simp) ?_
  refine AllReadyH.cons rfl (fun K hK=>?_) AllReadyH.nil
  go_simp
  go_at_call 222
  refine (putP (S3.out.below (by exact Rd.byB)).H hm HH.out ⟨3,un⟩ ⟨tk,tn⟩ a b HR.out HV.out HC.out HF.out).mono ?_
  rw [hrr.out]
  rintro e w4 hR
  cases r with
  | ok x h2 =>
    obtain ⟨rfl,A⟩:=hR
    obtain ⟨L4,G4,S4⟩:=Gr.of_heap A (S3.out.below (by exact Rd.byB))
    have y4_0 : w4.cell? ⟨P.cb,0,none⟩ = some (.pointer (some ⟨E.hb,0,none⟩)):=S4.c0
    have y4_1:=G4.cell (b:=w3.heap.size) (o:=0) (v:=.int .i64 3) nf3c (by go_simp)
    have y4_2:=G4.cell (b:=w3.heap.size) (o:=1) (v:=.int .i64 un) nf3c (by go_simp)
    have y4_3:=G4.cell (b:=w.heap.size) (o:=1) (v:=.int .i64 a) nf3 (by go_simp)
    have y4_4:=G4.cell (b:=w.heap.size) (o:=2) (v:=.int .i64 b) nf3 (by go_simp)
    have y4_5:=G4.cell (b:=w2.heap.size) (o:=0) (v:=.int .i64 tk) nf3b (by go_simp)
    have y4_6:=G4.cell (b:=w2.heap.size) (o:=1) (v:=.int .i64 tn) nf3b (by go_simp)
    have GC:=Lib.hid ((GB.out.trans (Gr.of_below (by exact Rd.byB))).trans G4)
    replace S4:=Lib.hid S4
    clear A G4
    go_wp2_with fail
    refine hK.out _ _ (by (try dsimp only);exact ⟨y4_0,y4_1,y4_2,y4_3,y4_4,y4_5,y4_6⟩) (fun hHeld=>?_)
    clear hK K
    try simp only [Act.put,Drawn.La,Drawn.Lb,Drawn.Lc]
    refine wpAnyH_done (by kernel_rfl) ?_ _
    go_wp2_with fail
    go_end0
    exact plr_go GC.out S4.out
  | thrown o h2 =>
    obtain ⟨rfl,A⟩:=hR
    obtain ⟨L4,G4,S4⟩:=Gr.of_heap A (S3.out.below (by exact Rd.byB))
    unfold pan
    refine And.intro rfl ?_
    exact plr_thrown ((GB.out.trans (Gr.of_below (by exact Rd.byB))).trans G4) S4
  | stop c2 h2 =>
    obtain ⟨rfl,A⟩:=hR
    obtain ⟨L4,G4,S4⟩:=Gr.of_heap A (S3.out.below (by exact Rd.byB))
    unfold pan
    refine And.intro rfl ?_
    exact plr_stop ((GB.out.trans (Gr.of_below (by exact Rd.byB))).trans G4) S4
set_option maxRecDepth 100000 in
set_option maxHeartbeats 2000000 in
theorem pl24n (S : ST E w L P m d h fr vs) (hbig : fr.stk.length ≤ 1000) (a b c n : Int) (args : List Int) (aa : Option Addr) (an acap : Nat) (hn : fr.stk = []) :
    Calls Try.prog 184 #[.pointer (some ⟨P.cb,0,none⟩),.agg #[.int .i64 24,.int .i64 a,.int .i64 b,.int .i64 c,.int .i64 n,.slice aa an acap]] w (PlR E L P m d vs fr (.tuple #[]) w (oA (sstep E.f E.input m ⟨24,a,b,c,n,args⟩ fr h))):=by
  rw [st24n hn]
  have HS:=Lib.hid S
  have hcb:=S.cbw
  have hcb1 : P.cb < w.heap.size + 1:=by omega
  have nf:=S.fo_new (Nat.le_refl _)
  have c0:=S.c0
  clear S
  go_enter Try.func184,Try.ntmps184
  go_wp2_with fail
  refine wp_region_held_drew (S:=fun w'=>w'.cell? ⟨P.cb,0,none⟩ = some (.pointer (some ⟨E.hb,0,none⟩)) ∧ w'.cell? ⟨w.heap.size,1,none⟩ = some (.int .i64 a)) (by kernel_rfl) (by (try dsimp only);refine ⟨?_,?_⟩ <;> go_simp) (fun hHeld=>?_)
  refine Drawn.tk 0 (some 189) rfl rfl (by assumption) ?_
  try simp only [Act.put,Drawn.La,Drawn.Lb,Drawn.Lc]
  refine Drawn.tk 1 (some 190) rfl rfl (by assumption) ?_
  try simp only [Act.put,Drawn.La,Drawn.Lb,Drawn.Lc]
  refine Drawn.tk 2 (some 191) rfl rfl (by assumption) ?_
  try simp only [Act.put,Drawn.La,Drawn.Lb,Drawn.Lc]
  refine Drawn.tk 3 (some 192) rfl rfl (by assumption) ?_
  try simp only [Act.put,Drawn.La,Drawn.Lb,Drawn.Lc]
  refine Drawn.tk 4 (some 193) rfl rfl (by assumption) ?_
  try simp only [Act.put,Drawn.La,Drawn.Lb,Drawn.Lc]
  refine Drawn.tk 6 (some 195) rfl rfl (by assumption) ?_
  try simp only [Act.put,Drawn.La,Drawn.Lb,Drawn.Lc]
  refine Drawn.tk 7 (some 196) rfl rfl (by assumption) ?_
  try simp only [Act.put,Drawn.La,Drawn.Lb,Drawn.Lc]
  refine wpAnyH_ready (rs:=[5]) (by kernel_rfl) (by simp) ?_
  refine AllReadyH.cons rfl (fun K hK=>?_) AllReadyH.nil
  go_simp
  go_at_call 179
  refine (anyNo (HS.out.below (by exact Rd.byB)) hn).mono ?_
  rintro e w2 ⟨rfl,hb⟩
  have HB2 : Below w.heap.size w w2:=Below.trans (by exact Rd.byB) (hb.mono Rd.byL)
  unfold pan
  refine And.intro rfl ?_
  exact plr_stuck (Gr.of_below HB2) (HS.out.below HB2)
set_option maxRecDepth 100000 in
set_option maxHeartbeats 2000000 in
theorem pl24o (S : ST E w L P m d h fr vs) (hbig : fr.stk.length ≤ 1000) (a b c n : Int) (args : List Int) (aa : Option Addr) (an acap : Nat) (hn : fr.stk ≠ []) (hlen : h.out.length ≤ 60000) :
    Calls Try.prog 184 #[.pointer (some ⟨P.cb,0,none⟩),.agg #[.int .i64 24,.int .i64 a,.int .i64 b,.int .i64 c,.int .i64 n,.slice aa an acap]] w (PlR E L P m d vs fr (.tuple #[]) w (oA (sstep E.f E.input m ⟨24,a,b,c,n,args⟩ fr h))):=by
  rw [st24 hn]
  have HS:=Lib.hid S
  have hcb:=S.cbw
  have hcb1 : P.cb < w.heap.size + 1:=by omega
  have nf:=S.fo_new (Nat.le_refl _)
  have c0:=S.c0
  obtain ⟨⟨tk,tn⟩,ht⟩ : ∃ t,Hid (top fr.stk = t):=⟨_,Lib.hid rfl⟩
  rw [ht.out]
  obtain ⟨r,hr⟩ : ∃ r,Hid (Run.emit ⟨tk,tn⟩ a h = r):=⟨_,Lib.hid rfl⟩
  rw [hr.out]
  clear S
  go_enter Try.func184,Try.ntmps184
  go_wp2_with fail
  refine wp_region_held_drew (S:=fun w'=>w'.cell? ⟨P.cb,0,none⟩ = some (.pointer (some ⟨E.hb,0,none⟩)) ∧ w'.cell? ⟨w.heap.size,1,none⟩ = some (.int .i64 a)) (by kernel_rfl) (by (try dsimp only);refine ⟨?_,?_⟩ <;> go_simp) (fun hHeld=>?_)
  refine Drawn.tk 0 (some 189) rfl rfl (by assumption) ?_
  try simp only [Act.put,Drawn.La,Drawn.Lb,Drawn.Lc]
  refine Drawn.tk 1 (some 190) rfl rfl (by assumption) ?_
  try simp only [Act.put,Drawn.La,Drawn.Lb,Drawn.Lc]
  refine Drawn.tk 2 (some 191) rfl rfl (by assumption) ?_
  try simp only [Act.put,Drawn.La,Drawn.Lb,Drawn.Lc]
  refine Drawn.tk 3 (some 192) rfl rfl (by assumption) ?_
  try simp only [Act.put,Drawn.La,Drawn.Lb,Drawn.Lc]
  refine Drawn.tk 4 (some 193) rfl rfl (by assumption) ?_
  try simp only [Act.put,Drawn.La,Drawn.Lb,Drawn.Lc]
  refine Drawn.tk 6 (some 195) rfl rfl (by assumption) ?_
  try simp only [Act.put,Drawn.La,Drawn.Lb,Drawn.Lc]
  refine Drawn.tk 7 (some 196) rfl rfl (by assumption) ?_
  try simp only [Act.put,Drawn.La,Drawn.Lb,Drawn.Lc]
  refine wpAnyH_ready (rs:=[5]) (by kernel_rfl) (by simp) ?_
  refine AllReadyH.cons rfl (fun K hK=>?_) AllReadyH.nil
  go_simp
  go_at_call 179
  refine (anyOk (HS.out.below (by exact Rd.byB)) hn hbig).mono ?_
  rw [ht.out]
  unfold vl
  rintro e w2 ⟨rfl,A⟩
  obtain ⟨L2,v2,G2,S2⟩:=A.opn
  have y2_0 : w2.cell? ⟨P.cb,0,none⟩ = some (.pointer (some ⟨E.hb,0,none⟩)):=S2.c0
  have y2_1:=G2.cell (b:=w.heap.size) (o:=1) (v:=.int .i64 a) nf (by go_simp)
  have nf2:=G2.nf (by simp) nf
  have GA:=Lib.hid ((Gr.of_below (E:=E) (L:=L) (P:=P) (vs:=vs) (w:=w) (by exact Rd.byB)).trans G2)
  replace S2:=Lib.hid S2
  clear A G2
  go_wp2_with fail
  refine hK.out _ _ (by (try dsimp only);exact ⟨y2_0,y2_1⟩) (fun hHeld=>?_)
  clear hK K
  try simp only [Act.put,Drawn.La,Drawn.Lb,Drawn.Lc]
  refine wpAnyH_ready (rs:=[8]) (by kernel_rfl) (by simp) ?_
  refine AllReadyH.cons rfl (fun K hK=>?_) AllReadyH.nil
  go_simp
  go_at_call 225
  refine (emitP S2.out.H ⟨tk,tn⟩ a hlen).mono ?_
  rw [hr.out]
  rintro e w3 hR
  cases r with
  | ok x h2 =>
    obtain ⟨rfl,A⟩:=hR
    obtain ⟨L3,G3,S3⟩:=Gr.of_heap A S2.out
    have y3_0 : w3.cell? ⟨P.cb,0,none⟩ = some (.pointer (some ⟨E.hb,0,none⟩)):=S3.c0
    have y3_1:=G3.cell (b:=w.heap.size) (o:=1) (v:=.int .i64 a) nf2 (by go_simp)
    have GB:=Lib.hid (GA.out.trans G3)
    replace S3:=Lib.hid S3
    clear A G3
    go_wp2_with fail
    refine hK.out _ _ (by (try dsimp only);exact ⟨y3_0,y3_1⟩) (fun hHeld=>?_)
    clear hK K
    try simp only [Act.put,Drawn.La,Drawn.Lb,Drawn.Lc]
    refine wpAnyH_done (by kernel_rfl) ?_ _
    go_wp2_with fail
    go_end0
    exact plr_go GB.out S3.out
  | thrown o h2 =>
    obtain ⟨rfl,A⟩:=hR
    obtain ⟨L3,G3,S3⟩:=Gr.of_heap A S2.out
    unfold pan
    refine And.intro rfl ?_
    exact plr_thrown (GA.out.trans G3) S3
  | stop c2 h2 =>
    obtain ⟨rfl,A⟩:=hR
    obtain ⟨L3,G3,S3⟩:=Gr.of_heap A S2.out
    unfold pan
    refine And.intro rfl ?_
    exact plr_stop (GA.out.trans G3) S3
set_option maxRecDepth 100000 in
set_option maxHeartbeats 2000000 in
theorem pl23n (S : ST E w L P m d h fr vs) (hbig : fr.stk.length ≤ 1000) (a b c n : Int) (args : List Int) (aa : Option Addr) (an acap : Nat) (hn : fr.stk = []) :
    Calls Try.prog 184 #[.pointer (some ⟨P.cb,0,none⟩),.agg #[.int .i64 23,.int .i64 a,.int .i64 b,.int .i64 c,.int .i64 n,.slice aa an acap]] w (PlR E L P m d vs fr (.tuple #[]) w (oA (sstep E.f E.input m ⟨23,a,b,c,n,args⟩ fr h))):=by
  rw [st23n hn]
  have HS:=Lib.hid S
  have hcb:=S.cbw
  have hcb1 : P.cb < w.heap.size + 1:=by omega
  have nf:=S.fo_new (Nat.le_refl _)
  clear S
  go_enter Try.func184,Try.ntmps184
  go_wp2_with (go_at_call 179;refine (anyNo (HS.out.below (by exact Rd.byB)) hn).mono ?_;rintro e w2 ⟨rfl,hb2⟩;have HB2:=Lib.hid (show Below w.heap.size w w2 from Below.trans (by exact Rd.byB) (hb2.mono Rd.byL));clear hb2;unfold pan)
  refine And.intro rfl ?_
  exact plr_stuck (Gr.of_below HB2.out) (HS.out.below HB2.out)
set_option maxRecDepth 100000 in
set_option maxHeartbeats 2000000 in
theorem pl23o (S : ST E w L P m d h fr vs) (hbig : fr.stk.length ≤ 1000) (a b c n : Int) (args : List Int) (aa : Option Addr) (an acap : Nat) (hn : fr.stk ≠ []) :
    Calls Try.prog 184 #[.pointer (some ⟨P.cb,0,none⟩),.agg #[.int .i64 23,.int .i64 a,.int .i64 b,.int .i64 c,.int .i64 n,.slice aa an acap]] w (PlR E L P m d vs fr (.tuple #[]) w (oA (sstep E.f E.input m ⟨23,a,b,c,n,args⟩ fr h))):=by
  rw [st23 hn]
  have HS:=Lib.hid S
  have hcb:=S.cbw
  have hcb1 : P.cb < w.heap.size + 1:=by omega
  have nf:=S.fo_new (Nat.le_refl _)
  obtain ⟨⟨tk,tn⟩,ht⟩ : ∃ t,Hid (top fr.stk = t):=⟨_,Lib.hid rfl⟩
  rw [ht.out]
  obtain ⟨act,hact⟩ : ∃ act,Hid (oA (if (size (fr.stk.dropLast ++ [(⟨tk,tn⟩ : Vl),⟨tk,tn⟩]) : Int) ≤ m.stack then .go (on fr (fr.stk.dropLast ++ [(⟨tk,tn⟩ : Vl),⟨tk,tn⟩]) (fr.at_ + 1)) h else .stop 6 h) = act):=⟨_,Lib.hid rfl⟩
  rw [hact.out]
  have hs2:=Lib.hid (size_app (fr.stk.dropLast ++ [(⟨tk,tn⟩ : Vl)]) [⟨tk,tn⟩])
  have happ : Hid (fr.stk.dropLast ++ [(⟨tk,tn⟩ : Vl)] ++ [⟨tk,tn⟩] = fr.stk.dropLast ++ [⟨tk,tn⟩,⟨tk,tn⟩]):=by show _ = _;simp
  clear S
  go_enter Try.func184,Try.ntmps184
  go_wp2_with (go_at_call 179;refine (anyOk (HS.out.below (by exact Rd.byB)) hn hbig).mono ?_;rw [ht.out];unfold vl;rintro e w2 ⟨rfl,A⟩;obtain ⟨L2,v2,G2,S2⟩:=A.opn;have nf2:=G2.nf (by simp) nf;have nfb:=S2.fo_new (Nat.le_refl _);have hcb2:=S2.cbw;have GA:=Lib.hid ((Gr.of_below (E:=E) (L:=L) (P:=P) (vs:=vs) (w:=w) (by exact Rd.byB)).trans G2);replace S2:=Lib.hid S2;have hwl : w.heap.size < w2.heap.size:=(by have:=G2.kp.size;simp at this;omega);clear A G2)
  refine (put (S2.out.below (by exact Rd.byB)) ⟨tk,tn⟩ (by simp only [List.length_dropLast];omega)).mono ?_
  rintro e w3 (⟨q,rfl,A⟩ | ⟨q,rfl,A⟩)
  · obtain ⟨L3,v3,G3,S3⟩:=A.opn
    have y3_0:=G3.cell (b:=w2.heap.size) (o:=0) (v:=.int .i64 tk) nfb (by go_simp)
    have y3_1:=G3.cell (b:=w2.heap.size) (o:=1) (v:=.int .i64 tn) nfb (by go_simp)
    have GB:=Lib.hid ((GA.out.trans (Gr.of_below (by exact Rd.byB))).trans G3)
    replace S3:=Lib.hid S3
    clear A G3
    go_wp2_with fail
    refine (put S3.out ⟨tk,tn⟩ (by simp only [List.length_append,List.length_cons,List.length_nil,List.length_dropLast];omega)).mono ?_
    rintro e w9 (⟨q9,rfl,A⟩ | ⟨q9,rfl,A⟩)
    · go_wp2_with fail
      go_end0
      have q8 : (size (fr.stk.dropLast ++ [(⟨tk,tn⟩ : Vl),⟨tk,tn⟩]) : Int) ≤ m.stack:=by rw [← happ.out];exact q9
      rw [← hact.out,if_pos q8]
      simp only [happ.out] at A
      exact ⟨rfl,GB.out.comp A⟩
    · unfold pan
      refine And.intro rfl ?_
      have q8 : ¬ (size (fr.stk.dropLast ++ [(⟨tk,tn⟩ : Vl),⟨tk,tn⟩]) : Int) ≤ m.stack:=by rw [← happ.out];exact q9
      rw [← hact.out,if_neg q8]
      exact ⟨Pan.one _,GB.out.compS A⟩
  · unfold pan
    refine And.intro rfl ?_
    have h2:=hs2.out
    rw [happ.out] at h2
    have q7 : ¬ (size (fr.stk.dropLast ++ [(⟨tk,tn⟩ : Vl)]) : Int) ≤ m.stack:=q
    rw [← hact.out,if_neg (by omega)]
    exact ⟨Pan.one _,(GA.out.trans (Gr.of_below (by exact Rd.byB))).compS A⟩
set_option maxRecDepth 100000 in
set_option maxHeartbeats 2000000 in
theorem pl10n (S : ST E w L P m d h fr vs) (hbig : fr.stk.length ≤ 1000) (a b c n : Int) (args : List Int) (aa : Option Addr) (an acap : Nat) (hn : fr.stk = []) :
    Calls Try.prog 184 #[.pointer (some ⟨P.cb,0,none⟩),.agg #[.int .i64 10,.int .i64 a,.int .i64 b,.int .i64 c,.int .i64 n,.slice aa an acap]] w (PlR E L P m d vs fr (.tuple #[]) w (oA (sstep E.f E.input m ⟨10,a,b,c,n,args⟩ fr h))):=by
  rw [st10n (.inl hn)]
  have HS:=Lib.hid S
  have hcb:=S.cbw
  have hcb1 : P.cb < w.heap.size + 1:=by omega
  have nf:=S.fo_new (Nat.le_refl _)
  clear S
  go_enter Try.func184,Try.ntmps184
  go_wp2_with (go_at_call 181;refine (takeNo (HS.out.below (by exact Rd.byB)) hn _).mono ?_;rintro e w2 ⟨rfl,hb2⟩;have HB2:=Lib.hid (show Below w.heap.size w w2 from Below.trans (by exact Rd.byB) (hb2.mono Rd.byL));clear hb2;unfold pan)
  refine And.intro rfl ?_
  exact plr_stuck (Gr.of_below HB2.out) (HS.out.below HB2.out)
set_option maxRecDepth 100000 in
set_option maxHeartbeats 2000000 in
theorem pl10b (S : ST E w L P m d h fr vs) (hbig : fr.stk.length ≤ 1000) (a b c n : Int) (args : List Int) (aa : Option Addr) (an acap : Nat) (hn : fr.stk ≠ []) (hk : (top fr.stk).kind ≠ 2) :
    Calls Try.prog 184 #[.pointer (some ⟨P.cb,0,none⟩),.agg #[.int .i64 10,.int .i64 a,.int .i64 b,.int .i64 c,.int .i64 n,.slice aa an acap]] w (PlR E L P m d vs fr (.tuple #[]) w (oA (sstep E.f E.input m ⟨10,a,b,c,n,args⟩ fr h))):=by
  have e10 : sstep E.f E.input m ⟨10,a,b,c,n,args⟩ fr h = .stop 6 h:=by
    by_cases q : fr.stk.dropLast = []
    · rw [st10n (.inr q)]
    · rw [st10 hn q];unfold kindly;rw [if_neg hk]
  rw [e10]
  have HS:=Lib.hid S
  have hcb:=S.cbw
  have hcb1 : P.cb < w.heap.size + 1:=by omega
  have nf:=S.fo_new (Nat.le_refl _)
  clear S
  go_enter Try.func184,Try.ntmps184
  go_wp2_with (go_at_call 181;refine (takeBad (HS.out.below (by exact Rd.byB)) hn hbig _ hk).mono ?_;rintro e w2 ⟨rfl,A⟩;obtain ⟨L2,v2,G2,S2⟩:=(LftF.before (w:=w) (by exact Rd.byB) A).opn;unfold pan)
  refine And.intro rfl ?_
  exact plr_stuck G2 S2
set_option maxRecDepth 100000 in
set_option maxHeartbeats 2000000 in
theorem pl10m (S : ST E w L P m d h fr vs) (hbig : fr.stk.length ≤ 1000) (a b c n : Int) (args : List Int) (aa : Option Addr) (an acap : Nat) (hn : fr.stk ≠ []) (hk : (top fr.stk).kind = 2) (hn2 : fr.stk.dropLast = []) :
    Calls Try.prog 184 #[.pointer (some ⟨P.cb,0,none⟩),.agg #[.int .i64 10,.int .i64 a,.int .i64 b,.int .i64 c,.int .i64 n,.slice aa an acap]] w (PlR E L P m d vs fr (.tuple #[]) w (oA (sstep E.f E.input m ⟨10,a,b,c,n,args⟩ fr h))):=by
  rw [st10n (.inr hn2)]
  have HS:=Lib.hid S
  have hcb:=S.cbw
  have hcb1 : P.cb < w.heap.size + 1:=by omega
  have nf:=S.fo_new (Nat.le_refl _)
  obtain ⟨⟨tk,tn⟩,ht⟩ : ∃ t,Hid (top fr.stk = t):=⟨_,Lib.hid rfl⟩
  rw [ht.out] at hk
  simp only at hk
  subst hk
  clear S
  go_enter Try.func184,Try.ntmps184
  go_wp2_with fail
  refine (takeOk (HS.out.below (by exact Rd.byB)) hn hbig _ (by rw [ht.out])).mono ?_
  rw [ht.out]
  unfold vl
  rintro e w2 ⟨rfl,A⟩
  obtain ⟨L2,v2,G2,S2⟩:=A.opn
  have nf2:=G2.nf (by simp) nf;have nfb:=S2.fo_new (Nat.le_refl _);have hcb2:=S2.cbw;have GA:=Lib.hid ((Gr.of_below (E:=E) (L:=L) (P:=P) (vs:=vs) (w:=w) (by exact Rd.byB)).trans G2);replace S2:=Lib.hid S2;have hwl : w.heap.size < w2.heap.size:=(by have:=G2.kp.size;simp at this;omega);clear A G2
  go_wp2_with fail
  refine (takeNo (S2.out.below (by exact Rd.byB)) hn2 _).mono ?_
  rintro e w3 ⟨rfl,hb⟩
  have HB3 : Below w2.heap.size w2 w3:=Below.trans (by exact Rd.byB) (hb.mono Rd.byL)
  unfold pan
  refine And.intro rfl ?_
  exact plr_stuck (GA.out.trans (Gr.of_below HB3)) (S2.out.below HB3)
set_option maxRecDepth 100000 in
set_option maxHeartbeats 2000000 in
theorem pl10c (S : ST E w L P m d h fr vs) (hbig : fr.stk.length ≤ 1000) (a b c n : Int) (args : List Int) (aa : Option Addr) (an acap : Nat) (hn : fr.stk ≠ []) (hk : (top fr.stk).kind = 2) (hn2 : fr.stk.dropLast ≠ []) (hk2 : (top fr.stk.dropLast).kind ≠ 2) :
    Calls Try.prog 184 #[.pointer (some ⟨P.cb,0,none⟩),.agg #[.int .i64 10,.int .i64 a,.int .i64 b,.int .i64 c,.int .i64 n,.slice aa an acap]] w (PlR E L P m d vs fr (.tuple #[]) w (oA (sstep E.f E.input m ⟨10,a,b,c,n,args⟩ fr h))):=by
  rw [st10 hn hn2]
  unfold kindly
  rw [if_pos hk,if_neg hk2]
  have HS:=Lib.hid S
  have hcb:=S.cbw
  have hcb1 : P.cb < w.heap.size + 1:=by omega
  have nf:=S.fo_new (Nat.le_refl _)
  obtain ⟨⟨tk,tn⟩,ht⟩ : ∃ t,Hid (top fr.stk = t):=⟨_,Lib.hid rfl⟩
  rw [ht.out] at hk
  simp only at hk
  subst hk
  clear S
  go_enter Try.func184,Try.ntmps184
  go_wp2_with fail
  refine (takeOk (HS.out.below (by exact Rd.byB)) hn hbig _ (by rw [ht.out])).mono ?_
  rw [ht.out]
  unfold vl
  rintro e w2 ⟨rfl,A⟩
  obtain ⟨L2,v2,G2,S2⟩:=A.opn
  have nf2:=G2.nf (by simp) nf;have nfb:=S2.fo_new (Nat.le_refl _);have hcb2:=S2.cbw;have GA:=Lib.hid ((Gr.of_below (E:=E) (L:=L) (P:=P) (vs:=vs) (w:=w) (by exact Rd.byB)).trans G2);replace S2:=Lib.hid S2;have hwl : w.heap.size < w2.heap.size:=(by have:=G2.kp.size;simp at this;omega);clear A G2
  go_wp2_with fail
  refine (takeBad (S2.out.below (by exact Rd.byB)) hn2 (by simp only [List.length_dropLast];omega) _ hk2).mono ?_
  rintro e w3 ⟨rfl,A⟩
  obtain ⟨L3,v3,G3,S3⟩:=(LftF.before (w:=w2) (by exact Rd.byB) A).opn
  unfold pan
  refine And.intro rfl ?_
  exact plr_stuck (GA.out.trans G3) S3
set_option maxRecDepth 100000 in
set_option maxHeartbeats 2000000 in
theorem pl10o (S : ST E w L P m d h fr vs) (hbig : fr.stk.length ≤ 1000) (a b c n : Int) (args : List Int) (aa : Option Addr) (an acap : Nat) (hn : fr.stk ≠ []) (hk : (top fr.stk).kind = 2) (hn2 : fr.stk.dropLast ≠ []) (hk2 : (top fr.stk.dropLast).kind = 2) :
    Calls Try.prog 184 #[.pointer (some ⟨P.cb,0,none⟩),.agg #[.int .i64 10,.int .i64 a,.int .i64 b,.int .i64 c,.int .i64 n,.slice aa an acap]] w (PlR E L P m d vs fr (.tuple #[]) w (oA (sstep E.f E.input m ⟨10,a,b,c,n,args⟩ fr h))):=by
  rw [st10 hn hn2]
  unfold kindly
  rw [if_pos hk,if_pos hk2]
  have HS:=Lib.hid S
  have hcb:=S.cbw
  have hcb1 : P.cb < w.heap.size + 1:=by omega
  have nf:=S.fo_new (Nat.le_refl _)
  obtain ⟨⟨tk,tn⟩,ht⟩ : ∃ t,Hid (top fr.stk = t):=⟨_,Lib.hid rfl⟩
  obtain ⟨⟨uk,un⟩,hu⟩ : ∃ t,Hid (top fr.stk.dropLast = t):=⟨_,Lib.hid rfl⟩
  rw [ht.out] at hk
  rw [ht.out]
  rw [hu.out] at hk2
  rw [hu.out]
  simp only at hk hk2 ⊢
  subst hk hk2
  clear S
  go_enter Try.func184,Try.ntmps184
  go_wp2_with fail
  refine (takeOk (HS.out.below (by exact Rd.byB)) hn hbig _ (by rw [ht.out])).mono ?_
  rw [ht.out]
  unfold vl
  rintro e w2 ⟨rfl,A⟩
  obtain ⟨L2,v2,G2,S2⟩:=A.opn
  have nf2:=G2.nf (by simp) nf;have nfb:=S2.fo_new (Nat.le_refl _);have hcb2:=S2.cbw;have GA:=Lib.hid ((Gr.of_below (E:=E) (L:=L) (P:=P) (vs:=vs) (w:=w) (by exact Rd.byB)).trans G2);replace S2:=Lib.hid S2;have hwl : w.heap.size < w2.heap.size:=(by have:=G2.kp.size;simp at this;omega);clear A G2
  go_wp2_with fail
  refine (takeOk (S2.out.below (by exact Rd.byB)) hn2 (by simp only [List.length_dropLast];omega) _ (by rw [hu.out])).mono ?_
  rw [hu.out]
  unfold vl
  rintro e w3 ⟨rfl,A⟩
  obtain ⟨L3,v3,G3,S3⟩:=A.opn
  have y3_0:=G3.cell (b:=w2.heap.size) (o:=1) (v:=.int .i64 tn) nfb (by go_simp)
  have GB:=Lib.hid ((GA.out.trans (Gr.of_below (by exact Rd.byB))).trans G3)
  have hwl3 : w2.heap.size < w3.heap.size:=by have:=G3.kp.size;simp at this;omega
  replace S3:=Lib.hid S3
  clear A G3
  go_wp2_with (first | (go_at_call 219;refine (NumW.cmp _ _ _).mono ?_;rintro e w4 ⟨rfl,rfl⟩) | (go_at_call 213;refine (valueP _ _ _).mono ?_;rintro e w5 ⟨rfl,hb5⟩;have HB5:=Lib.hid (show Below w3.heap.size w3 w5 from Below.trans (by exact Rd.byB) (hb5.mono Rd.byL));clear hb5))
  refine (put (S3.out.below HB5.out) ⟨1,Num.cmp un tn⟩ (by first | omega | (simp only [List.length_dropLast];omega))).mono ?_
  rintro e w9 (⟨q,rfl,A⟩ | ⟨q,rfl,A⟩)
  · go_wp2_with fail
    go_end0
    exact plr_yes q A (GB.out.trans (Gr.of_below HB5.out))
  · unfold pan
    refine And.intro rfl ?_
    exact plr_no q A (GB.out.trans (Gr.of_below HB5.out))
end
end Hpw
end Go.Proofs.Ytncmhenfgbcihab
namespace Go.Proofs.Ytncmhenfgbcihab
open Go.RowKit
set_option linter.unusedSimpArgs false
set_option linter.unusedVariables false
namespace Hpw
open Num Rd D Run Mem HierW
section
variable {E : Ev} {w w' w1 w2 : World} {L L' L1 : Lay} {h h' h1 h2 : Hp} {d : Nat} {P : PS} {m : Me} {fr fr' fr1 : Sf} {vs vs1 : Value}
theorem PlR.before {U : Value} {a : Out Sf} {e : Ending} (hb : Below w.heap.size w w1) (R : PlR E L P m d vs fr U w1 a e w2) : PlR E L P m d vs fr U w a e w2:=by
  cases a with
  | go fr' h=>exact ⟨R.1,R.2.before hb⟩
  | back v h=>exact R
  | thrown o h=>obtain ⟨p,st,A⟩:=R;exact ⟨p,st,A.before hb⟩
  | stop c h=>exact ⟨R.1,(Gr.of_below hb).compS R.2⟩
theorem PlR.ends {U : Value} {a : Out Sf} {e : Ending} (R : PlR E L P m d vs fr U w1 a e w2) : e = .returned U ∨ ∃ v older,(∀ x ∈ older,x.goexit = false) ∧ e = .panicked ({ v:=v,recovered:=false } :: older):=by
  cases a with
  | go fr' h=>exact .inl R.1
  | back v h=>exact R.elim
  | thrown o h=>obtain ⟨⟨older,ho,e⟩,_⟩:=R;exact .inr ⟨_,older,ho,e⟩
  | stop c h=>obtain ⟨⟨older,ho,e⟩,_⟩:=R;exact .inr ⟨_,older,ho,e⟩
set_option maxRecDepth 100000 in
set_option maxHeartbeats 1000000 in
theorem twoIN (S : ST E w L P m d h fr vs) (hbig : fr.stk.length ≤ 1000) (op a b c n : Int) (aa : Option Addr) (an acap : Nat) (hn : fr.stk = []) :
    Calls Try.prog 215 #[.pointer (some ⟨P.cb,0,none⟩),.agg #[.int .i64 op,.int .i64 a,.int .i64 b,.int .i64 c,.int .i64 n,.slice aa an acap],.int .i64 1,.func (.func 216) #[] #[]] w (PlR E L P m d vs fr (.tuple #[]) w (.stop 6 h)):=by
  have HS:=Lib.hid S
  have hcb:=S.cbw
  have hcb1 : P.cb < w.heap.size + 1:=by omega
  have nf:=S.fo_new (Nat.le_refl _)
  have c0:=S.c0
  clear S
  go_enter Try.func215,Try.ntmps215
  go_wp2_with fail
  refine (anyNo (HS.out.below (by exact Rd.byB)) hn).mono ?_
  rintro e w2 ⟨rfl,hb⟩
  have HB2 : Below w.heap.size w w2:=Below.trans (by exact Rd.byB) (hb.mono Rd.byL)
  unfold pan
  refine And.intro rfl ?_
  exact plr_stuck (Gr.of_below HB2) (HS.out.below HB2)
set_option maxRecDepth 100000 in
set_option maxHeartbeats 1000000 in
theorem twoIM (S : ST E w L P m d h fr vs) (hbig : fr.stk.length ≤ 1000) (op a b c n : Int) (aa : Option Addr) (an acap : Nat) (hn : fr.stk ≠ []) (hn2 : fr.stk.dropLast = []) :
    Calls Try.prog 215 #[.pointer (some ⟨P.cb,0,none⟩),.agg #[.int .i64 op,.int .i64 a,.int .i64 b,.int .i64 c,.int .i64 n,.slice aa an acap],.int .i64 1,.func (.func 216) #[] #[]] w (PlR E L P m d vs fr (.tuple #[]) w (.stop 6 h)):=by
  have HS:=Lib.hid S
  have hcb:=S.cbw
  have hcb1 : P.cb < w.heap.size + 1:=by omega
  have nf:=S.fo_new (Nat.le_refl _)
  have c0:=S.c0
  obtain ⟨⟨tk,tn⟩,ht⟩ : ∃ t,Hid (top fr.stk = t):=⟨_,Lib.hid rfl⟩
  clear S
  go_enter Try.func215,Try.ntmps215
  go_wp2_with fail
  refine (anyOk (HS.out.below (by exact Rd.byB)) hn hbig).mono ?_
  rw [ht.out]
  unfold vl
  rintro e w2 ⟨rfl,A⟩
  obtain ⟨L2,v2,G2,S2⟩:=A.opn
  have y2_0 : w2.cell? ⟨P.cb,0,none⟩ = some (.pointer (some ⟨E.hb,0,none⟩)):=S2.c0
  have y2_1:=G2.cell (b:=w.heap.size) (o:=1) (v:=.int .i64 a) nf (by go_simp)
  have nf2:=G2.nf (by simp) nf;have nfb:=S2.fo_new (Nat.le_refl _);have hcb2:=S2.cbw;have GA:=Lib.hid ((Gr.of_below (E:=E) (L:=L) (P:=P) (vs:=vs) (w:=w) (by exact Rd.byB)).trans G2);replace S2:=Lib.hid S2;have hwl : w.heap.size < w2.heap.size:=(by have:=G2.kp.size;simp at this;omega);clear A G2
  go_wp2_with fail
  refine (anyNo (S2.out.below (by exact Rd.byB)) hn2).mono ?_
  rintro e w3 ⟨rfl,hb⟩
  have HB3 : Below w2.heap.size w2 w3:=Below.trans (by exact Rd.byB) (hb.mono Rd.byL)
  unfold pan
  refine And.intro rfl ?_
  exact plr_stuck (GA.out.trans (Gr.of_below HB3)) (S2.out.below HB3)
set_option maxRecDepth 100000 in
set_option maxHeartbeats 1000000 in
theorem twoIO (S : ST E w L P m d h fr vs) (hbig : fr.stk.length ≤ 1000) (op a b c n : Int) (aa : Option Addr) (an acap : Nat) (hn : fr.stk ≠ []) (hn2 : fr.stk.dropLast ≠ []) (hm : Hier.may E.f.classes = true) (hok : Ok (top fr.stk.dropLast).n) :
    Calls Try.prog 215 #[.pointer (some ⟨P.cb,0,none⟩),.agg #[.int .i64 op,.int .i64 a,.int .i64 b,.int .i64 c,.int .i64 n,.slice aa an acap],.int .i64 1,.func (.func 216) #[] #[]] w (PlR E L P m d vs fr (.tuple #[]) w (oA ((reckon E.f.classes (top fr.stk.dropLast) (top fr.stk) 1 a h).act fun v h=>push m fr fr.stk.dropLast.dropLast v h))):=by
  have HS:=Lib.hid S
  have hcb:=S.cbw
  have hcb1 : P.cb < w.heap.size + 1:=by omega
  have nf:=S.fo_new (Nat.le_refl _)
  have c0:=S.c0
  obtain ⟨⟨tk,tn⟩,ht⟩ : ∃ t,Hid (top fr.stk = t):=⟨_,Lib.hid rfl⟩
  obtain ⟨⟨uk,un⟩,hu⟩ : ∃ t,Hid (top fr.stk.dropLast = t):=⟨_,Lib.hid rfl⟩
  rw [hu.out] at hok ⊢
  rw [ht.out]
  obtain ⟨r,hr⟩ : ∃ r,Hid (Run.reckon E.f.classes ⟨uk,un⟩ ⟨tk,tn⟩ 1 a h = r):=⟨_,Lib.hid rfl⟩
  rw [hr.out]
  have HOK:=Lib.hid hok
  clear hok
  clear S
  go_enter Try.func215,Try.ntmps215
  go_wp2_with fail
  refine (anyOk (HS.out.below (by exact Rd.byB)) hn hbig).mono ?_
  rw [ht.out]
  unfold vl
  rintro e w2 ⟨rfl,A⟩
  obtain ⟨L2,v2,G2,S2⟩:=A.opn
  have y2_0 : w2.cell? ⟨P.cb,0,none⟩ = some (.pointer (some ⟨E.hb,0,none⟩)):=S2.c0
  have y2_1:=G2.cell (b:=w.heap.size) (o:=1) (v:=.int .i64 a) nf (by go_simp)
  have nf2:=G2.nf (by simp) nf;have nfb:=S2.fo_new (Nat.le_refl _);have hcb2:=S2.cbw;have GA:=Lib.hid ((Gr.of_below (E:=E) (L:=L) (P:=P) (vs:=vs) (w:=w) (by exact Rd.byB)).trans G2);replace S2:=Lib.hid S2;have hwl : w.heap.size < w2.heap.size:=(by have:=G2.kp.size;simp at this;omega);clear A G2
  go_wp2_with fail
  refine (anyOk (S2.out.below (by exact Rd.byB)) hn2 (by simp only [List.length_dropLast];omega)).mono ?_
  rw [hu.out]
  unfold vl
  rintro e w3 ⟨rfl,A⟩
  obtain ⟨L3,v3,G3,S3⟩:=A.opn
  have y3_0 : w3.cell? ⟨P.cb,0,none⟩ = some (.pointer (some ⟨E.hb,0,none⟩)):=S3.c0
  have y3_1:=G3.cell (b:=w.heap.size) (o:=1) (v:=.int .i64 a) nf2 (by go_simp)
  have y3_2:=G3.cell (b:=w2.heap.size) (o:=0) (v:=.int .i64 tk) nfb (by go_simp)
  have y3_3:=G3.cell (b:=w2.heap.size) (o:=1) (v:=.int .i64 tn) nfb (by go_simp)
  have nf3:=G3.nf (by simp;omega) nf2
  have nf3b:=G3.nf (by simp) nfb
  have nf3c:=S3.fo_new (Nat.le_refl _)
  have GB:=Lib.hid ((GA.out.trans (Gr.of_below (by exact Rd.byB))).trans G3)
  have hcb3:=S3.cbw
  have hwl3 : w2.heap.size < w3.heap.size:=by have:=G3.kp.size;simp at this;omega
  have hwl4 : w.heap.size < w3.heap.size:=by omega
  replace S3:=Lib.hid S3
  clear A G3
  go_wp2_with fail
  refine wp_region_held_drew (S:=fun w'=>w'.cell? ⟨P.cb,0,none⟩ = some (.pointer (some ⟨E.hb,0,none⟩)) ∧ w'.cell? ⟨w3.heap.size,0,none⟩ = some (.int .i64 uk) ∧ w'.cell? ⟨w3.heap.size,1,none⟩ = some (.int .i64 un) ∧ w'.cell? ⟨w2.heap.size,0,none⟩ = some (.int .i64 tk) ∧ w'.cell? ⟨w2.heap.size,1,none⟩ = some (.int .i64 tn) ∧ w'.cell? ⟨w.heap.size,1,none⟩ = some (.int .i64 a)) (by kernel_rfl) (by (try dsimp only);refine ⟨?_,?_,?_,?_,?_,?_⟩ <;> go_simp) (fun hHeld=>?_)
  refine Drawn.tk 0 (some 14) rfl rfl (by assumption) ?_
  try simp only [Act.put,Drawn.La,Drawn.Lb,Drawn.Lc]
  refine Drawn.tk 1 (some 15) rfl rfl (by assumption) ?_
  try simp only [Act.put,Drawn.La,Drawn.Lb,Drawn.Lc]
  refine Drawn.tk 2 (some 16) rfl rfl (by assumption) ?_
  try simp only [Act.put,Drawn.La,Drawn.Lb,Drawn.Lc]
  refine Drawn.tk 3 (some 17) rfl rfl (by assumption) ?_
  try simp only [Act.put,Drawn.La,Drawn.Lb,Drawn.Lc]
  refine Drawn.tk 4 (some 18) rfl rfl (by assumption) ?_
  try simp only [Act.put,Drawn.La,Drawn.Lb,Drawn.Lc]
  refine Drawn.tk 5 (some 19) rfl rfl (by assumption) ?_
  try simp only [Act.put,Drawn.La,Drawn.Lb,Drawn.Lc]
  refine Drawn.tk 6 (some 20) rfl rfl (by assumption) ?_
  try simp only [Act.put,Drawn.La,Drawn.Lb,Drawn.Lc]
  refine Drawn.tk 7 (some 21) rfl rfl (by assumption) ?_
  try simp only [Act.put,Drawn.La,Drawn.Lb,Drawn.Lc]
  refine Drawn.tk 8 (some 22) rfl rfl (by assumption) ?_
  try simp only [Act.put,Drawn.La,Drawn.Lb,Drawn.Lc]
  refine Drawn.tk 9 (some 23) rfl rfl (by assumption) ?_
  try simp only [Act.put,Drawn.La,Drawn.Lb,Drawn.Lc]
  refine Drawn.tk 10 (some 24) rfl rfl (by assumption) ?_
  try simp only [Act.put,Drawn.La,Drawn.Lb,Drawn.Lc]
  refine wpAnyH_ready (rs:=[11]) (by kernel_rfl) (by simp) ?_
  refine AllReadyH.cons rfl (fun K hK=>?_) AllReadyH.nil
  go_simp
  go_at_call 242
  refine (reckonI (S3.out.below (by exact Rd.byB)).H hm ⟨uk,un⟩ ⟨tk,tn⟩ a HOK.out).mono ?_
  rw [hr.out]
  rintro e w4 hR
  cases r with
  | ok x h2 =>
    obtain ⟨xk,xn⟩:=x
    obtain ⟨rfl,A⟩:=hR
    unfold vval
    obtain ⟨L4,G4,S4⟩:=Gr.of_heap A (S3.out.below (by exact Rd.byB))
    have y4_0 : w4.cell? ⟨P.cb,0,none⟩ = some (.pointer (some ⟨E.hb,0,none⟩)):=S4.c0
    have y4_1:=G4.cell (b:=w3.heap.size) (o:=0) (v:=.int .i64 uk) nf3c (by go_simp)
    have y4_2:=G4.cell (b:=w3.heap.size) (o:=1) (v:=.int .i64 un) nf3c (by go_simp)
    have y4_3:=G4.cell (b:=w2.heap.size) (o:=0) (v:=.int .i64 tk) nf3b (by go_simp)
    have y4_4:=G4.cell (b:=w2.heap.size) (o:=1) (v:=.int .i64 tn) nf3b (by go_simp)
    have y4_5:=G4.cell (b:=w.heap.size) (o:=1) (v:=.int .i64 a) nf3 (by go_simp)
    have nf4:=G4.nf (by simp;omega) nf3
    have nf4b:=G4.nf (by simp;omega) nf3b
    have nf4c:=G4.nf (by simp) nf3c
    have GC:=Lib.hid ((GB.out.trans (Gr.of_below (by exact Rd.byB))).trans G4)
    replace S4:=Lib.hid S4
    clear A G4
    go_wp2_with fail
    refine hK.out _ _ (by (try dsimp only);exact ⟨y4_0,y4_1,y4_2,y4_3,y4_4,y4_5⟩) (fun hHeld=>?_)
    clear hK K
    try simp only [Act.put,Drawn.La,Drawn.Lb,Drawn.Lc]
    refine wpAnyH_ready (rs:=[12]) (by kernel_rfl) (by simp) ?_
    refine AllReadyH.cons rfl (fun K hK=>?_) AllReadyH.nil
    go_simp
    refine (put S4.out ⟨xk,xn⟩ (by first | omega | (simp only [List.length_dropLast];omega))).mono ?_
    rintro e w9 (⟨q,rfl,A⟩ | ⟨q,rfl,A⟩)
    · obtain ⟨L9,v9,G9,S9⟩:=A.opn
      have y9_0 : w9.cell? ⟨P.cb,0,none⟩ = some (.pointer (some ⟨E.hb,0,none⟩)):=S9.c0
      have y9_1:=G9.cell (b:=w3.heap.size) (o:=0) (v:=.int .i64 uk) nf4c (by go_simp)
      have y9_2:=G9.cell (b:=w3.heap.size) (o:=1) (v:=.int .i64 un) nf4c (by go_simp)
      have y9_3:=G9.cell (b:=w2.heap.size) (o:=0) (v:=.int .i64 tk) nf4b (by go_simp)
      have y9_4:=G9.cell (b:=w2.heap.size) (o:=1) (v:=.int .i64 tn) nf4b (by go_simp)
      have y9_5:=G9.cell (b:=w.heap.size) (o:=1) (v:=.int .i64 a) nf4 (by go_simp)
      go_wp2_with fail
      refine hK.out _ _ (by (try dsimp only);exact ⟨y9_0,y9_1,y9_2,y9_3,y9_4,y9_5⟩) (fun hHeld=>?_)
      clear hK K
      try simp only [Act.put,Drawn.La,Drawn.Lb,Drawn.Lc]
      refine wpAnyH_done (by kernel_rfl) ?_ _
      go_wp2
      go_end0
      exact plr_yes q (G9.lft S9) GC.out
    · unfold pan
      refine And.intro rfl ?_
      exact plr_no q A GC.out
  | thrown o h2 =>
    obtain ⟨rfl,A⟩:=hR
    obtain ⟨L4,G4,S4⟩:=Gr.of_heap A (S3.out.below (by exact Rd.byB))
    unfold pan
    refine And.intro rfl ?_
    exact plr_thrown ((GB.out.trans (Gr.of_below (by exact Rd.byB))).trans G4) S4
  | stop c2 h2 =>
    obtain ⟨rfl,A⟩:=hR
    obtain ⟨L4,G4,S4⟩:=Gr.of_heap A (S3.out.below (by exact Rd.byB))
    unfold pan
    refine And.intro rfl ?_
    exact plr_stop ((GB.out.trans (Gr.of_below (by exact Rd.byB))).trans G4) S4
set_option maxRecDepth 100000 in
set_option maxHeartbeats 1000000 in
theorem twoLN (S : ST E w L P m d h fr vs) (hbig : fr.stk.length ≤ 1000) (op a b c n : Int) (aa : Option Addr) (an acap : Nat) (hn : fr.stk = []) :
    Calls Try.prog 215 #[.pointer (some ⟨P.cb,0,none⟩),.agg #[.int .i64 op,.int .i64 a,.int .i64 b,.int .i64 c,.int .i64 n,.slice aa an acap],.int .i64 2,.func (.func 217) #[] #[]] w (PlR E L P m d vs fr (.tuple #[]) w (.stop 6 h)):=by
  have HS:=Lib.hid S
  have hcb:=S.cbw
  have hcb1 : P.cb < w.heap.size + 1:=by omega
  have nf:=S.fo_new (Nat.le_refl _)
  have c0:=S.c0
  clear S
  go_enter Try.func215,Try.ntmps215
  go_wp2_with fail
  refine (anyNo (HS.out.below (by exact Rd.byB)) hn).mono ?_
  rintro e w2 ⟨rfl,hb⟩
  have HB2 : Below w.heap.size w w2:=Below.trans (by exact Rd.byB) (hb.mono Rd.byL)
  unfold pan
  refine And.intro rfl ?_
  exact plr_stuck (Gr.of_below HB2) (HS.out.below HB2)
set_option maxRecDepth 100000 in
set_option maxHeartbeats 1000000 in
theorem twoLM (S : ST E w L P m d h fr vs) (hbig : fr.stk.length ≤ 1000) (op a b c n : Int) (aa : Option Addr) (an acap : Nat) (hn : fr.stk ≠ []) (hn2 : fr.stk.dropLast = []) :
    Calls Try.prog 215 #[.pointer (some ⟨P.cb,0,none⟩),.agg #[.int .i64 op,.int .i64 a,.int .i64 b,.int .i64 c,.int .i64 n,.slice aa an acap],.int .i64 2,.func (.func 217) #[] #[]] w (PlR E L P m d vs fr (.tuple #[]) w (.stop 6 h)):=by
  have HS:=Lib.hid S
  have hcb:=S.cbw
  have hcb1 : P.cb < w.heap.size + 1:=by omega
  have nf:=S.fo_new (Nat.le_refl _)
  have c0:=S.c0
  obtain ⟨⟨tk,tn⟩,ht⟩ : ∃ t,Hid (top fr.stk = t):=⟨_,Lib.hid rfl⟩
  clear S
  go_enter Try.func215,Try.ntmps215
  go_wp2_with fail
  refine (anyOk (HS.out.below (by exact Rd.byB)) hn hbig).mono ?_
  rw [ht.out]
  unfold vl
  rintro e w2 ⟨rfl,A⟩
  obtain ⟨L2,v2,G2,S2⟩:=A.opn
  have y2_0 : w2.cell? ⟨P.cb,0,none⟩ = some (.pointer (some ⟨E.hb,0,none⟩)):=S2.c0
  have y2_1:=G2.cell (b:=w.heap.size) (o:=1) (v:=.int .i64 a) nf (by go_simp)
  have nf2:=G2.nf (by simp) nf;have nfb:=S2.fo_new (Nat.le_refl _);have hcb2:=S2.cbw;have GA:=Lib.hid ((Gr.of_below (E:=E) (L:=L) (P:=P) (vs:=vs) (w:=w) (by exact Rd.byB)).trans G2);replace S2:=Lib.hid S2;have hwl : w.heap.size < w2.heap.size:=(by have:=G2.kp.size;simp at this;omega);clear A G2
  go_wp2_with fail
  refine (anyNo (S2.out.below (by exact Rd.byB)) hn2).mono ?_
  rintro e w3 ⟨rfl,hb⟩
  have HB3 : Below w2.heap.size w2 w3:=Below.trans (by exact Rd.byB) (hb.mono Rd.byL)
  unfold pan
  refine And.intro rfl ?_
  exact plr_stuck (GA.out.trans (Gr.of_below HB3)) (S2.out.below HB3)
set_option maxRecDepth 100000 in
set_option maxHeartbeats 1000000 in
theorem twoLO (S : ST E w L P m d h fr vs) (hbig : fr.stk.length ≤ 1000) (op a b c n : Int) (aa : Option Addr) (an acap : Nat) (hn : fr.stk ≠ []) (hn2 : fr.stk.dropLast ≠ []) (hm : Hier.may E.f.classes = true) (hok : Ok (top fr.stk.dropLast).n) :
    Calls Try.prog 215 #[.pointer (some ⟨P.cb,0,none⟩),.agg #[.int .i64 op,.int .i64 a,.int .i64 b,.int .i64 c,.int .i64 n,.slice aa an acap],.int .i64 2,.func (.func 217) #[] #[]] w (PlR E L P m d vs fr (.tuple #[]) w (oA ((reckon E.f.classes (top fr.stk.dropLast) (top fr.stk) 2 a h).act fun v h=>push m fr fr.stk.dropLast.dropLast v h))):=by
  have HS:=Lib.hid S
  have hcb:=S.cbw
  have hcb1 : P.cb < w.heap.size + 1:=by omega
  have nf:=S.fo_new (Nat.le_refl _)
  have c0:=S.c0
  obtain ⟨⟨tk,tn⟩,ht⟩ : ∃ t,Hid (top fr.stk = t):=⟨_,Lib.hid rfl⟩
  obtain ⟨⟨uk,un⟩,hu⟩ : ∃ t,Hid (top fr.stk.dropLast = t):=⟨_,Lib.hid rfl⟩
  rw [hu.out] at hok ⊢
  rw [ht.out]
  obtain ⟨r,hr⟩ : ∃ r,Hid (Run.reckon E.f.classes ⟨uk,un⟩ ⟨tk,tn⟩ 2 a h = r):=⟨_,Lib.hid rfl⟩
  rw [hr.out]
  have HOK:=Lib.hid hok
  clear hok
  clear S
  go_enter Try.func215,Try.ntmps215
  go_wp2_with fail
  refine (anyOk (HS.out.below (by exact Rd.byB)) hn hbig).mono ?_
  rw [ht.out]
  unfold vl
  rintro e w2 ⟨rfl,A⟩
  obtain ⟨L2,v2,G2,S2⟩:=A.opn
  have y2_0 : w2.cell? ⟨P.cb,0,none⟩ = some (.pointer (some ⟨E.hb,0,none⟩)):=S2.c0
  have y2_1:=G2.cell (b:=w.heap.size) (o:=1) (v:=.int .i64 a) nf (by go_simp)
  have nf2:=G2.nf (by simp) nf;have nfb:=S2.fo_new (Nat.le_refl _);have hcb2:=S2.cbw;have GA:=Lib.hid ((Gr.of_below (E:=E) (L:=L) (P:=P) (vs:=vs) (w:=w) (by exact Rd.byB)).trans G2);replace S2:=Lib.hid S2;have hwl : w.heap.size < w2.heap.size:=(by have:=G2.kp.size;simp at this;omega);clear A G2
  go_wp2_with fail
  refine (anyOk (S2.out.below (by exact Rd.byB)) hn2 (by simp only [List.length_dropLast];omega)).mono ?_
  rw [hu.out]
  unfold vl
  rintro e w3 ⟨rfl,A⟩
  obtain ⟨L3,v3,G3,S3⟩:=A.opn
  have y3_0 : w3.cell? ⟨P.cb,0,none⟩ = some (.pointer (some ⟨E.hb,0,none⟩)):=S3.c0
  have y3_1:=G3.cell (b:=w.heap.size) (o:=1) (v:=.int .i64 a) nf2 (by go_simp)
  have y3_2:=G3.cell (b:=w2.heap.size) (o:=0) (v:=.int .i64 tk) nfb (by go_simp)
  have y3_3:=G3.cell (b:=w2.heap.size) (o:=1) (v:=.int .i64 tn) nfb (by go_simp)
  have nf3:=G3.nf (by simp;omega) nf2
  have nf3b:=G3.nf (by simp) nfb
  have nf3c:=S3.fo_new (Nat.le_refl _)
  have GB:=Lib.hid ((GA.out.trans (Gr.of_below (by exact Rd.byB))).trans G3)
  have hcb3:=S3.cbw
  have hwl3 : w2.heap.size < w3.heap.size:=by have:=G3.kp.size;simp at this;omega
  have hwl4 : w.heap.size < w3.heap.size:=by omega
  replace S3:=Lib.hid S3
  clear A G3
  go_wp2_with fail
  refine wp_region_held_drew (S:=fun w'=>w'.cell? ⟨P.cb,0,none⟩ = some (.pointer (some ⟨E.hb,0,none⟩)) ∧ w'.cell? ⟨w3.heap.size,0,none⟩ = some (.int .i64 uk) ∧ w'.cell? ⟨w3.heap.size,1,none⟩ = some (.int .i64 un) ∧ w'.cell? ⟨w2.heap.size,0,none⟩ = some (.int .i64 tk) ∧ w'.cell? ⟨w2.heap.size,1,none⟩ = some (.int .i64 tn) ∧ w'.cell? ⟨w.heap.size,1,none⟩ = some (.int .i64 a)) (by kernel_rfl) (by (try dsimp only);refine ⟨?_,?_,?_,?_,?_,?_⟩ <;> go_simp) (fun hHeld=>?_)
  refine Drawn.tk 0 (some 14) rfl rfl (by assumption) ?_
  try simp only [Act.put,Drawn.La,Drawn.Lb,Drawn.Lc]
  refine Drawn.tk 1 (some 15) rfl rfl (by assumption) ?_
  try simp only [Act.put,Drawn.La,Drawn.Lb,Drawn.Lc]
  refine Drawn.tk 2 (some 16) rfl rfl (by assumption) ?_
  try simp only [Act.put,Drawn.La,Drawn.Lb,Drawn.Lc]
  refine Drawn.tk 3 (some 17) rfl rfl (by assumption) ?_
  try simp only [Act.put,Drawn.La,Drawn.Lb,Drawn.Lc]
  refine Drawn.tk 4 (some 18) rfl rfl (by assumption) ?_
  try simp only [Act.put,Drawn.La,Drawn.Lb,Drawn.Lc]
  refine Drawn.tk 5 (some 19) rfl rfl (by assumption) ?_
  try simp only [Act.put,Drawn.La,Drawn.Lb,Drawn.Lc]
  refine Drawn.tk 6 (some 20) rfl rfl (by assumption) ?_
  try simp only [Act.put,Drawn.La,Drawn.Lb,Drawn.Lc]
  refine Drawn.tk 7 (some 21) rfl rfl (by assumption) ?_
  try simp only [Act.put,Drawn.La,Drawn.Lb,Drawn.Lc]
  refine Drawn.tk 8 (some 22) rfl rfl (by assumption) ?_
  try simp only [Act.put,Drawn.La,Drawn.Lb,Drawn.Lc]
  refine Drawn.tk 9 (some 23) rfl rfl (by assumption) ?_
  try simp only [Act.put,Drawn.La,Drawn.Lb,Drawn.Lc]
  refine Drawn.tk 10 (some 24) rfl rfl (by assumption) ?_
  try simp only [Act.put,Drawn.La,Drawn.Lb,Drawn.Lc]
  refine wpAnyH_ready (rs:=[11]) (by kernel_rfl) (by simp) ?_
  refine AllReadyH.cons rfl (fun K hK=>?_) AllReadyH.nil
  go_simp
  go_at_call 242
  refine (reckonL (S3.out.below (by exact Rd.byB)).H hm ⟨uk,un⟩ ⟨tk,tn⟩ a HOK.out).mono ?_
  rw [hr.out]
  rintro e w4 hR
  cases r with
  | ok x h2 =>
    obtain ⟨xk,xn⟩:=x
    obtain ⟨rfl,A⟩:=hR
    unfold vval
    obtain ⟨L4,G4,S4⟩:=Gr.of_heap A (S3.out.below (by exact Rd.byB))
    have y4_0 : w4.cell? ⟨P.cb,0,none⟩ = some (.pointer (some ⟨E.hb,0,none⟩)):=S4.c0
    have y4_1:=G4.cell (b:=w3.heap.size) (o:=0) (v:=.int .i64 uk) nf3c (by go_simp)
    have y4_2:=G4.cell (b:=w3.heap.size) (o:=1) (v:=.int .i64 un) nf3c (by go_simp)
    have y4_3:=G4.cell (b:=w2.heap.size) (o:=0) (v:=.int .i64 tk) nf3b (by go_simp)
    have y4_4:=G4.cell (b:=w2.heap.size) (o:=1) (v:=.int .i64 tn) nf3b (by go_simp)
    have y4_5:=G4.cell (b:=w.heap.size) (o:=1) (v:=.int .i64 a) nf3 (by go_simp)
    have nf4:=G4.nf (by simp;omega) nf3
    have nf4b:=G4.nf (by simp;omega) nf3b
    have nf4c:=G4.nf (by simp) nf3c
    have GC:=Lib.hid ((GB.out.trans (Gr.of_below (by exact Rd.byB))).trans G4)
    replace S4:=Lib.hid S4
    clear A G4
    go_wp2_with fail
    refine hK.out _ _ (by (try dsimp only);exact ⟨y4_0,y4_1,y4_2,y4_3,y4_4,y4_5⟩) (fun hHeld=>?_)
    clear hK K
    try simp only [Act.put,Drawn.La,Drawn.Lb,Drawn.Lc]
    refine wpAnyH_ready (rs:=[12]) (by kernel_rfl) (by simp) ?_
    refine AllReadyH.cons rfl (fun K hK=>?_) AllReadyH.nil
    go_simp
    refine (put S4.out ⟨xk,xn⟩ (by first | omega | (simp only [List.length_dropLast];omega))).mono ?_
    rintro e w9 (⟨q,rfl,A⟩ | ⟨q,rfl,A⟩)
    · obtain ⟨L9,v9,G9,S9⟩:=A.opn
      have y9_0 : w9.cell? ⟨P.cb,0,none⟩ = some (.pointer (some ⟨E.hb,0,none⟩)):=S9.c0
      have y9_1:=G9.cell (b:=w3.heap.size) (o:=0) (v:=.int .i64 uk) nf4c (by go_simp)
      have y9_2:=G9.cell (b:=w3.heap.size) (o:=1) (v:=.int .i64 un) nf4c (by go_simp)
      have y9_3:=G9.cell (b:=w2.heap.size) (o:=0) (v:=.int .i64 tk) nf4b (by go_simp)
      have y9_4:=G9.cell (b:=w2.heap.size) (o:=1) (v:=.int .i64 tn) nf4b (by go_simp)
      have y9_5:=G9.cell (b:=w.heap.size) (o:=1) (v:=.int .i64 a) nf4 (by go_simp)
      go_wp2_with fail
      refine hK.out _ _ (by (try dsimp only);exact ⟨y9_0,y9_1,y9_2,y9_3,y9_4,y9_5⟩) (fun hHeld=>?_)
      clear hK K
      try simp only [Act.put,Drawn.La,Drawn.Lb,Drawn.Lc]
      refine wpAnyH_done (by kernel_rfl) ?_ _
      go_wp2
      go_end0
      exact plr_yes q (G9.lft S9) GC.out
    · unfold pan
      refine And.intro rfl ?_
      exact plr_no q A GC.out
  | thrown o h2 =>
    obtain ⟨rfl,A⟩:=hR
    obtain ⟨L4,G4,S4⟩:=Gr.of_heap A (S3.out.below (by exact Rd.byB))
    unfold pan
    refine And.intro rfl ?_
    exact plr_thrown ((GB.out.trans (Gr.of_below (by exact Rd.byB))).trans G4) S4
  | stop c2 h2 =>
    obtain ⟨rfl,A⟩:=hR
    obtain ⟨L4,G4,S4⟩:=Gr.of_heap A (S3.out.below (by exact Rd.byB))
    unfold pan
    refine And.intro rfl ?_
    exact plr_stop ((GB.out.trans (Gr.of_below (by exact Rd.byB))).trans G4) S4
set_option maxRecDepth 100000 in
set_option maxHeartbeats 1000000 in
theorem pl6n (S : ST E w L P m d h fr vs) (hbig : fr.stk.length ≤ 1000) (a b c n : Int) (args : List Int) (aa : Option Addr) (an acap : Nat) (hn : fr.stk = []) :
    Calls Try.prog 184 #[.pointer (some ⟨P.cb,0,none⟩),.agg #[.int .i64 6,.int .i64 a,.int .i64 b,.int .i64 c,.int .i64 n,.slice aa an acap]] w (PlR E L P m d vs fr (.tuple #[]) w (oA (sstep E.f E.input m ⟨6,a,b,c,n,args⟩ fr h))):=by
  rw [st6n (.inl hn)]
  have HS:=Lib.hid S
  have hcb:=S.cbw
  have hcb1 : P.cb < w.heap.size + 1:=by omega
  have nf:=S.fo_new (Nat.le_refl _)
  clear S
  go_enter Try.func184,Try.ntmps184
  go_wp2_with fail
  refine (twoIN (HS.out.below (by exact Rd.byB)) hbig 6 a b c n aa an acap hn).mono ?_
  rintro e w2 hR
  have R2:=Lib.hid (PlR.before (w:=w) (by exact Rd.byB) hR)
  rcases hR.ends with rfl | ⟨v,older,_,rfl⟩
  · go_wp2_with fail
    go_end0
    exact R2.out
  · refine And.intro rfl ?_
    exact R2.out
set_option maxRecDepth 100000 in
set_option maxHeartbeats 1000000 in
theorem pl6m (S : ST E w L P m d h fr vs) (hbig : fr.stk.length ≤ 1000) (a b c n : Int) (args : List Int) (aa : Option Addr) (an acap : Nat) (hn : fr.stk ≠ []) (hn2 : fr.stk.dropLast = []) :
    Calls Try.prog 184 #[.pointer (some ⟨P.cb,0,none⟩),.agg #[.int .i64 6,.int .i64 a,.int .i64 b,.int .i64 c,.int .i64 n,.slice aa an acap]] w (PlR E L P m d vs fr (.tuple #[]) w (oA (sstep E.f E.input m ⟨6,a,b,c,n,args⟩ fr h))):=by
  rw [st6n (.inr hn2)]
  have HS:=Lib.hid S
  have hcb:=S.cbw
  have hcb1 : P.cb < w.heap.size + 1:=by omega
  have nf:=S.fo_new (Nat.le_refl _)
  clear S
  go_enter Try.func184,Try.ntmps184
  go_wp2_with fail
  refine (twoIM (HS.out.below (by exact Rd.byB)) hbig 6 a b c n aa an acap hn hn2).mono ?_
  rintro e w2 hR
  have R2:=Lib.hid (PlR.before (w:=w) (by exact Rd.byB) hR)
  rcases hR.ends with rfl | ⟨v,older,_,rfl⟩
  · go_wp2_with fail
    go_end0
    exact R2.out
  · refine And.intro rfl ?_
    exact R2.out
set_option maxRecDepth 100000 in
set_option maxHeartbeats 1000000 in
theorem pl6o (S : ST E w L P m d h fr vs) (hbig : fr.stk.length ≤ 1000) (a b c n : Int) (args : List Int) (aa : Option Addr) (an acap : Nat) (hn : fr.stk ≠ []) (hn2 : fr.stk.dropLast ≠ []) (hm : Hier.may E.f.classes = true) (hok : Ok (top fr.stk.dropLast).n) :
    Calls Try.prog 184 #[.pointer (some ⟨P.cb,0,none⟩),.agg #[.int .i64 6,.int .i64 a,.int .i64 b,.int .i64 c,.int .i64 n,.slice aa an acap]] w (PlR E L P m d vs fr (.tuple #[]) w (oA (sstep E.f E.input m ⟨6,a,b,c,n,args⟩ fr h))):=by
  rw [st6 hn hn2]
  obtain ⟨act,hact⟩ : ∃ act,Hid (oA ((reckon E.f.classes (top fr.stk.dropLast) (top fr.stk) 1 a h).act fun v h=>push m fr fr.stk.dropLast.dropLast v h) = act):=⟨_,Lib.hid rfl⟩
  rw [hact.out]
  have HS:=Lib.hid S
  have hcb:=S.cbw
  have hcb1 : P.cb < w.heap.size + 1:=by omega
  have nf:=S.fo_new (Nat.le_refl _)
  have HOK:=Lib.hid hok
  clear hok
  clear S
  go_enter Try.func184,Try.ntmps184
  go_wp2_with fail
  refine (twoIO (HS.out.below (by exact Rd.byB)) hbig 6 a b c n aa an acap hn hn2 hm HOK.out).mono ?_
  rw [hact.out]
  rintro e w2 hR
  have R2:=Lib.hid (PlR.before (w:=w) (by exact Rd.byB) hR)
  rcases hR.ends with rfl | ⟨v,older,_,rfl⟩
  · go_wp2_with fail
    go_end0
    exact R2.out
  · refine And.intro rfl ?_
    exact R2.out
set_option maxRecDepth 100000 in
set_option maxHeartbeats 1000000 in
theorem pl7n (S : ST E w L P m d h fr vs) (hbig : fr.stk.length ≤ 1000) (a b c n : Int) (args : List Int) (aa : Option Addr) (an acap : Nat) (hn : fr.stk = []) :
    Calls Try.prog 184 #[.pointer (some ⟨P.cb,0,none⟩),.agg #[.int .i64 7,.int .i64 a,.int .i64 b,.int .i64 c,.int .i64 n,.slice aa an acap]] w (PlR E L P m d vs fr (.tuple #[]) w (oA (sstep E.f E.input m ⟨7,a,b,c,n,args⟩ fr h))):=by
  rw [st7n (.inl hn)]
  have HS:=Lib.hid S
  have hcb:=S.cbw
  have hcb1 : P.cb < w.heap.size + 1:=by omega
  have nf:=S.fo_new (Nat.le_refl _)
  clear S
  go_enter Try.func184,Try.ntmps184
  go_wp2_with fail
  refine (twoLN (HS.out.below (by exact Rd.byB)) hbig 7 a b c n aa an acap hn).mono ?_
  rintro e w2 hR
  have R2:=Lib.hid (PlR.before (w:=w) (by exact Rd.byB) hR)
  rcases hR.ends with rfl | ⟨v,older,_,rfl⟩
  · go_wp2_with fail
    go_end0
    exact R2.out
  · refine And.intro rfl ?_
    exact R2.out
set_option maxRecDepth 100000 in
set_option maxHeartbeats 1000000 in
theorem pl7m (S : ST E w L P m d h fr vs) (hbig : fr.stk.length ≤ 1000) (a b c n : Int) (args : List Int) (aa : Option Addr) (an acap : Nat) (hn : fr.stk ≠ []) (hn2 : fr.stk.dropLast = []) :
    Calls Try.prog 184 #[.pointer (some ⟨P.cb,0,none⟩),.agg #[.int .i64 7,.int .i64 a,.int .i64 b,.int .i64 c,.int .i64 n,.slice aa an acap]] w (PlR E L P m d vs fr (.tuple #[]) w (oA (sstep E.f E.input m ⟨7,a,b,c,n,args⟩ fr h))):=by
  rw [st7n (.inr hn2)]
  have HS:=Lib.hid S
  have hcb:=S.cbw
  have hcb1 : P.cb < w.heap.size + 1:=by omega
  have nf:=S.fo_new (Nat.le_refl _)
  clear S
  go_enter Try.func184,Try.ntmps184
  go_wp2_with fail
  refine (twoLM (HS.out.below (by exact Rd.byB)) hbig 7 a b c n aa an acap hn hn2).mono ?_
  rintro e w2 hR
  have R2:=Lib.hid (PlR.before (w:=w) (by exact Rd.byB) hR)
  rcases hR.ends with rfl | ⟨v,older,_,rfl⟩
  · go_wp2_with fail
    go_end0
    exact R2.out
  · refine And.intro rfl ?_
    exact R2.out
set_option maxRecDepth 100000 in
set_option maxHeartbeats 1000000 in
theorem pl7o (S : ST E w L P m d h fr vs) (hbig : fr.stk.length ≤ 1000) (a b c n : Int) (args : List Int) (aa : Option Addr) (an acap : Nat) (hn : fr.stk ≠ []) (hn2 : fr.stk.dropLast ≠ []) (hm : Hier.may E.f.classes = true) (hok : Ok (top fr.stk.dropLast).n) :
    Calls Try.prog 184 #[.pointer (some ⟨P.cb,0,none⟩),.agg #[.int .i64 7,.int .i64 a,.int .i64 b,.int .i64 c,.int .i64 n,.slice aa an acap]] w (PlR E L P m d vs fr (.tuple #[]) w (oA (sstep E.f E.input m ⟨7,a,b,c,n,args⟩ fr h))):=by
  rw [st7 hn hn2]
  obtain ⟨act,hact⟩ : ∃ act,Hid (oA ((reckon E.f.classes (top fr.stk.dropLast) (top fr.stk) 2 a h).act fun v h=>push m fr fr.stk.dropLast.dropLast v h) = act):=⟨_,Lib.hid rfl⟩
  rw [hact.out]
  have HS:=Lib.hid S
  have hcb:=S.cbw
  have hcb1 : P.cb < w.heap.size + 1:=by omega
  have nf:=S.fo_new (Nat.le_refl _)
  have HOK:=Lib.hid hok
  clear hok
  clear S
  go_enter Try.func184,Try.ntmps184
  go_wp2_with fail
  refine (twoLO (HS.out.below (by exact Rd.byB)) hbig 7 a b c n aa an acap hn hn2 hm HOK.out).mono ?_
  rw [hact.out]
  rintro e w2 hR
  have R2:=Lib.hid (PlR.before (w:=w) (by exact Rd.byB) hR)
  rcases hR.ends with rfl | ⟨v,older,_,rfl⟩
  · go_wp2_with fail
    go_end0
    exact R2.out
  · refine And.intro rfl ?_
    exact R2.out
end
end Hpw
end Go.Proofs.Ytncmhenfgbcihab
namespace Go.Proofs.Ytncmhenfgbcihab
open Go.RowKit
set_option linter.unusedSimpArgs false
set_option linter.unusedVariables false
namespace Hpw
open Num Rd D Run Mem HierW
section
variable {E : Ev} {w w' w1 w2 : World} {L L' L1 : Lay} {h h' h1 h2 : Hp} {d : Nat} {P : PS} {m : Me} {fr fr' fr1 : Sf} {vs vs1 : Value}
theorem top_memP {l : List Vl} (h : l ≠ []) : top l ∈ l:=by
  unfold top
  rw [List.getLast?_eq_some_getLast h]
  exact List.getLast_mem h
set_option maxHeartbeats 1000000 in
theorem plain (FS : FiS E.f) (MS : MeS E.f m) (S : ST E w L P m d h fr vs) (HO : HpOk E.f.classes E.input E.fuel h) (hf : SfOk m h.objs.length fr) (hl : fr.stk.length ≤ 40) (hfu : E.fuel ≤ 60000) (hin : E.input.length ≤ 1000) (i : Ins) (hi : InS E.f m i) (hop : i.op ≠ 11 ∧ i.op ≠ 12 ∧ i.op ≠ 13 ∧ i.op ≠ 19 ∧ i.op ≠ 20 ∧ i.op ≠ 21) (aa : Option Addr) (an acap : Nat) :
    Calls Try.prog 184 #[.pointer (some ⟨P.cb,0,none⟩),.agg #[.int .i64 i.op,.int .i64 i.a,.int .i64 i.b,.int .i64 i.c,.int .i64 i.n,.slice aa an acap]] w (PlR E L P m d vs fr (.tuple #[]) w (oA (sstep E.f E.input m i fr h))):=by
  have hops:=hi.op
  have hlen:=hf.len
  have hloc:=MS.locals
  have hbig : fr.stk.length ≤ 1000:=by omega
  have hmay:=FS.may
  have vo : ∀ v ∈ fr.stk,VlOk h.objs.length v:=fun v hv=>(hf.stk v hv).1
  have v3 : ∀ v ∈ fr.stk,v.kind = 3 → v.n < h.objs.length:=fun v hv e=>((vo v hv).2.2.2 e).2
  have vd : ∀ v ∈ fr.stk.dropLast,VlOk h.objs.length v:=fun v hv=>vo v (List.dropLast_subset _ hv)
  obtain ⟨op,a,b,c,n,args⟩:=i
  simp only at hop hops ⊢
  by_cases q1 : op = 1
  · subst q1
    exact pl1 S hbig a b c n args aa an acap
  by_cases q2 : op = 2
  · subst q2
    exact pl2 S hbig a b c n args aa an acap
  by_cases q3 : op = 3
  · subst q3
    exact pl3 S hbig a b c n args aa an acap
  by_cases q4 : op = 4
  · subst q4
    obtain ⟨hb,ha0,ha1⟩:=hi.slot (.inl rfl)
    simp only at hb ha0 ha1
    have hw : 1 ≤ Form.wide b:=by unfold Form.wide;split <;> omega
    by_cases hk : (fr.loc.getD a.toNat Vl.nil).kind = b
    · exact pl4o S hbig a b c n args aa an acap ha0 (by omega) (by omega) hk
    · exact pl4b S hbig a b c n args aa an acap ha0 (by omega) (by omega) hk
  by_cases q5 : op = 5
  · subst q5
    obtain ⟨hb,ha0,ha1⟩:=hi.slot (.inr rfl)
    simp only at hb ha0 ha1
    by_cases hn : fr.stk = []
    · exact pl5n S hbig a b c n args aa an acap hn
    · by_cases hk : (top fr.stk).kind = b
      · refine pl5o S hbig a b c n args aa an acap hn hk ha0 ?_ hf.loc.pair (by omega)
        unfold Form.wide at ha1
        unfold width
        rw [hk]
        split at ha1 <;> split <;> omega
      · exact pl5b S hbig a b c n args aa an acap hn hk
  by_cases q6 : op = 6
  · subst q6
    by_cases hn : fr.stk = []
    · exact pl6n S hbig a b c n args aa an acap hn
    · by_cases hn2 : fr.stk.dropLast = []
      · exact pl6m S hbig a b c n args aa an acap hn hn2
      · exact pl6o S hbig a b c n args aa an acap hn hn2 hmay (vd _ (top_memP hn2)).1
  by_cases q7 : op = 7
  · subst q7
    by_cases hn : fr.stk = []
    · exact pl7n S hbig a b c n args aa an acap hn
    · by_cases hn2 : fr.stk.dropLast = []
      · exact pl7m S hbig a b c n args aa an acap hn hn2
      · exact pl7o S hbig a b c n args aa an acap hn hn2 hmay (vd _ (top_memP hn2)).1
  by_cases q8 : op = 8
  · subst q8
    by_cases hn : fr.stk = []
    · exact pl8n S hbig a b c n args aa an acap hn
    · by_cases hk : (top fr.stk).kind = 1
      · exact pl8o S hbig a b c n args aa an acap hn hk
      · exact pl8b S hbig a b c n args aa an acap hn hk
  by_cases q9 : op = 9
  · subst q9
    by_cases hn : fr.stk = []
    · exact pl9n S hbig a b c n args aa an acap hn
    · by_cases hk : (top fr.stk).kind = 2
      · exact pl9o S hbig a b c n args aa an acap hn hk
      · exact pl9b S hbig a b c n args aa an acap hn hk
  by_cases q10 : op = 10
  · subst q10
    by_cases hn : fr.stk = []
    · exact pl10n S hbig a b c n args aa an acap hn
    · by_cases hk : (top fr.stk).kind = 2
      · by_cases hn2 : fr.stk.dropLast = []
        · exact pl10m S hbig a b c n args aa an acap hn hk hn2
        · by_cases hk2 : (top fr.stk.dropLast).kind = 2
          · exact pl10o S hbig a b c n args aa an acap hn hk hn2 hk2
          · exact pl10c S hbig a b c n args aa an acap hn hk hn2 hk2
      · exact pl10b S hbig a b c n args aa an acap hn hk
  by_cases q14 : op = 14
  · subst q14
    by_cases q100 : 100 ≤ h.objs.length
    · exact pl14f S hbig a b c n args aa an acap q100
    · exact pl14o S hbig a b c n args aa an acap hmay (by omega)
  by_cases q15 : op = 15
  · subst q15
    by_cases hn : fr.stk = []
    · exact pl15n S hbig a b c n args aa an acap hn
    · exact pl15o S hbig a b c n args aa an acap hn hmay (v3 _ (top_memP hn))
  by_cases q17 : op = 17
  · subst q17
    by_cases hn : fr.stk = []
    · exact pl17n S hbig a b c n args aa an acap hn
    · exact pl17o S hbig a b c n args aa an acap hn hmay (v3 _ (top_memP hn))
  by_cases q18 : op = 18
  · subst q18
    by_cases hn : fr.stk = []
    · exact pl18n S hbig a b c n args aa an acap hn
    · exact pl18o S hbig a b c n args aa an acap hn hmay (v3 _ (top_memP hn))
  by_cases q16 : op = 16
  · subst q16
    obtain ⟨hc0,hc1⟩:=hi.cls (.inr (.inr (.inl rfl)))
    obtain ⟨hf0,hf1⟩:=hi.fld (.inr rfl)
    simp only at hc0 hc1 hf0 hf1
    by_cases hn : fr.stk = []
    · exact pl16n S hbig a b c n args aa an acap hn
    · by_cases hn2 : fr.stk.dropLast = []
      · exact pl16m S hbig a b c n args aa an acap hn hn2
      · by_cases hk : (top fr.stk.dropLast).kind = 3
        · exact pl16o S hbig a b c n args aa an acap hn hn2 hk hmay HO (vd _ (top_memP hn2)) (vo _ (top_memP hn)) ⟨hc0,hc1⟩ ⟨hf0,by unfold Form.nf at hf1;exact hf1⟩
        · exact pl16b S hbig a b c n args aa an acap hn hn2 hk
  by_cases q22 : op = 22
  · subst q22
    by_cases hn : fr.stk = []
    · exact pl22n S hbig a b c n args aa an acap hn
    · exact pl22o S hbig a b c n args aa an acap hn
  by_cases q23 : op = 23
  · subst q23
    by_cases hn : fr.stk = []
    · exact pl23n S hbig a b c n args aa an acap hn
    · exact pl23o S hbig a b c n args aa an acap hn
  by_cases q24 : op = 24
  · subst q24
    by_cases hn : fr.stk = []
    · exact pl24n S hbig a b c n args aa an acap hn
    · exact pl24o S hbig a b c n args aa an acap hn (by have:=HO.outs;have:=HO.steps;omega)
  by_cases q25 : op = 25
  · subst q25
    by_cases q25 : E.input.length ≤ h.used
    · exact pl25f S hbig a b c n args aa an acap q25
    · exact pl25o S hbig a b c n args aa an acap hin (by omega)
  omega
end
end Hpw
end Go.Proofs.Ytncmhenfgbcihab
namespace Go.Proofs.Ytncmhenfgbcihab
open Go.RowKit
set_option linter.unusedSimpArgs false
set_option linter.unusedVariables false
namespace Hpw
open Num Rd D Run Mem HierW
section
variable {E : Ev} {w w' w1 w2 : World} {L L' L1 : Lay} {h h' h1 h2 : Hp} {d : Nat} {P : PS} {m : Me} {fr fr' fr1 : Sf} {vs vs1 : Value}
theorem atP (S : ST E w L P m d h fr vs) : Calls Try.prog 125 #[.pointer (some ⟨P.cb,0,none⟩)] w fun e w'=>e = .returned (.int .i64 fr.at_) ∧ w = w':=by
  have c11:=S.c11
  clear S
  go_enter Try.func125,Try.ntmps125
  go_wp2
  go_ret
  exact ⟨rfl,rfl⟩
theorem row_nil (w : World) (b : Nat) : w.ownsRow b 118 2 (.slice none 0 0) ([] : List Vl).length (vcells []):=World.ownsRow_nil _ _ _ _
def CatchR (E : Ev) (L : Lay) (P : PS) (m : Me) (d : Nat) (vs : Value) (fr : Sf) (h : Hp) (a o : Nat) (w : World) (e : Ending) (w' : World) : Prop :=
  (1 ≤ m.stack ∧ e = .returned (.tuple #[]) ∧ LftF E L P m d vs w w' h ⟨fr.loc,[⟨3,o⟩],a⟩) ∨ (¬ 1 ≤ m.stack ∧ e = pan (stopV 6) ∧ LftS E L P d vs w w' h)
set_option maxHeartbeats 1000000 in
theorem catchP (S : ST E w L P m d h fr vs) (a o : Nat) : Calls Try.prog 126 #[.pointer (some ⟨P.cb,0,none⟩),.int .i64 a,.agg #[.int .i64 3,.int .i64 o]] w (CatchR E L P m d vs fr h a o w):=by
  have HS:=Lib.hid S
  have hcb:=S.cbw
  have c10:=S.c10
  have c11:=S.c11
  have f10:=S.fz 10 (by decide)
  have f11:=S.fz 11 (by decide)
  obtain ⟨va,vcap,hvs⟩:=row_any S.stk
  rw [hvs] at c10
  have hcb1 : P.cb < w.heap.size + 1:=by omega
  have A:=(S.setStack (w2:=w) (Kp.refl _ w) (row_nil w E.B) (fun _ e=>by simp [Value.ownBlock] at e)).trans (fun L1 vs1 S1 N1=>S1.setAt a)
  have HA:=Lib.hid A
  clear S A hvs
  go_enter Try.func126,Try.ntmps126
  go_wp2_with fail
  obtain ⟨L2,v2,G2,S2⟩:=HA.out.opn
  refine (put (S2.below (by exact Rd.byB)) ⟨3,o⟩ (by simp)).mono ?_
  rintro e w9 (⟨q,rfl,A⟩ | ⟨q,rfl,A⟩)
  · go_wp2_with fail
    go_end0
    simp only [List.nil_append,size,width] at q
    exact .inl ⟨by simpa using q,rfl,(G2.trans (Gr.of_below (by exact Rd.byB))).comp A⟩
  · unfold pan
    refine And.intro rfl ?_
    simp only [List.nil_append,size,width] at q
    exact .inr ⟨by simpa using q,rfl,(G2.trans (Gr.of_below (by exact Rd.byB))).compS A⟩
def hdV (r : Option Hd) : Value:=match r with
  | some x=>.tuple #[.int .i64 x.go,.bool true]
  | none=>.tuple #[.int .i64 0,.bool false]
set_option maxRecDepth 100000 in
set_option maxHeartbeats 4000000 in
theorem caughtP {o : Nat} (H : PH E w L h d) (ho : o < h.objs.length) (hm : Hier.may E.f.classes = true) {vp vc vh : Value} (m : Me) (hh : Sl 4 EHd w E.B vh m.handlers) (a : Nat) (r : Value) (hr : hdV (handler E.f.classes m a (obj h o).cls) = r) :
    Calls Try.prog 176 #[.pointer (some ⟨E.hb,0,none⟩),.agg #[vp,.int .i64 m.ret.kind,.int .i64 m.ret.cls,.int .i64 m.stack,.int .i64 m.locals,.int .i64 m.regs,vc,vh],.int .i64 a,.int .i64 o] w fun e w'=>e = .returned r ∧ Below w.heap.size w w':=by
  have HH:=Lib.hid H
  have hhb:=H.hbw
  have hB:=Lib.hid (show E.B ≤ w.heap.size by have:=H.base;omega)
  obtain ⟨g,cap,hvb,c1,c2,hg,hgne,o1,_⟩:=H.ob (n:=o) (by omega) (by omega)
  have b0:=H.c0
  have b8:=H.c8
  rw [hvb] at b8
  obtain ⟨ca,ccap,hvc,_⟩:=id H.cls
  have hC : Cs w E.vc E.f.classes:=H.cls.mono mCls (Below.refl _ _) (Nat.le_of_lt (Nat.lt_of_le_of_lt H.base.1 hhb))
  have HC:=Lib.hid hC
  have hwf:=Lib.hid (Hier.wf_of_may hm)
  rw [hvc] at b0 HC
  rw [Int.toNat_natCast] at o1
  obtain ⟨ha,hcap,rfl,h1,h2,hel⟩:=hh
  obtain ⟨cl,hcl⟩ : ∃ cl,Hid ((obj h o).cls = cl):=⟨_,Lib.hid rfl⟩
  rw [hcl.out] at o1 hr
  have hoi : (o : Int) < h.objs.length:=by omega
  replace hr:=Lib.hid hr
  have hdrop : Hid (handler E.f.classes m a cl = (m.handlers.drop 0).find? fun x=>decide (x.lo ≤ (a : Int)) && decide ((a : Int) < x.hi) && Hier.is E.f.classes cl x.cls):=rfl
  clear H hvb hvc hC
  go_enter Try.func176,Try.ntmps176
  go_wp2
  go_loopw [15] (fun i wr=>∃ n : Nat,i = .int .i64 n ∧ n ≤ m.handlers.length ∧ Below w.heap.size w wr ∧ w.heap.size < wr.heap.size ∧ Hid (handler E.f.classes m a cl = (m.handlers.drop n).find? fun x=>decide (x.lo ≤ (a : Int)) && decide ((a : Int) < x.hi) && Hier.is E.f.classes cl x.cls)) (fun i _=>m.handlers.length - (intOf i).toNat)
  case atStart=>exact ⟨0,rfl,Nat.zero_le _,by exact Rd.byB,by simp,hdrop⟩
  case round =>
    obtain ⟨n,rfl,hn,hb,hsz,hall⟩:=hrel
    have hBW:=Lib.hid hb
    by_cases hlt : n < m.handlers.length
    · obtain ⟨xb,xo,rfl,hxb,he⟩:=hel n hlt
      obtain ⟨x,hx⟩:=at_of hlt
      rw [hx.out] at he
      obtain ⟨x0,x1,x2,x3,_⟩:=he
      have hlx : xb < w.heap.size:=Nat.lt_of_lt_of_le hxb hB.out
      have x0':=kept hb hlx x0
      have x1':=kept hb hlx x1
      have x2':=kept hb hlx x2
      have x3':=kept hb hlx x3
      have b0':=kept hb hhb b0
      have b8':=kept hb hhb b8
      have o1':=kept hb hg o1
      have hni : (n : Int) < m.handlers.length:=by omega
      have hd:=Lib.hid (show m.handlers.drop n = x :: m.handlers.drop (n + 1) from by rw [List.drop_eq_getElem_cons hlt,hx.out])
      obtain ⟨p,hp⟩ : ∃ p,Hid (Hier.is E.f.classes cl x.cls = p):=⟨_,Lib.hid rfl⟩
      have hws:=hb.size
      clear hel x0 x1 x2 x3 b0 b8 o1 hb
      have hhb2 : E.hb < wr.heap.size:=Nat.lt_of_lt_of_le hhb hBW.out.size
      have hg2 : g < wr.heap.size:=Nat.lt_of_lt_of_le hg hBW.out.size
      obtain ⟨xlo,xhi,xgo,xcl⟩:=x
      simp only at x0' x1' x2' x3' hp
      by_cases q1 : xlo ≤ a
      · have q1b : decide (xlo ≤ (a : Int)) = true:=by simpa using q1
        by_cases q2 : (a : Int) < xhi
        · have q2b : decide ((a : Int) < xhi) = true:=by simpa using q2
          have HBA : Hid (Below w.heap.size w (wr.alloc (.cells #[.int .i64 xlo,.int .i64 xhi,.int .i64 xgo,.int .i64 xcl] 90))):=by
            have hb:=hBW.out
            show Below _ _ _
            exact Rd.byB
          go_wp2_with fail
          refine wp_region_held_drew (S:=fun w'=>w'.cell? ⟨E.hb,0,none⟩ = some (.slice ca E.f.classes.length ccap) ∧ w'.cell? ⟨E.hb,8,none⟩ = some (.slice (some ⟨g,0,none⟩) h.objs.length cap) ∧ w'.cell? ⟨g,o * 2,none⟩ = some (.int .i64 cl) ∧ w'.cell? ⟨wr.heap.size,0,none⟩ = some (.int .i64 xlo) ∧ w'.cell? ⟨wr.heap.size,1,none⟩ = some (.int .i64 xhi) ∧ w'.cell? ⟨wr.heap.size,3,none⟩ = some (.int .i64 xcl)) (by kernel_rfl) (by (try dsimp only);refine ⟨?_,?_,?_,?_,?_,?_⟩ <;> go_simp) (fun hHeld=>?_)
          refine Drawn.tk 0 (some 19) rfl rfl (by assumption) ?_
          try simp only [Act.put,Drawn.La,Drawn.Lb,Drawn.Lc]
          refine Drawn.tk 1 (some 20) rfl rfl (by assumption) ?_
          try simp only [Act.put,Drawn.La,Drawn.Lb,Drawn.Lc]
          refine Drawn.tk 2 (some 21) rfl rfl (by assumption) ?_
          try simp only [Act.put,Drawn.La,Drawn.Lb,Drawn.Lc]
          refine Drawn.tk 3 (some 22) rfl rfl (by assumption) ?_
          try simp only [Act.put,Drawn.La,Drawn.Lb,Drawn.Lc]
          refine Drawn.tk 4 (some 23) rfl rfl (by assumption) ?_
          try simp only [Act.put,Drawn.La,Drawn.Lb,Drawn.Lc]
          refine Drawn.tk 5 (some 24) rfl rfl (by assumption) ?_
          try simp only [Act.put,Drawn.La,Drawn.Lb,Drawn.Lc]
          refine Drawn.tk 6 (some 25) rfl rfl (by assumption) ?_
          try simp only [Act.put,Drawn.La,Drawn.Lb,Drawn.Lc]
          refine Drawn.tk 7 (some 26) rfl rfl (by assumption) ?_
          try simp only [Act.put,Drawn.La,Drawn.Lb,Drawn.Lc]
          refine Drawn.tk 8 (some 27) rfl rfl (by assumption) ?_
          try simp only [Act.put,Drawn.La,Drawn.Lb,Drawn.Lc]
          refine Drawn.tk 9 (some 28) rfl rfl (by assumption) ?_
          try simp only [Act.put,Drawn.La,Drawn.Lb,Drawn.Lc]
          refine Drawn.tk 10 (some 29) rfl rfl (by assumption) ?_
          try simp only [Act.put,Drawn.La,Drawn.Lb,Drawn.Lc]
          refine Drawn.tk 11 (some 30) rfl rfl (by assumption) ?_
          try simp only [Act.put,Drawn.La,Drawn.Lb,Drawn.Lc]
          refine Drawn.tk 12 (some 31) rfl rfl (by assumption) ?_
          try simp only [Act.put,Drawn.La,Drawn.Lb,Drawn.Lc]
          refine Drawn.tk 13 (some 32) rfl rfl (by assumption) ?_
          try simp only [Act.put,Drawn.La,Drawn.Lb,Drawn.Lc]
          refine Drawn.tk 14 (some 33) rfl rfl (by assumption) ?_
          try simp only [Act.put,Drawn.La,Drawn.Lb,Drawn.Lc]
          refine Drawn.tk 15 (some 34) rfl rfl (by assumption) ?_
          try simp only [Act.put,Drawn.La,Drawn.Lb,Drawn.Lc]
          refine Drawn.tk 16 (some 35) rfl rfl (by assumption) ?_
          try simp only [Act.put,Drawn.La,Drawn.Lb,Drawn.Lc]
          refine Drawn.tk 17 (some 36) rfl rfl (by assumption) ?_
          try simp only [Act.put,Drawn.La,Drawn.Lb,Drawn.Lc]
          refine Drawn.tk 18 (some 37) rfl rfl (by assumption) ?_
          try simp only [Act.put,Drawn.La,Drawn.Lb,Drawn.Lc]
          refine Drawn.tk 19 (some 38) rfl rfl (by assumption) ?_
          try simp only [Act.put,Drawn.La,Drawn.Lb,Drawn.Lc]
          refine Drawn.tk 20 (some 39) rfl rfl (by assumption) ?_
          try simp only [Act.put,Drawn.La,Drawn.Lb,Drawn.Lc]
          refine Drawn.tk 21 (some 40) rfl rfl (by assumption) ?_
          try simp only [Act.put,Drawn.La,Drawn.Lb,Drawn.Lc]
          refine Drawn.tk 22 (some 41) rfl rfl (by assumption) ?_
          try simp only [Act.put,Drawn.La,Drawn.Lb,Drawn.Lc]
          refine Drawn.tk 23 (some 42) rfl rfl (by assumption) ?_
          try simp only [Act.put,Drawn.La,Drawn.Lb,Drawn.Lc]
          refine Drawn.tk 24 (some 43) rfl rfl (by assumption) ?_
          try simp only [Act.put,Drawn.La,Drawn.Lb,Drawn.Lc]
          refine Drawn.tk 25 (some 44) rfl rfl (by assumption) ?_
          try simp only [Act.put,Drawn.La,Drawn.Lb,Drawn.Lc]
          refine wpAnyH_ready (rs:=[26]) (by kernel_rfl) (by simp) ?_
          refine AllReadyH.cons rfl (fun K hK=>?_) AllReadyH.nil
          go_simp
          go_at_call 209
          refine (UpW.is _ E.f.classes cl xcl _ (HC.out.next (HBA.out.trans (by exact Rd.byB))) hwf.out).mono ?_
          rw [hp.out]
          rintro e w1 ⟨rfl,hb1⟩
          have kk : ∀ (b o : Nat) (u : Value),World.cell? _ ⟨b,o,none⟩ = some u → w1.cell? ⟨b,o,none⟩ = some u:=fun b o u hc=>kept hb1 (cell_lt hc) hc
          have y0:=kk E.hb 0 (.slice ca E.f.classes.length ccap) (by go_simp)
          have y1:=kk E.hb 8 (.slice (some ⟨g,0,none⟩) h.objs.length cap) (by go_simp)
          have y2:=kk g (o * 2) (.int .i64 cl) (by go_simp)
          have y3:=kk wr.heap.size 0 (.int .i64 xlo) (by go_simp)
          have y4:=kk wr.heap.size 1 (.int .i64 xhi) (by go_simp)
          have y5:=kk wr.heap.size 3 (.int .i64 xcl) (by go_simp)
          have y6:=kk wr.heap.size 2 (.int .i64 xgo) (by go_simp)
          have HB1:=Lib.hid (show Below w.heap.size w w1 from HBA.out.trans (Below.trans (by exact Rd.byB) (hb1.mono (by simp <;> omega))))
          have hz1:=hb1.size
          have hz : w.heap.size < w1.heap.size:=by simp at hz1;omega
          clear kk hb1 hz1
          go_wp2_with fail
          refine hK.out _ _ (by (try dsimp only);exact ⟨y0,y1,y2,y3,y4,y5⟩) (fun hHeld=>?_)
          clear hK K
          try simp only [Act.put,Drawn.La,Drawn.Lb,Drawn.Lc]
          refine Drawn.tk 27 (some 46) rfl rfl (by assumption) ?_
          try simp only [Act.put,Drawn.La,Drawn.Lb,Drawn.Lc]
          refine wpAnyH_done (by kernel_rfl) ?_ _
          cases p
          · have hnx : Hid (handler E.f.classes m a cl = (m.handlers.drop (n + 1)).find? fun x => decide (x.lo ≤ (a : Int)) && decide ((a : Int) < x.hi) && Hier.is E.f.classes cl x.cls) := by
              show _ = _
              rw [hall.out,hd.out,List.find?_cons,hp.out];simp
            go_wp2
            go_roundw
            case rel=>exact ⟨n + 1,by go_num,by omega,HB1.out,hz,hnx⟩
            case measure=>simp [intOf];omega
          · have hnx : Hid (.tuple #[.int .i64 xgo, .bool true] = r) := by
              show _ = _
              rw [← hr.out,hall.out,hd.out,List.find?_cons,hp.out];simp [q1,q2,hdV]
            go_wp2
            go_ret2
            exact ⟨by rw [← hnx.out];rfl,HB1.out⟩
        · have q2b : decide ((a : Int) < xhi) = false:=by simpa using q2
          have hnx : Hid (handler E.f.classes m a cl = (m.handlers.drop (n + 1)).find? fun x=>decide (x.lo ≤ (a : Int)) && decide ((a : Int) < x.hi) && Hier.is E.f.classes cl x.cls):=by
            show _ = _
            rw [hall.out,hd.out,List.find?_cons];simp [q2]
          clear hp
          go_wp2
          go_quiet (fail)
          go_wp2
          have hb:=hBW.out
          go_roundw
          case rel=>exact ⟨n + 1,by go_num,by omega,by exact Rd.byB,by simp;omega,hnx⟩
          case measure=>simp [intOf];omega
      · have q1b : decide (xlo ≤ (a : Int)) = false:=by simpa using q1
        have hnx : Hid (handler E.f.classes m a cl = (m.handlers.drop (n + 1)).find? fun x=>decide (x.lo ≤ (a : Int)) && decide ((a : Int) < x.hi) && Hier.is E.f.classes cl x.cls):=by
          show _ = _
          rw [hall.out,hd.out,List.find?_cons];simp [q1]
        clear hp
        go_wp2
        go_quiet (fail)
        go_wp2
        have hb:=hBW.out
        go_roundw
        case rel=>exact ⟨n + 1,by go_num,by omega,by exact Rd.byB,by simp;omega,hnx⟩
        case measure=>simp [intOf];omega
    · obtain rfl : n = m.handlers.length:=by omega
      have hnx : Hid (.tuple #[.int .i64 0,.bool false] = r):=by
        show _ = _
        rw [← hr.out,hall.out,List.drop_length];rfl
      clear hb
      go_wp2
      go_ret2
      exact ⟨by rw [← hnx.out];rfl,hBW.out⟩
end
end Hpw
end Go.Proofs.Ytncmhenfgbcihab
namespace Go.Proofs.Ytncmhenfgbcihab
open Go.RowKit
set_option linter.unusedSimpArgs false
set_option linter.unusedVariables false
namespace Hpw
open Num Rd D Run Mem HierW
def DoR (E : Ev) (L : Lay) (P : PS) (m : Me) (d : Nat) (vs : Value) (fr : Sf) (w : World) (a : Out Sf) (e : Ending) (w' : World) : Prop:=match a with
  | .go fr' h=>e = .returned (.tuple #[.agg #[.int .i64 0,.int .i64 0],.bool false]) ∧ LftF E L P m d vs w w' h fr'
  | .back v h=>e = .returned (.tuple #[.agg #[.int .i64 v.kind,.int .i64 v.n],.bool true]) ∧ ∃ st,LftF E L P m d vs w w' h ⟨fr.loc,st,fr.at_⟩
  | .thrown o h=>Pan (thrownV o) e ∧ ∃ st,LftF E L P m d vs w w' h ⟨fr.loc,st,fr.at_⟩
  | .stop c h=>Pan (stopV c) e ∧ LftS E L P d vs w w' h
def CloR (E : Ev) (L : Lay) (P : PS) (m : Me) (d : Nat) (vs : Value) (fr : Sf) (b12 b13 : Nat) (w : World) (a : Out Sf) (e : Ending) (w' : World) : Prop:=match a with
  | .go fr' h=>e = .returned (.tuple #[]) ∧ w'.cell? ⟨b12,0,none⟩ = some (.bool false) ∧ ∃ wd,LftF E L P m d vs w wd h fr' ∧ Kp (fun k=>k = b12 ∨ k = b13) wd w'
  | .back v h=>e = .returned (.tuple #[]) ∧ w'.cell? ⟨b12,0,none⟩ = some (.bool true) ∧ w'.cell? ⟨b13,0,none⟩ = some (.int .i64 v.kind) ∧ w'.cell? ⟨b13,1,none⟩ = some (.int .i64 v.n) ∧ ∃ wd st,LftF E L P m d vs w wd h ⟨fr.loc,st,fr.at_⟩ ∧ Kp (fun k=>k = b12 ∨ k = b13) wd w'
  | .thrown o h=>Pan (thrownV o) e ∧ w'.cell? ⟨b12,0,none⟩ = some (.bool false) ∧ ∃ st,LftF E L P m d vs w w' h ⟨fr.loc,st,fr.at_⟩
  | .stop c h=>Pan (stopV c) e ∧ LftS E L P d vs w w' h
def TryR (E : Ev) (L : Lay) (P : PS) (m : Me) (d : Nat) (vs : Value) (fr : Sf) (b12 b13 : Nat) (w0 : World) (a : Out Sf) (e : Ending) (w' : World) : Prop:=match a with
  | .go fr' h=>e = .returned (.tuple #[.int .i64 0,.bool false]) ∧ w'.cell? ⟨b12,0,none⟩ = some (.bool false) ∧ LftF E L P m d vs w0 w' h fr'
  | .back v h=>e = .returned (.tuple #[.int .i64 0,.bool false]) ∧ w'.cell? ⟨b12,0,none⟩ = some (.bool true) ∧ w'.cell? ⟨b13,0,none⟩ = some (.int .i64 v.kind) ∧ w'.cell? ⟨b13,1,none⟩ = some (.int .i64 v.n) ∧ ∃ st,LftF E L P m d vs w0 w' h ⟨fr.loc,st,fr.at_⟩
  | .thrown o h=>e = .returned (.tuple #[.int .i64 o,.bool true]) ∧ w'.cell? ⟨b12,0,none⟩ = some (.bool false) ∧ ∃ st,LftF E L P m d vs w0 w' h ⟨fr.loc,st,fr.at_⟩
  | .stop c h=>Pan (stopV c) e ∧ LftS E L P d vs w0 w' h
section
variable {E : Ev} {w w' w0 w1 w2 : World} {L L' L1 : Lay} {h h' h1 h2 : Hp} {d : Nat} {P : PS} {m : Me} {fr fr' fr1 : Sf} {vs vs1 : Value}
theorem LftF.upon (S : ST E w0 L P m d h' fr' vs) (hb : Below w0.heap.size w0 w) (A : LftF E L P m d vs w w1 h fr) {X : Nat → Prop} (K : Kp X w1 w2) (hX : ∀ k,X k → w0.heap.size ≤ k ∧ k < w.heap.size) : LftF E L P m d vs w0 w2 h fr:=by
  obtain ⟨L1,vs1,G,S1⟩:=A.opn
  have hs:=hb.size
  have hEB:=S.base
  have lo : ∀ k,fo E L P vs k → k < w0.heap.size:=fun k hk=>(S.fo_lo hk).2
  have nf : ∀ k,X k → ¬ fo E L1 P vs1 k:=fun k hk hf=>by
    obtain ⟨x1,x2⟩:=hX k hk
    rcases G.fo hf with q | q
    · have:=lo k q;omega
    · omega
  have K0 : Kp (fo E L P vs) w0 w2:=((Kp.of_below (X:=fo E L P vs) hb (Nat.le_refl _)).trans G.kp (fun y hy=>.inl hy)).trans K (fun y hy=>.inr (hX y hy).1)
  refine ⟨L1,vs1,K0,fun k hk=>(G.ow k hk).imp id (fun q=>by omega),fun k hk=>(G.st k hk).imp id (fun q=>by omega),?_⟩
  have no : ∀ k,fo E L1 P vs1 k → ¬ X k:=fun k hk hx=>nf k hx hk
  exact ⟨S1.H.keep K (fun k hk=>⟨by have:=(hX k hk).1;omega,fun q=>nf k hk (.inl q)⟩),S1.M.mono (K.below S1.base (fun k hk=>by have:=(hX k hk).1;omega)),S1.blk.next K (no _ (.inr (.inl rfl))),S1.loc.next K (no _ (.inr (.inr (.inl rfl)))),Nat.lt_of_lt_of_le S1.lbw K.size,row_keep S1.stk K (fun g hg=>no g (.inr (.inr (.inr hg)))),S1.lo,S1.far,S1.ne⟩
theorem LftS.upon (S : ST E w0 L P m d h' fr' vs) (hb : Below w0.heap.size w0 w) (A : LftS E L P d vs w w1 h) {X : Nat → Prop} (K : Kp X w1 w2) (hX : ∀ k,X k → w0.heap.size ≤ k ∧ k < w.heap.size) : LftS E L P d vs w0 w2 h:=by
  obtain ⟨L1,K1,N1,H1⟩:=A
  have hs:=hb.size
  have hEB:=S.base
  have nf : ∀ k,X k → ¬ own E L1 k:=fun k hk hf=>by
    obtain ⟨x1,x2⟩:=hX k hk
    rcases N1 k hf with q | q
    · have:=(own_lo S.H q).2;omega
    · omega
  exact ⟨L1,((Kp.of_below (X:=fo E L P vs) hb (Nat.le_refl _)).trans K1 (fun y hy=>.inl hy)).trans K (fun y hy=>.inr (hX y hy).1),fun k hk=>(N1 k hk).imp id (fun q=>by omega),H1.keep K (fun k hk=>⟨by have:=(hX k hk).1;omega,nf k hk⟩)⟩
def frV (b : Nat) : Value:=.agg #[.func (.func 124) #[.pointer (some ⟨b,0,none⟩)] #[],.func (.func 125) #[.pointer (some ⟨b,0,none⟩)] #[],.func (.func 126) #[.pointer (some ⟨b,0,none⟩)] #[]]
set_option maxHeartbeats 1000000 in
theorem cloP {b11 b12 b13 : Nat} (n12 : ¬ fo E L P vs b12) (n13 : ¬ fo E L P vs b13) (h12 : b12 < w.heap.size) (h13 : b13 < w.heap.size) (hne : b12 ≠ b13)
    (c11 : w.cell? ⟨b11,0,none⟩ = some (.func (.func 124) #[.pointer (some ⟨P.cb,0,none⟩)] #[])) (c12 : w.cell? ⟨b12,0,none⟩ = some (.bool false)) (f12 : w.frozen? ⟨b12,0,none⟩ = false) (c130 : w.cell? ⟨b13,0,none⟩ = some (.int .i64 0)) (c131 : w.cell? ⟨b13,1,none⟩ = some (.int .i64 0)) (f130 : w.frozen? ⟨b13,0,none⟩ = false) (f131 : w.frozen? ⟨b13,1,none⟩ = false)
    (a : Out Sf) (hdo : Calls Try.prog 124 #[.pointer (some ⟨P.cb,0,none⟩)] w (DoR E L P m d vs fr w a)) :
    Calls Try.prog 175 #[.pointer (some ⟨b11,0,none⟩),.pointer (some ⟨b13,0,none⟩),.pointer (some ⟨b12,0,none⟩)] w (CloR E L P m d vs fr b12 b13 w a):=by
  have hne2:=hne.symm
  go_enter Try.func175,Try.ntmps175
  go_wp2_with fail
  refine hdo.mono ?_
  rintro e w2 R
  cases a with
  | go fr' h' =>
    obtain ⟨rfl,A⟩:=R
    have y1:=A.box c12 n12
    have y2:=A.boxf f12 h12 n12
    have y3:=A.box c130 n13
    have y4:=A.box c131 n13
    have y5:=A.boxf f130 h13 n13
    have y6:=A.boxf f131 h13 n13
    replace A:=Lib.hid A
    go_wp2_with fail
    go_end0
    refine ⟨rfl,by go_simp,w2,A.out,(((Kp.refl _ w2).setCell (p:=⟨b13,0,none⟩) (.inl (.inr rfl)) _).setCell (p:=⟨b13,1,none⟩) (.inl (.inr rfl)) _).setCell (p:=⟨b12,0,none⟩) (.inl (.inl rfl)) _⟩
  | back v h' =>
    obtain ⟨vk,vn⟩:=v
    obtain ⟨rfl,st,A⟩:=R
    have y1:=A.box c12 n12
    have y2:=A.boxf f12 h12 n12
    have y3:=A.box c130 n13
    have y4:=A.box c131 n13
    have y5:=A.boxf f130 h13 n13
    have y6:=A.boxf f131 h13 n13
    replace A:=Lib.hid A
    go_wp2_with fail
    go_end0
    refine ⟨rfl,by go_simp,by go_simp,by go_simp,w2,st,A.out,(((Kp.refl _ w2).setCell (p:=⟨b13,0,none⟩) (.inl (.inr rfl)) _).setCell (p:=⟨b13,1,none⟩) (.inl (.inr rfl)) _).setCell (p:=⟨b12,0,none⟩) (.inl (.inl rfl)) _⟩
  | thrown o h' =>
    obtain ⟨⟨older,hol,rfl⟩,st,A⟩:=R
    have y1:=A.box c12 n12
    refine And.intro rfl ?_
    exact ⟨⟨older,hol,rfl⟩,y1,st,A⟩
  | stop c h' =>
    obtain ⟨⟨older,hol,rfl⟩,A⟩:=R
    refine And.intro rfl ?_
    exact ⟨⟨older,hol,rfl⟩,A⟩
end
end Hpw
end Go.Proofs.Ytncmhenfgbcihab
