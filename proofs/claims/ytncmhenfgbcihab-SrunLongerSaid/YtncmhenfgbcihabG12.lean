/- Parts of the proof: FormM, FormY, MayS, Flow, Qt. -/
import Derived.Test.YtncmhenfgbcihabG11
import Derived.Test.YtncmhenfgbcihabG03
import Derived.Test.YtncmhenfgbcihabG01
namespace Go.Proofs.Ytncmhenfgbcihab
open Go.RowKit
set_option linter.unusedSimpArgs false
set_option linter.unusedVariables false
namespace FormW
open Num Rd D HierW
theorem headV (f : Fi) (m : Me) (most : Int) (p : Bool) (vf vm : Value) (w : World) (hp : Form.head f.classes.length m most = p) (hf : VFi w w.heap.size vf f) (hm : VMe w w.heap.size vm m) (hmost : 0 ≤ most ∧ most ≤ 100000) :
    Calls Try.prog 111 #[vf,vm,.int .i64 most] w fun e w'=>e = .returned (.bool p) ∧ Below w.heap.size w w':=by
  subst hp;exact head f m most vf vm w hf hm hmost
theorem fieldsV (f : Fi) (m : Me) (i : Ins) (pa pb pn : Bool) (vf vm vi : Value) (w : World) (ha : Form.sa f.classes f.methods.length m.code.length m.locals i = pa) (hb : Form.sb f.classes i = pb) (hn : Form.sn i = pn)
    (hf : VFi w w.heap.size vf f) (hm : VMe w w.heap.size vm m) (hi : VIns w w.heap.size vi i) (hloc : 0 ≤ m.locals ∧ m.locals ≤ 60) :
    Calls Try.prog 142 #[vf,vm,vi] w fun e w'=>e = .returned (.tuple #[.bool pa,.bool pb,.bool pn]) ∧ Below w.heap.size w w':=by
  subst ha hb hn;exact fields f m i vf vm vi w hf hm hi hloc
def B2 (w : World) (n : Nat) (v0 v1 : Value) : Prop:=w.cell? ⟨n,0,none⟩ = some v0 ∧ w.cell? ⟨n,1,none⟩ = some v1
def B8 (w : World) (n : Nat) (v0 v1 v2 v3 v4 v5 v6 v7 : Value) : Prop:=w.cell? ⟨n,0,none⟩ = some v0 ∧ w.cell? ⟨n,1,none⟩ = some v1 ∧ w.cell? ⟨n,2,none⟩ = some v2 ∧ w.cell? ⟨n,3,none⟩ = some v3 ∧
  w.cell? ⟨n,4,none⟩ = some v4 ∧ w.cell? ⟨n,5,none⟩ = some v5 ∧ w.cell? ⟨n,6,none⟩ = some v6 ∧ w.cell? ⟨n,7,none⟩ = some v7
theorem B2.next {w w' : World} {B n : Nat} {v0 v1 : Value} (h : B2 w n v0 v1) (hb : Below B w w') (hlt : n < B) : B2 w' n v0 v1:=⟨kept hb hlt h.1,kept hb hlt h.2⟩
theorem B8.next {w w' : World} {B n : Nat} {v0 v1 v2 v3 v4 v5 v6 v7 : Value} (h : B8 w n v0 v1 v2 v3 v4 v5 v6 v7) (hb : Below B w w') (hlt : n < B) : B8 w' n v0 v1 v2 v3 v4 v5 v6 v7:=by
  obtain ⟨h0,h1,h2,h3,h4,h5,h6,h7⟩:=h
  exact ⟨kept hb hlt h0,kept hb hlt h1,kept hb hlt h2,kept hb hlt h3,kept hb hlt h4,kept hb hlt h5,kept hb hlt h6,kept hb hlt h7⟩
set_option maxRecDepth 100000 in
set_option maxHeartbeats 8000000 in
theorem method (f : Fi) (m : Me) (vf vm : Value) (w : World) (hf : VFi w w.heap.size vf f) (hm : VMe w w.heap.size vm m) :
    Calls Try.prog 90 #[vf,vm] w fun e w'=>e = .returned (.bool (Form.sme f m)) ∧ Below w.heap.size w w':=by
  have hf0:=hf
  have hm0:=hm
  obtain ⟨vc,vme,rfl,_,_⟩:=hf
  obtain ⟨vp,vcd,vh,rfl,⟨ok1,ok2,ok3,ok4,ok5⟩,hpar,⟨da,dcap,rfl,dlc,dcc,del⟩,_⟩:=hm
  unfold Ok at ok1 ok2 ok3 ok4 ok5
  obtain ⟨pa,pcap,rfl,plc,pcc,pel⟩:=hpar
  have hts0 : Ts w (.slice pa m.params.length pcap) m.params:=⟨pa,pcap,rfl,plc,pcc,pel⟩
  clear pel
  obtain ⟨S,hS⟩ : ∃ S,Hid (Form.slots m.params = S):=⟨_,rfl⟩
  obtain ⟨ph,hph⟩ : ∃ p,Hid (Form.head f.classes.length m 400 = p):=⟨_,rfl⟩
  obtain ⟨pst,hps⟩ : ∃ p,Hid (Form.rng m.stack 0 31 = p):=⟨_,rfl⟩
  obtain ⟨pl,hpl⟩ : ∃ p,Hid (Form.rng m.locals S 61 = p):=⟨_,rfl⟩
  have hsme : Hid (Form.sme f m = (ph && decide (m.regs = 0) && pst && pl && m.code.all (Form.sins f.classes f.methods.length m.code.length m.locals))):=by
    show _ = _
    rw [← hph.out,← hps.out,← hpl.out,← hS.out];rfl
  go_enter Try.func90,Try.ntmps90
  go_wp2_with fail
  refine name_world (fun W=>Below w.heap.size w W ∧ w.heap.size + 2 ≤ W.heap.size ∧ B2 W w.heap.size vc vme ∧ B8 W (w.heap.size + 1) (.slice pa m.params.length pcap) (.int .i64 m.ret.kind) (.int .i64 m.ret.cls) (.int .i64 m.stack) (.int .i64 m.locals) (.int .i64 m.regs) (.slice da m.code.length dcap) vh)
    ?_ ?_
  · refine ⟨Rd.byB,?_,⟨?_,?_⟩,⟨?_,?_,?_,?_,?_,?_,?_,?_⟩⟩
    all_goals go_simp
  rintro W ⟨hbw,hsz,b2,b8⟩
  have hbs:=hbw.size
  have hfW:=hf0.mono hbw hbs
  have hmW:=hm0.mono hbw hbs
  have htW:=hts0.next hbw
  obtain ⟨f1,f2⟩:=b2
  obtain ⟨m0,m1,m2,m3,m4,m5,m6,m7⟩:=b8
  cases ph
  ·
    refine wp_region_held_drew (S:=fun w'=>(w'.cell? ⟨w.heap.size,0,none⟩ = some vc ∧ w'.cell? ⟨w.heap.size,1,none⟩ = some vme) ∧ w'.cell? ⟨w.heap.size + 1,0,none⟩ = some (.slice pa m.params.length pcap) ∧ w'.cell? ⟨w.heap.size + 1,1,none⟩ = some (.int .i64 m.ret.kind) ∧ w'.cell? ⟨w.heap.size + 1,2,none⟩ = some (.int .i64 m.ret.cls) ∧ w'.cell? ⟨w.heap.size + 1,3,none⟩ = some (.int .i64 m.stack) ∧ w'.cell? ⟨w.heap.size + 1,4,none⟩ = some (.int .i64 m.locals) ∧ w'.cell? ⟨w.heap.size + 1,5,none⟩ = some (.int .i64 m.regs) ∧ w'.cell? ⟨w.heap.size + 1,6,none⟩ = some (.slice da m.code.length dcap) ∧ w'.cell? ⟨w.heap.size + 1,7,none⟩ = some (vh)) (by kernel_rfl) (by (try dsimp only);first | exact ⟨⟨f1,f2⟩,m0,m1,m2,m3,m4,m5,m6,m7⟩ | go_keep) (fun hHeld=>?_)
    refine Drawn.tk 0 (some 10) rfl rfl (by assumption) ?_
    try simp only [Act.put,Drawn.La,Drawn.Lb,Drawn.Lc]
    refine Drawn.tk 1 (some 11) rfl rfl (by assumption) ?_
    try simp only [Act.put,Drawn.La,Drawn.Lb,Drawn.Lc]
    refine wpAnyH_ready (rs:=[2]) (by kernel_rfl) (by simp) ?_
    refine AllReadyH.cons rfl (fun K hK=>?_) AllReadyH.nil
    go_simp
    go_at_call 111
    refine (headV f m 400 _ _ _ _ hph.out (hfW.mono Rd.byB (by simp)) (hmW.mono Rd.byB (by simp)) (by omega)).mono ?_
    rintro e w2 ⟨rfl,hb2⟩
    have hbW : Below W.heap.size W w2:=Below.trans Rd.byB (hb2.mono (by simp))
    have k2:=B2.next ⟨f1,f2⟩ hbW (by omega)
    have k8:=B8.next ⟨m0,m1,m2,m3,m4,m5,m6,m7⟩ hbW (by omega)
    go_wp2_with fail
    refine hK.out _ _ (by (try dsimp only);exact ⟨k2,k8⟩) (fun hHeld=>?_)
    clear hK K
    try simp only [Act.put,Drawn.La,Drawn.Lb,Drawn.Lc]
    refine Drawn.tk 3 (some 13) rfl rfl (by assumption) ?_
    try simp only [Act.put,Drawn.La,Drawn.Lb,Drawn.Lc]
    refine Drawn.tk 4 (some 14) rfl rfl (by assumption) ?_
    try simp only [Act.put,Drawn.La,Drawn.Lb,Drawn.Lc]
    refine Drawn.ps 5 (some 15) rfl rfl (by assumption) ?_
    try simp only [Act.put,Drawn.La,Drawn.Lb,Drawn.Lc]
    refine Drawn.ps 6 (some 16) rfl rfl (by assumption) ?_
    try simp only [Act.put,Drawn.La,Drawn.Lb,Drawn.Lc]
    refine Drawn.ps 7 (some 17) rfl rfl (by assumption) ?_
    try simp only [Act.put,Drawn.La,Drawn.Lb,Drawn.Lc]
    refine Drawn.tk 8 (some 18) rfl rfl (by assumption) ?_
    try simp only [Act.put,Drawn.La,Drawn.Lb,Drawn.Lc]
    refine Drawn.tk 9 (some 19) rfl rfl (by assumption) ?_
    try simp only [Act.put,Drawn.La,Drawn.Lb,Drawn.Lc]
    refine Drawn.ps 10 (some 20) rfl rfl (by assumption) ?_
    try simp only [Act.put,Drawn.La,Drawn.Lb,Drawn.Lc]
    refine Drawn.ps 11 (some 21) rfl rfl (by assumption) ?_
    try simp only [Act.put,Drawn.La,Drawn.Lb,Drawn.Lc]
    refine Drawn.ps 12 (some 22) rfl rfl (by assumption) ?_
    try simp only [Act.put,Drawn.La,Drawn.Lb,Drawn.Lc]
    refine Drawn.ps 13 (some 23) rfl rfl (by assumption) ?_
    try simp only [Act.put,Drawn.La,Drawn.Lb,Drawn.Lc]
    refine Drawn.tk 14 (some 24) rfl rfl (by assumption) ?_
    try simp only [Act.put,Drawn.La,Drawn.Lb,Drawn.Lc]
    refine Drawn.tk 15 (some 25) rfl rfl (by assumption) ?_
    try simp only [Act.put,Drawn.La,Drawn.Lb,Drawn.Lc]
    refine Drawn.ps 16 (some 26) rfl rfl (by assumption) ?_
    try simp only [Act.put,Drawn.La,Drawn.Lb,Drawn.Lc]
    refine Drawn.ps 17 (some 27) rfl rfl (by assumption) ?_
    try simp only [Act.put,Drawn.La,Drawn.Lb,Drawn.Lc]
    refine Drawn.ps 18 (some 28) rfl rfl (by assumption) ?_
    try simp only [Act.put,Drawn.La,Drawn.Lb,Drawn.Lc]
    refine Drawn.ps 19 (some 29) rfl rfl (by assumption) ?_
    try simp only [Act.put,Drawn.La,Drawn.Lb,Drawn.Lc]
    refine Drawn.ps 20 (some 30) rfl rfl (by assumption) ?_
    try simp only [Act.put,Drawn.La,Drawn.Lb,Drawn.Lc]
    refine Drawn.ps 21 (some 31) rfl rfl (by assumption) ?_
    try simp only [Act.put,Drawn.La,Drawn.Lb,Drawn.Lc]
    refine Drawn.ps 22 (some 32) rfl rfl (by assumption) ?_
    try simp only [Act.put,Drawn.La,Drawn.Lb,Drawn.Lc]
    refine Drawn.tk 23 (some 33) rfl rfl (by assumption) ?_
    try simp only [Act.put,Drawn.La,Drawn.Lb,Drawn.Lc]
    refine wpAnyH_done (by kernel_rfl) ?_ _
    go_wp2
    go_ret
    exact ⟨ret_bool (by rw [hsme.out];rfl),hbw.trans (hbW.mono hbs)⟩
  · have hreg : (m.regs != 0) = true ∨ (m.regs != 0) = false:=by cases (m.regs != 0) <;> simp
    rcases hreg with hreg | hreg
    ·
      have hz : decide (m.regs = 0) = false:=by simpa using hreg
      refine wp_region_held_drew (S:=fun w'=>(w'.cell? ⟨w.heap.size,0,none⟩ = some vc ∧ w'.cell? ⟨w.heap.size,1,none⟩ = some vme) ∧ w'.cell? ⟨w.heap.size + 1,0,none⟩ = some (.slice pa m.params.length pcap) ∧ w'.cell? ⟨w.heap.size + 1,1,none⟩ = some (.int .i64 m.ret.kind) ∧ w'.cell? ⟨w.heap.size + 1,2,none⟩ = some (.int .i64 m.ret.cls) ∧ w'.cell? ⟨w.heap.size + 1,3,none⟩ = some (.int .i64 m.stack) ∧ w'.cell? ⟨w.heap.size + 1,4,none⟩ = some (.int .i64 m.locals) ∧ w'.cell? ⟨w.heap.size + 1,5,none⟩ = some (.int .i64 m.regs) ∧ w'.cell? ⟨w.heap.size + 1,6,none⟩ = some (.slice da m.code.length dcap) ∧ w'.cell? ⟨w.heap.size + 1,7,none⟩ = some (vh)) (by kernel_rfl) (by (try dsimp only);first | exact ⟨⟨f1,f2⟩,m0,m1,m2,m3,m4,m5,m6,m7⟩ | go_keep) (fun hHeld=>?_)
      refine Drawn.tk 0 (some 10) rfl rfl (by assumption) ?_
      try simp only [Act.put,Drawn.La,Drawn.Lb,Drawn.Lc]
      refine Drawn.tk 1 (some 11) rfl rfl (by assumption) ?_
      try simp only [Act.put,Drawn.La,Drawn.Lb,Drawn.Lc]
      refine wpAnyH_ready (rs:=[2]) (by kernel_rfl) (by simp) ?_
      refine AllReadyH.cons rfl (fun K hK=>?_) AllReadyH.nil
      go_simp
      go_at_call 111
      refine (headV f m 400 _ _ _ _ hph.out (hfW.mono Rd.byB (by simp)) (hmW.mono Rd.byB (by simp)) (by omega)).mono ?_
      rintro e w2 ⟨rfl,hb2⟩
      have hbW : Below W.heap.size W w2:=Below.trans Rd.byB (hb2.mono (by simp))
      have k2:=B2.next ⟨f1,f2⟩ hbW (by omega)
      have k8:=B8.next ⟨m0,m1,m2,m3,m4,m5,m6,m7⟩ hbW (by omega)
      go_wp2_with fail
      refine hK.out _ _ (by (try dsimp only);exact ⟨k2,k8⟩) (fun hHeld=>?_)
      clear hK K
      try simp only [Act.put,Drawn.La,Drawn.Lb,Drawn.Lc]
      refine Drawn.tk 3 (some 13) rfl rfl (by assumption) ?_
      try simp only [Act.put,Drawn.La,Drawn.Lb,Drawn.Lc]
      refine Drawn.tk 4 (some 14) rfl rfl (by assumption) ?_
      try simp only [Act.put,Drawn.La,Drawn.Lb,Drawn.Lc]
      refine Drawn.tk 5 (some 15) rfl rfl (by assumption) ?_
      try simp only [Act.put,Drawn.La,Drawn.Lb,Drawn.Lc]
      refine Drawn.tk 6 (some 16) rfl rfl (by assumption) ?_
      try simp only [Act.put,Drawn.La,Drawn.Lb,Drawn.Lc]
      refine Drawn.tk 7 (some 17) rfl rfl (by assumption) ?_
      try simp only [Act.put,Drawn.La,Drawn.Lb,Drawn.Lc]
      refine Drawn.tk 8 (some 18) rfl rfl (by assumption) ?_
      try simp only [Act.put,Drawn.La,Drawn.Lb,Drawn.Lc]
      refine Drawn.tk 9 (some 19) rfl rfl (by assumption) ?_
      try simp only [Act.put,Drawn.La,Drawn.Lb,Drawn.Lc]
      refine Drawn.ps 10 (some 20) rfl rfl (by assumption) ?_
      try simp only [Act.put,Drawn.La,Drawn.Lb,Drawn.Lc]
      refine Drawn.ps 11 (some 21) rfl rfl (by assumption) ?_
      try simp only [Act.put,Drawn.La,Drawn.Lb,Drawn.Lc]
      refine Drawn.ps 12 (some 22) rfl rfl (by assumption) ?_
      try simp only [Act.put,Drawn.La,Drawn.Lb,Drawn.Lc]
      refine Drawn.ps 13 (some 23) rfl rfl (by assumption) ?_
      try simp only [Act.put,Drawn.La,Drawn.Lb,Drawn.Lc]
      refine Drawn.tk 14 (some 24) rfl rfl (by assumption) ?_
      try simp only [Act.put,Drawn.La,Drawn.Lb,Drawn.Lc]
      refine Drawn.tk 15 (some 25) rfl rfl (by assumption) ?_
      try simp only [Act.put,Drawn.La,Drawn.Lb,Drawn.Lc]
      refine Drawn.ps 16 (some 26) rfl rfl (by assumption) ?_
      try simp only [Act.put,Drawn.La,Drawn.Lb,Drawn.Lc]
      refine Drawn.ps 17 (some 27) rfl rfl (by assumption) ?_
      try simp only [Act.put,Drawn.La,Drawn.Lb,Drawn.Lc]
      refine Drawn.ps 18 (some 28) rfl rfl (by assumption) ?_
      try simp only [Act.put,Drawn.La,Drawn.Lb,Drawn.Lc]
      refine Drawn.ps 19 (some 29) rfl rfl (by assumption) ?_
      try simp only [Act.put,Drawn.La,Drawn.Lb,Drawn.Lc]
      refine Drawn.ps 20 (some 30) rfl rfl (by assumption) ?_
      try simp only [Act.put,Drawn.La,Drawn.Lb,Drawn.Lc]
      refine Drawn.ps 21 (some 31) rfl rfl (by assumption) ?_
      try simp only [Act.put,Drawn.La,Drawn.Lb,Drawn.Lc]
      refine Drawn.ps 22 (some 32) rfl rfl (by assumption) ?_
      try simp only [Act.put,Drawn.La,Drawn.Lb,Drawn.Lc]
      refine Drawn.tk 23 (some 33) rfl rfl (by assumption) ?_
      try simp only [Act.put,Drawn.La,Drawn.Lb,Drawn.Lc]
      refine wpAnyH_done (by kernel_rfl) ?_ _
      go_wp2
      go_ret
      exact ⟨ret_bool (by rw [hsme.out];rw [hz];rfl),hbw.trans (hbW.mono hbs)⟩
    · have hz : decide (m.regs = 0) = true:=by simpa using hreg
      cases pst
      ·
        refine wp_region_held_drew (S:=fun w'=>(w'.cell? ⟨w.heap.size,0,none⟩ = some vc ∧ w'.cell? ⟨w.heap.size,1,none⟩ = some vme) ∧ w'.cell? ⟨w.heap.size + 1,0,none⟩ = some (.slice pa m.params.length pcap) ∧ w'.cell? ⟨w.heap.size + 1,1,none⟩ = some (.int .i64 m.ret.kind) ∧ w'.cell? ⟨w.heap.size + 1,2,none⟩ = some (.int .i64 m.ret.cls) ∧ w'.cell? ⟨w.heap.size + 1,3,none⟩ = some (.int .i64 m.stack) ∧ w'.cell? ⟨w.heap.size + 1,4,none⟩ = some (.int .i64 m.locals) ∧ w'.cell? ⟨w.heap.size + 1,5,none⟩ = some (.int .i64 m.regs) ∧ w'.cell? ⟨w.heap.size + 1,6,none⟩ = some (.slice da m.code.length dcap) ∧ w'.cell? ⟨w.heap.size + 1,7,none⟩ = some (vh)) (by kernel_rfl) (by (try dsimp only);first | exact ⟨⟨f1,f2⟩,m0,m1,m2,m3,m4,m5,m6,m7⟩ | go_keep) (fun hHeld=>?_)
        refine Drawn.tk 0 (some 10) rfl rfl (by assumption) ?_
        try simp only [Act.put,Drawn.La,Drawn.Lb,Drawn.Lc]
        refine Drawn.tk 1 (some 11) rfl rfl (by assumption) ?_
        try simp only [Act.put,Drawn.La,Drawn.Lb,Drawn.Lc]
        refine wpAnyH_ready (rs:=[2]) (by kernel_rfl) (by simp) ?_
        refine AllReadyH.cons rfl (fun K hK=>?_) AllReadyH.nil
        go_simp
        go_at_call 111
        refine (headV f m 400 _ _ _ _ hph.out (hfW.mono Rd.byB (by simp)) (hmW.mono Rd.byB (by simp)) (by omega)).mono ?_
        rintro e w2 ⟨rfl,hb2⟩
        have hbW : Below W.heap.size W w2:=Below.trans Rd.byB (hb2.mono (by simp))
        have k2:=B2.next ⟨f1,f2⟩ hbW (by omega)
        have k8:=B8.next ⟨m0,m1,m2,m3,m4,m5,m6,m7⟩ hbW (by omega)
        go_wp2_with fail
        refine hK.out _ _ (by (try dsimp only);exact ⟨k2,k8⟩) (fun hHeld=>?_)
        clear hK K
        try simp only [Act.put,Drawn.La,Drawn.Lb,Drawn.Lc]
        refine Drawn.tk 3 (some 13) rfl rfl (by assumption) ?_
        try simp only [Act.put,Drawn.La,Drawn.Lb,Drawn.Lc]
        refine Drawn.tk 4 (some 14) rfl rfl (by assumption) ?_
        try simp only [Act.put,Drawn.La,Drawn.Lb,Drawn.Lc]
        refine Drawn.tk 5 (some 15) rfl rfl (by assumption) ?_
        try simp only [Act.put,Drawn.La,Drawn.Lb,Drawn.Lc]
        refine Drawn.tk 6 (some 16) rfl rfl (by assumption) ?_
        try simp only [Act.put,Drawn.La,Drawn.Lb,Drawn.Lc]
        refine Drawn.tk 7 (some 17) rfl rfl (by assumption) ?_
        try simp only [Act.put,Drawn.La,Drawn.Lb,Drawn.Lc]
        refine Drawn.tk 8 (some 18) rfl rfl (by assumption) ?_
        try simp only [Act.put,Drawn.La,Drawn.Lb,Drawn.Lc]
        refine Drawn.tk 9 (some 19) rfl rfl (by assumption) ?_
        try simp only [Act.put,Drawn.La,Drawn.Lb,Drawn.Lc]
        refine Drawn.tk 10 (some 20) rfl rfl (by assumption) ?_
        try simp only [Act.put,Drawn.La,Drawn.Lb,Drawn.Lc]
        refine Drawn.tk 11 (some 21) rfl rfl (by assumption) ?_
        try simp only [Act.put,Drawn.La,Drawn.Lb,Drawn.Lc]
        refine wpAnyH_ready (rs:=[12]) (by kernel_rfl) (by simp) ?_
        refine AllReadyH.cons rfl (fun K hK=>?_) AllReadyH.nil
        go_simp
        go_at_call 89
        refine (sinV _ _ _ _ _ hps.out).mono ?_
        rintro e w3 ⟨rfl,rfl⟩
        go_wp2_with fail
        refine hK.out _ _ (by (try dsimp only);exact ⟨k2,k8⟩) (fun hHeld=>?_)
        clear hK K
        try simp only [Act.put,Drawn.La,Drawn.Lb,Drawn.Lc]
        refine Drawn.tk 13 (some 23) rfl rfl (by assumption) ?_
        try simp only [Act.put,Drawn.La,Drawn.Lb,Drawn.Lc]
        refine Drawn.tk 14 (some 24) rfl rfl (by assumption) ?_
        try simp only [Act.put,Drawn.La,Drawn.Lb,Drawn.Lc]
        refine Drawn.tk 15 (some 25) rfl rfl (by assumption) ?_
        try simp only [Act.put,Drawn.La,Drawn.Lb,Drawn.Lc]
        refine Drawn.ps 16 (some 26) rfl rfl (by assumption) ?_
        try simp only [Act.put,Drawn.La,Drawn.Lb,Drawn.Lc]
        refine Drawn.ps 17 (some 27) rfl rfl (by assumption) ?_
        try simp only [Act.put,Drawn.La,Drawn.Lb,Drawn.Lc]
        refine Drawn.ps 18 (some 28) rfl rfl (by assumption) ?_
        try simp only [Act.put,Drawn.La,Drawn.Lb,Drawn.Lc]
        refine Drawn.ps 19 (some 29) rfl rfl (by assumption) ?_
        try simp only [Act.put,Drawn.La,Drawn.Lb,Drawn.Lc]
        refine Drawn.ps 20 (some 30) rfl rfl (by assumption) ?_
        try simp only [Act.put,Drawn.La,Drawn.Lb,Drawn.Lc]
        refine Drawn.ps 21 (some 31) rfl rfl (by assumption) ?_
        try simp only [Act.put,Drawn.La,Drawn.Lb,Drawn.Lc]
        refine Drawn.ps 22 (some 32) rfl rfl (by assumption) ?_
        try simp only [Act.put,Drawn.La,Drawn.Lb,Drawn.Lc]
        refine Drawn.tk 23 (some 33) rfl rfl (by assumption) ?_
        try simp only [Act.put,Drawn.La,Drawn.Lb,Drawn.Lc]
        refine wpAnyH_done (by kernel_rfl) ?_ _
        go_wp2
        go_ret
        exact ⟨ret_bool (by rw [hsme.out];simp),hbw.trans (hbW.mono hbs)⟩
      ·
        have hp4 : m.params.length ≤ 4:=by
          have h:=hph.out
          simp only [Form.head,Bool.and_eq_true,decide_eq_true_eq] at h
          exact h.1.1.1.2
        refine wp_region_held_drew (S:=fun w'=>(w'.cell? ⟨w.heap.size,0,none⟩ = some vc ∧ w'.cell? ⟨w.heap.size,1,none⟩ = some vme) ∧ w'.cell? ⟨w.heap.size + 1,0,none⟩ = some (.slice pa m.params.length pcap) ∧ w'.cell? ⟨w.heap.size + 1,1,none⟩ = some (.int .i64 m.ret.kind) ∧ w'.cell? ⟨w.heap.size + 1,2,none⟩ = some (.int .i64 m.ret.cls) ∧ w'.cell? ⟨w.heap.size + 1,3,none⟩ = some (.int .i64 m.stack) ∧ w'.cell? ⟨w.heap.size + 1,4,none⟩ = some (.int .i64 m.locals) ∧ w'.cell? ⟨w.heap.size + 1,5,none⟩ = some (.int .i64 m.regs) ∧ w'.cell? ⟨w.heap.size + 1,6,none⟩ = some (.slice da m.code.length dcap) ∧ w'.cell? ⟨w.heap.size + 1,7,none⟩ = some (vh)) (by kernel_rfl) (by (try dsimp only);first | exact ⟨⟨f1,f2⟩,m0,m1,m2,m3,m4,m5,m6,m7⟩ | go_keep) (fun hHeld=>?_)
        refine Drawn.tk 0 (some 10) rfl rfl (by assumption) ?_
        try simp only [Act.put,Drawn.La,Drawn.Lb,Drawn.Lc]
        refine Drawn.tk 1 (some 11) rfl rfl (by assumption) ?_
        try simp only [Act.put,Drawn.La,Drawn.Lb,Drawn.Lc]
        refine wpAnyH_ready (rs:=[2]) (by kernel_rfl) (by simp) ?_
        refine AllReadyH.cons rfl (fun K hK=>?_) AllReadyH.nil
        go_simp
        go_at_call 111
        refine (headV f m 400 _ _ _ _ hph.out (hfW.mono Rd.byB (by simp)) (hmW.mono Rd.byB (by simp)) (by omega)).mono ?_
        rintro e w2 ⟨rfl,hb2⟩
        have hbW : Below W.heap.size W w2:=Below.trans Rd.byB (hb2.mono (by simp))
        have k2:=B2.next ⟨f1,f2⟩ hbW (by omega)
        have k8:=B8.next ⟨m0,m1,m2,m3,m4,m5,m6,m7⟩ hbW (by omega)
        go_wp2_with fail
        refine hK.out _ _ (by (try dsimp only);exact ⟨k2,k8⟩) (fun hHeld=>?_)
        clear hK K
        try simp only [Act.put,Drawn.La,Drawn.Lb,Drawn.Lc]
        refine Drawn.tk 3 (some 13) rfl rfl (by assumption) ?_
        try simp only [Act.put,Drawn.La,Drawn.Lb,Drawn.Lc]
        refine Drawn.tk 4 (some 14) rfl rfl (by assumption) ?_
        try simp only [Act.put,Drawn.La,Drawn.Lb,Drawn.Lc]
        refine Drawn.tk 5 (some 15) rfl rfl (by assumption) ?_
        try simp only [Act.put,Drawn.La,Drawn.Lb,Drawn.Lc]
        refine Drawn.tk 6 (some 16) rfl rfl (by assumption) ?_
        try simp only [Act.put,Drawn.La,Drawn.Lb,Drawn.Lc]
        refine Drawn.tk 7 (some 17) rfl rfl (by assumption) ?_
        try simp only [Act.put,Drawn.La,Drawn.Lb,Drawn.Lc]
        refine Drawn.tk 8 (some 18) rfl rfl (by assumption) ?_
        try simp only [Act.put,Drawn.La,Drawn.Lb,Drawn.Lc]
        refine Drawn.tk 9 (some 19) rfl rfl (by assumption) ?_
        try simp only [Act.put,Drawn.La,Drawn.Lb,Drawn.Lc]
        refine Drawn.tk 10 (some 20) rfl rfl (by assumption) ?_
        try simp only [Act.put,Drawn.La,Drawn.Lb,Drawn.Lc]
        refine Drawn.tk 11 (some 21) rfl rfl (by assumption) ?_
        try simp only [Act.put,Drawn.La,Drawn.Lb,Drawn.Lc]
        refine wpAnyH_ready (rs:=[12]) (by kernel_rfl) (by simp) ?_
        refine AllReadyH.cons rfl (fun K hK=>?_) AllReadyH.nil
        go_simp
        go_at_call 89
        refine (sinV _ _ _ _ _ hps.out).mono ?_
        rintro e w3 ⟨rfl,rfl⟩
        go_wp2_with fail
        refine hK.out _ _ (by (try dsimp only);exact ⟨k2,k8⟩) (fun hHeld=>?_)
        clear hK K
        try simp only [Act.put,Drawn.La,Drawn.Lb,Drawn.Lc]
        refine Drawn.tk 13 (some 23) rfl rfl (by assumption) ?_
        try simp only [Act.put,Drawn.La,Drawn.Lb,Drawn.Lc]
        refine Drawn.tk 14 (some 24) rfl rfl (by assumption) ?_
        try simp only [Act.put,Drawn.La,Drawn.Lb,Drawn.Lc]
        refine Drawn.tk 15 (some 25) rfl rfl (by assumption) ?_
        try simp only [Act.put,Drawn.La,Drawn.Lb,Drawn.Lc]
        refine Drawn.tk 16 (some 26) rfl rfl (by assumption) ?_
        try simp only [Act.put,Drawn.La,Drawn.Lb,Drawn.Lc]
        refine Drawn.tk 17 (some 27) rfl rfl (by assumption) ?_
        try simp only [Act.put,Drawn.La,Drawn.Lb,Drawn.Lc]
        refine Drawn.tk 18 (some 28) rfl rfl (by assumption) ?_
        try simp only [Act.put,Drawn.La,Drawn.Lb,Drawn.Lc]
        refine Drawn.tk 19 (some 29) rfl rfl (by assumption) ?_
        try simp only [Act.put,Drawn.La,Drawn.Lb,Drawn.Lc]
        refine wpAnyH_ready (rs:=[20]) (by kernel_rfl) (by simp) ?_
        refine AllReadyH.cons rfl (fun K hK=>?_) AllReadyH.nil
        go_simp
        go_at_call 92
        refine (slotsV _ m.params S _ (htW.next hbW) (by omega) hS.out).mono ?_
        rintro e w4 ⟨rfl,hb4⟩
        have hbX : Below W.heap.size W w4:=hbW.trans (hb4.mono hbW.size)
        have x2:=B2.next ⟨f1,f2⟩ hbX (by omega)
        have x8:=B8.next ⟨m0,m1,m2,m3,m4,m5,m6,m7⟩ hbX (by omega)
        go_wp2_with fail
        refine hK.out _ _ (by (try dsimp only);exact ⟨x2,x8⟩) (fun hHeld=>?_)
        clear hK K
        try simp only [Act.put,Drawn.La,Drawn.Lb,Drawn.Lc]
        refine wpAnyH_ready (rs:=[21]) (by kernel_rfl) (by simp) ?_
        refine AllReadyH.cons rfl (fun K hK=>?_) AllReadyH.nil
        go_simp
        go_at_call 89
        refine (sinV _ _ _ _ _ hpl.out).mono ?_
        rintro e w5 ⟨rfl,rfl⟩
        go_wp2_with fail
        refine hK.out _ _ (by (try dsimp only);exact ⟨x2,x8⟩) (fun hHeld=>?_)
        clear hK K
        try simp only [Act.put,Drawn.La,Drawn.Lb,Drawn.Lc]
        refine Drawn.tk 22 (some 32) rfl rfl (by assumption) ?_
        try simp only [Act.put,Drawn.La,Drawn.Lb,Drawn.Lc]
        refine Drawn.tk 23 (some 33) rfl rfl (by assumption) ?_
        try simp only [Act.put,Drawn.La,Drawn.Lb,Drawn.Lc]
        refine wpAnyH_done (by kernel_rfl) ?_ _
        have hbX2 : Below w.heap.size w w4:=hbw.trans (hbX.mono hbs)
        have hbX3:=hbX2.size
        have hbX4:=hbX.size
        cases pl
        · go_wp2
          go_ret
          exact ⟨ret_bool (by rw [hsme.out];simp),hbX2⟩
        · have hloc : 0 ≤ m.locals ∧ m.locals ≤ 60 := by
            have h:=hpl.out
            simp only [Form.rng,decide_eq_true_eq] at h
            omega
          have hsme2 : Hid (Form.sme f m = m.code.all (Form.sins f.classes f.methods.length m.code.length m.locals)):=by
            show _ = _
            rw [hsme.out,hz];rfl
          clear hsme f1 f2 m0 m1 m2 m3 m4 m5 m6 m7 k2 k8 htW hfW hmW hts0
          obtain ⟨f1,f2⟩:=x2
          obtain ⟨m0,m1,m2,m3,m4,m5,m6,m7⟩:=x8
          go_wp2_with fail
          go_loopw [37] (fun i wr=>∃ k : Nat,k ≤ m.code.length ∧ i = .int .i64 k ∧ Below w4.heap.size w4 wr ∧ Hid (∀ j (h : j < m.code.length),j < k → Form.sins f.classes f.methods.length m.code.length m.locals m.code[j] = true)) (fun i _=>m.code.length - (intOf i).toNat)
          case atStart=>exact ⟨0,by omega,rfl,Rd.byB,fun j _ h=>absurd h (by omega)⟩
          case round =>
            obtain ⟨k,hk,rfl,hq,hall⟩:=hrel
            have hqs:=hq.size
            have hwr : Below w.heap.size w wr:=hbX2.trans (hq.mono hbX3)
            have hwrs:=hwr.size
            have n3 : w.heap.size < wr.heap.size:=by omega
            have n4 : w.heap.size + 1 < wr.heap.size:=by omega
            have c1:=kept hq (by omega) f1
            have c2:=kept hq (by omega) f2
            have c3:=kept hq (by omega) m0
            have c4:=kept hq (by omega) m1
            have c5:=kept hq (by omega) m2
            have c6:=kept hq (by omega) m3
            have c7:=kept hq (by omega) m4
            have c8:=kept hq (by omega) m5
            have c9:=kept hq (by omega) m6
            have c10:=kept hq (by omega) m7
            clear f1 f2 m0 m1 m2 m3 m4 m5 m6 m7
            by_cases hlt : k < m.code.length
            · obtain ⟨b,o,rfl,hb,he⟩:=del k hlt
              have hyes:=Lib.hid (Form.all_step (p:=Form.sins f.classes f.methods.length m.code.length m.locals) hall.out hlt)
              have hno:=Lib.hid (Form.all_not (p:=Form.sins f.classes f.methods.length m.code.length m.locals) hlt)
              obtain ⟨t,ht⟩:=at_of hlt
              rw [ht.out] at he hyes hno
              obtain ⟨g1,g2,g3,g4,g5,oks,va,g6,gargs⟩:=he
              have hvi : VIns w w.heap.size (.agg #[.int .i64 t.op,.int .i64 t.a,.int .i64 t.b,.int .i64 t.c,.int .i64 t.n,va]) t:=⟨va,rfl,oks,gargs⟩
              obtain ⟨aa,acap,rfl,alc,acc,_⟩:=gargs
              have k1:=kept hwr hb g1
              have k2:=kept hwr hb g2
              have k3:=kept hwr hb g3
              have k4:=kept hwr hb g4
              have k5:=kept hwr hb g5
              have k6:=kept hwr hb g6
              obtain ⟨xa,hxa⟩ : ∃ p,Hid (Form.sa f.classes f.methods.length m.code.length m.locals t = p):=⟨_,rfl⟩
              obtain ⟨xb,hxb⟩ : ∃ p,Hid (Form.sb f.classes t = p):=⟨_,rfl⟩
              obtain ⟨xn,hxn⟩ : ∃ p,Hid (Form.sn t = p):=⟨_,rfl⟩
              have hins : Hid (Form.sins f.classes f.methods.length m.code.length m.locals t = (xa && xb && xn && decide (t.c = 0) && decide (t.args.length = 0))):=by
                show _ = _
                rw [← hxa.out,← hxb.out,← hxn.out];rfl
              have hq2:=Lib.hid hq
              have hwr2:=Lib.hid hwr
              clear del g1 g2 g3 g4 g5 g6
              go_wp2_with (go_at_call 142;refine (fieldsV f m t xa xb xn _ _ _ _ hxa.out hxb.out hxn.out (hf0.mono Rd.byB (by simp;omega)) (hm0.mono Rd.byB (by simp;omega)) (hvi.mono Rd.byB (by simp;omega)) hloc).mono ?_;rintro e w6 ⟨rfl,hb6⟩;have hw6 : Below wr.heap.size wr w6:=Below.trans Rd.byB (hb6.mono (by simp));have y4 : w6.cell? ⟨wr.heap.size,3,none⟩ = some (.int .i64 t.c):=kept hb6 (by simp) (by go_simp);have y6 : w6.cell? ⟨wr.heap.size,5,none⟩ = some (.slice aa t.args.length acap):=kept hb6 (by simp) (by go_simp))
              all_goals first
                | (go_ret
                   refine ⟨ret_bool (hsme2.out.trans (hno.out ?_)).symm,hwr2.out.trans (hw6.mono hwrs)⟩
                   go_tidy
                   rw [hins.out]
                   first | (simp_all;done) | (rw [show decide (t.args.length = 0) = false from decide_eq_false (by omega)];simp;done))
                | skip
              refine ⟨?_,?measure⟩
              iterate 39 apply Exists.intro
              refine ⟨?rel,rfl⟩
              case rel =>
                refine ⟨k + 1,by omega,by go_num,hq2.out.trans (hw6.mono hqs),hyes.out ?_⟩
                go_tidy
                rw [hins.out]
                simp_all
              case measure=>simp [intOf];omega
            · have hst : m.code.all (Form.sins f.classes f.methods.length m.code.length m.locals) = true:=Form.all_of (fun j hj=>hall.out j hj (by omega))
              have hst2:=Lib.hid hst
              clear hst hall del
              go_wp2
              go_ret
              exact ⟨ret_bool (by rw [hsme2.out,hst2.out]),hwr⟩
end FormW
end Go.Proofs.Ytncmhenfgbcihab
namespace Go.Proofs.Ytncmhenfgbcihab
open Go.RowKit
set_option linter.unusedSimpArgs false
set_option linter.unusedVariables false
namespace FormW
open Num Rd D HierW
theorem methodV (f : Fi) (m : Me) (p : Bool) (vf vm : Value) (w : World) (hp : Form.sme f m = p) (hf : VFi w w.heap.size vf f) (hm : VMe w w.heap.size vm m) :
    Calls Try.prog 90 #[vf,vm] w fun e w'=>e = .returned (.bool p) ∧ Below w.heap.size w w':=by
  subst hp;exact method f m vf vm w hf hm
theorem mayV (v : Value) (l : List Cls) (p : Bool) (w : World) (hp : Hier.may l = p) (h : Cs w v l) : Calls Try.prog 88 #[v] w fun e w'=>e = .returned (.bool p) ∧ Below w.heap.size w w':=by
  subst hp;exact may v l w h
set_option maxRecDepth 100000 in
set_option maxHeartbeats 4000000 in
theorem smay (f : Fi) (vf : Value) (w : World) (hf : VFi w w.heap.size vf f) :
    Calls Try.prog 46 #[vf] w fun e w'=>e = .returned (.bool (Form.smay f)) ∧ Below w.heap.size w w':=by
  have hf0:=hf
  obtain ⟨vc,vme,rfl,hcs,⟨ma,mcap,rfl,mlc,mcc,mel⟩⟩:=hf
  obtain ⟨ph,hph⟩ : ∃ p,Hid (Hier.may f.classes = p):=⟨_,rfl⟩
  obtain ⟨pn,hpn⟩ : ∃ p,Hid (Form.rng f.methods.length 1 9 = p):=⟨_,rfl⟩
  have hall0 : Hid (Form.smay f = (ph && pn && f.methods.all (Form.sme f))):=by
    show _ = _
    rw [← hph.out,← hpn.out];rfl
  cases ph <;> cases pn
  all_goals go_enter Try.func46,Try.ntmps46
  all_goals go_wp2_with (first
    | (go_at_call 88;refine (mayV _ _ _ _ hph.out (Cs.next hcs Rd.byB)).mono ?_;rintro e w1 ⟨rfl,hb1⟩;have hw1 : Below w.heap.size w w1:=Below.trans Rd.byB (hb1.mono (by simp));have y0 : w1.cell? ⟨w.heap.size,0,none⟩ = some vc:=kept hb1 (by simp) (by go_simp);have y1 : w1.cell? ⟨w.heap.size,1,none⟩ = some (.slice ma f.methods.length mcap):=kept hb1 (by simp) (by go_simp))
    | (go_at_call 89;refine (sinV _ _ _ _ _ hpn.out).mono ?_;rintro e w2 ⟨rfl,rfl⟩))
  all_goals first
    | (go_ret
       exact ⟨ret_bool (by rw [hall0.out];simp),hw1⟩)
    | skip
  have hws:=hw1.size
  have nn : w.heap.size < w1.heap.size:=by have:=lt_cell y0;omega
  go_loopw [19] (fun i wr=>∃ k : Nat,k ≤ f.methods.length ∧ i = .int .i64 k ∧ Below w1.heap.size w1 wr ∧ Hid (∀ j (h : j < f.methods.length),j < k → Form.sme f f.methods[j] = true)) (fun i _=>f.methods.length - (intOf i).toNat)
  case atStart=>exact ⟨0,by omega,rfl,Rd.byB,fun j _ h=>absurd h (by omega)⟩
  case round =>
    obtain ⟨k,hk,rfl,hq,hall⟩:=hrel
    have hqs:=hq.size
    have hwr : Below w.heap.size w wr:=hw1.trans (hq.mono hws)
    have hwrs:=hwr.size
    have n3 : w.heap.size < wr.heap.size:=by omega
    have c1:=kept hq (by omega) y0
    have c2:=kept hq (by omega) y1
    clear y0 y1
    by_cases hlt : k < f.methods.length
    · obtain ⟨b,o,rfl,hb,he⟩:=mel k hlt
      have hyes:=Lib.hid (Form.all_step (p:=Form.sme f) hall.out hlt)
      have hno:=Lib.hid (Form.all_not (p:=Form.sme f) hlt)
      obtain ⟨t,ht⟩:=at_of hlt
      rw [ht.out] at he hyes hno
      obtain ⟨vp,vd,vh,g0,g1,g2,g3,g4,g5,g6,g7,oks,s1,s2,s3⟩:=he
      have hvm : VMe w w.heap.size (.agg #[vp,.int .i64 t.ret.kind,.int .i64 t.ret.cls,.int .i64 t.stack,.int .i64 t.locals,.int .i64 t.regs,vd,vh]) t:=⟨vp,vd,vh,rfl,oks,s1,s2,s3⟩
      obtain ⟨pa,pcap,rfl,_,_,_⟩:=s1
      obtain ⟨da,dcap,rfl,_,_,_⟩:=s2
      obtain ⟨ha,hcap,rfl,_,_,_⟩:=s3
      have k0:=kept hwr hb g0
      have k1:=kept hwr hb g1
      have k2:=kept hwr hb g2
      have k3:=kept hwr hb g3
      have k4:=kept hwr hb g4
      have k5:=kept hwr hb g5
      have k6:=kept hwr hb g6
      have k7:=kept hwr hb g7
      obtain ⟨p,hp⟩ : ∃ p,Hid (Form.sme f t = p):=⟨_,rfl⟩
      have hq2:=Lib.hid hq
      have hwr2:=Lib.hid hwr
      clear mel g0 g1 g2 g3 g4 g5 g6 g7
      cases p
      all_goals go_wp2_with (go_at_call 90;refine (methodV f t _ _ _ _ hp.out (hf0.mono Rd.byB (by simp;omega)) (hvm.mono Rd.byB (by simp;omega))).mono ?_;rintro e w6 ⟨rfl,hb6⟩;have hw6 : Below wr.heap.size wr w6:=Below.trans Rd.byB (hb6.mono (by simp)))
      · go_ret
        exact ⟨ret_bool (by rw [hall0.out];simp [hno.out hp.out]),hwr2.out.trans (hw6.mono hwrs)⟩
      · go_roundw
        case rel=>exact ⟨k + 1,by omega,by go_num,hq2.out.trans (hw6.mono hqs),hyes.out hp.out⟩
        case measure=>simp [intOf];omega
    · have hst:=Lib.hid (Form.all_of (p:=Form.sme f) (fun j hj=>hall.out j hj (by omega)))
      clear hall mel
      go_wp2
      go_ret
      exact ⟨ret_bool (by rw [hall0.out,hst.out];rfl),hwr⟩
end FormW
end Go.Proofs.Ytncmhenfgbcihab
namespace Go.Proofs.Ytncmhenfgbcihab
open Go.RowKit
set_option linter.unusedSimpArgs false
set_option linter.unusedVariables false
namespace FormW
open Num Rd D HierW
theorem smayV (f : Fi) (p : Bool) (vf : Value) (w : World) (hp : Form.smay f = p) (hf : VFi w w.heap.size vf f) :
    Calls Try.prog 46 #[vf] w fun e w'=>e = .returned (.bool p) ∧ Below w.heap.size w w':=by
  subst hp;exact smay f vf w hf
end FormW
end Go.Proofs.Ytncmhenfgbcihab
namespace Go.Proofs.Ytncmhenfgbcihab
open Go.RowKit
set_option linter.unusedVariables false
set_option linter.unusedSimpArgs false
namespace Flow
open D Num
theorem ty_ext {a b : Ty} (h1 : a.kind = b.kind) (h2 : a.cls = b.cls) : a = b:=by cases a;cases b;simp_all
instance tyDec : DecidableEq Ty:=fun a b=>if h : a.kind = b.kind ∧ a.cls = b.cls then isTrue (ty_ext h.1 h.2) else isFalse (fun e=>h (by rw [e];exact ⟨rfl,rfl⟩))
def none_ : Ty:=⟨0,0⟩
structure State where
  slots : List Ty
  stack : List Ty
  broken : Bool
def State.bad : State:=⟨[],[],true⟩
def kd (l : List Ty) (i : Nat) : Int:=(l.getD i none_).kind
def lose (l : List Ty) (a : Nat) : List Ty :=
  if kd l a = 5 then (l.set (a + 1) none_).set a none_ else if kd l a = 6 then (l.set (a - 1) none_).set a none_ else l.set a none_
def store (l : List Ty) (a : Nat) (x : Ty) : List Ty :=
  if x.kind ≠ 2 then (lose l a).set a x else ((lose (lose l a) (a + 1)).set a ⟨5,0⟩).set (a + 1) ⟨6,0⟩
def loadV (l : List Ty) (a : Nat) (k : Int) : Ty:=if k = 2 then ⟨2,0⟩ else l.getD a none_
def loadB (l : List Ty) (a : Nat) (k : Int) : Bool :=
  if k = 2 then decide (kd l a = 5) && decide (kd l (a + 1) = 6) else if k = 3 then decide (kd l a = 3) || decide (kd l a = 7) else decide (kd l a = k)
def fits (c : List Cls) (x t : Ty) : Bool:=if t.kind = 3 then decide (x.kind = 7) || (decide (x.kind = 3) && Hier.is c x.cls t.cls) else decide (x.kind = t.kind)
def both (c : List Cls) (a b : Ty) : Ty :=
  if a = b then a else if a.kind = 7 ∧ b.kind = 3 then b else if b.kind = 7 ∧ a.kind = 3 then a else if a.kind = 3 ∧ b.kind = 3 then ⟨3,Hier.meet c a.cls b.cls⟩ else none_
def zip (c : List Cls) : List Ty → List Ty → List Ty
  | a :: l,b :: m=>both c a b :: zip c l m
  | l,_=>l
def together (c : List Cls) (a b : State) : State :=
  if a.broken = true ∨ b.broken = true ∨ a.stack.length ≠ b.stack.length then State.bad
  else if (zip c a.stack b.stack).any (fun x=>decide (x.kind = 0)) then State.bad else ⟨zip c a.slots b.slots,zip c a.stack b.stack,false⟩
instance stDec : DecidableEq State:=fun a b=>if h : a.slots = b.slots ∧ a.stack = b.stack ∧ a.broken = b.broken then isTrue (by cases a;cases b;simp_all) else isFalse (fun e=>h (by rw [e];exact ⟨rfl,rfl,rfl⟩))
abbrev One:=Nat → State → Bool × List (Nat × State)
structure Run where
  states : List (Option State)
  work : List Nat
  bad : Bool
def lead (c : List Cls) (r : Run) (a : Nat) (s : State) : Run :=
  if a < r.states.length then
    match r.states.getD a none with
    | none=>⟨r.states.set a (some s),r.work ++ [a],r.bad⟩
    | some was=>if together c was s = was then r else ⟨r.states.set a (some (together c was s)),r.work ++ [a],r.bad⟩
  else r
def leads (c : List Cls) (r : Run) (l : List (Nat × State)) : Run:=l.foldl (fun r p=>lead c r p.1 p.2) r
def round (c : List Cls) (one : One) (r : Run) : Run :=
  match r.work.getLast? with
  | none=>r
  | some a =>
    let s:=(r.states.getD a none).getD State.bad
    leads c ⟨r.states,r.work.dropLast,r.bad || !(one a s).1⟩ (one a s).2
def iter (c : List Cls) (one : One) : Nat → Run → Run
  | 0,r=>r
  | n + 1,r=>iter c one n (round c one r)
def rk (x : Ty) : Nat:=if x.kind = 0 then 0 else if x.kind = 3 then x.cls.toNat + 1 else if x.kind = 7 then 20 else 1
def rks : List Ty → Nat
  | []=>0
  | x :: l=>rk x + rks l
def rkS (s : State) : Nat:=if s.broken then 0 else 1 + rks s.slots + rks s.stack
def rkO (top : Nat) : Option State → Nat
  | none=>top
  | some s=>rkS s
def rkL (top : Nat) : List (Option State) → Nat
  | []=>0
  | s :: l=>rkO top s + rkL top l
def Wf (n : Nat) (x : Ty) : Prop:=(x.kind = 3 → 0 ≤ x.cls ∧ x.cls < n) ∧ (x.kind ≠ 3 → x.cls = 0)
def WfL (n : Nat) (l : List Ty) : Prop:=∀ x ∈ l,Wf n x
def Paired (l : List Ty) : Prop:=(∀ i,kd l i = 5 → kd l (i + 1) = 6) ∧ (∀ i,kd l i = 6 → 0 < i ∧ kd l (i - 1) = 5)
def StOk (n nl ns : Nat) (s : State) : Prop :=
  (s.broken = true → s = State.bad) ∧ (s.broken = false → s.slots.length = nl ∧ s.stack.length ≤ ns ∧ WfL n s.slots ∧ WfL n s.stack ∧ Paired s.slots)
section
variable {c : List Cls}
theorem wf_none (n : Nat) : Wf n none_:=⟨fun h=>by simp [none_] at h,fun _=>rfl⟩
theorem rk_le (hm : Hier.may c = true) {x : Ty} (h : Wf c.length x) : rk x ≤ 20:=by
  have hlen : c.length ≤ 12:=((Hier.may_iff c).1 hm).1.2
  unfold rk
  split
  · omega
  · split
    · rename_i h3;have:=h.1 h3;omega
    · split <;> omega
theorem rks_le (hm : Hier.may c = true) : ∀ {l : List Ty},WfL c.length l → rks l ≤ 20 * l.length:=by
  intro l
  induction l with
  | nil=>intro _;simp [rks]
  | cons x l ih =>
    intro h
    have h1:=rk_le hm (h x (by simp))
    have h2:=ih (fun y hy=>h y (by simp [hy]))
    simp only [rks,List.length_cons];omega
theorem both_same (a : Ty) : both c a a = a:=by unfold both;rw [if_pos rfl]
theorem both_wf (hm : Hier.may c = true) {a b : Ty} (ha : Wf c.length a) (hb : Wf c.length b) : Wf c.length (both c a b):=by
  unfold both
  split
  · exact ha
  · split
    · exact hb
    · split
      · exact ha
      · split
        · rename_i h
          exact ⟨fun _=>Hier.meet_range hm (ha.1 h.1) (hb.1 h.2),fun e=>absurd rfl e⟩
        · exact wf_none _
theorem both_rk (hm : Hier.may c = true) {a b : Ty} (ha : Wf c.length a) (hb : Wf c.length b) : both c a b = a ∨ rk (both c a b) < rk a:=by
  have hlen : c.length ≤ 12:=((Hier.may_iff c).1 hm).1.2
  unfold both
  by_cases e : a = b
  · rw [if_pos e];exact .inl rfl
  rw [if_neg e]
  by_cases e1 : a.kind = 7 ∧ b.kind = 3
  · rw [if_pos e1]
    have:=hb.1 e1.2
    right
    unfold rk
    rw [if_neg (by omega),if_pos e1.2,if_neg (by omega),if_neg (by omega),if_pos e1.1];omega
  rw [if_neg e1]
  by_cases e2 : b.kind = 7 ∧ a.kind = 3
  · rw [if_pos e2];exact .inl rfl
  rw [if_neg e2]
  by_cases e3 : a.kind = 3 ∧ b.kind = 3
  · rw [if_pos e3]
    have h1:=ha.1 e3.1
    have h2:=hb.1 e3.2
    have hb3:=(Hier.join_best hm h1 h2).1
    have hle:=Hier.is_le' (Hier.wf_of_may hm) hb3
    by_cases hn : Hier.meet c a.cls b.cls = a.cls
    · exact .inl (ty_ext e3.1.symm hn)
    · right
      unfold rk
      simp only
      rw [if_neg (by omega),if_pos trivial,if_neg (by omega),if_pos e3.1]
      omega
  rw [if_neg e3]
  by_cases e4 : a.kind = 0
  · exact .inl (ty_ext e4.symm (ha.2 (by omega)).symm)
  · right
    show 0 < rk a
    unfold rk
    rw [if_neg e4]
    split
    · omega
    · split <;> omega
theorem zip_len : ∀ (l m : List Ty),(zip c l m).length = l.length:=by
  intro l
  induction l with
  | nil=>intro m;cases m <;> rfl
  | cons a l ih=>intro m;cases m with
    | nil=>rfl
    | cons b m=>simp [zip,ih]
theorem zip_wf (hm : Hier.may c = true) : ∀ {l m : List Ty},WfL c.length l → WfL c.length m → WfL c.length (zip c l m):=by
  intro l
  induction l with
  | nil=>intro m h _;cases m <;> exact h
  | cons a l ih =>
    intro m h hm'
    cases m with
    | nil=>exact h
    | cons b m =>
      intro x hx
      simp only [zip,List.mem_cons] at hx
      rcases hx with hx | hx
      · subst hx;exact both_wf hm (h a (by simp)) (hm' b (by simp))
      · exact ih (fun y hy=>h y (by simp [hy])) (fun y hy=>hm' y (by simp [hy])) x hx
theorem zip_rk (hm : Hier.may c = true) : ∀ {l m : List Ty},WfL c.length l → WfL c.length m → zip c l m = l ∨ rks (zip c l m) < rks l:=by
  intro l
  induction l with
  | nil=>intro m h _;left;cases m <;> rfl
  | cons a l ih =>
    intro m h hm'
    cases m with
    | nil=>exact .inl rfl
    | cons b m =>
      have h1:=both_rk hm (h a (by simp)) (hm' b (by simp))
      have h2:=ih (m:=m) (fun y hy=>h y (by simp [hy])) (fun y hy=>hm' y (by simp [hy]))
      simp only [zip,rks]
      rcases h1 with h1 | h1 <;> rcases h2 with h2 | h2
      · left;rw [h1,h2]
      · right;rw [h1];omega
      · right;rw [h2];omega
      · right;omega
theorem zip_getD : ∀ (l m : List Ty) (i : Nat),l.length = m.length → (zip c l m).getD i none_ = if i < l.length then both c (l.getD i none_) (m.getD i none_) else none_:=by
  intro l
  induction l with
  | nil=>intro m i h;cases m <;> simp [zip]
  | cons a l ih =>
    intro m i h
    cases m with
    | nil=>simp at h
    | cons b m =>
      cases i with
      | zero=>simp [zip]
      | succ i=>simpa [zip] using ih m i (by simpa using h)
theorem both_kind {a b : Ty} {k : Int} (hk : k = 5 ∨ k = 6) : (both c a b).kind = k ↔ a = b ∧ a.kind = k:=by
  unfold both
  constructor
  · intro h
    by_cases e : a = b
    · rw [if_pos e] at h;exact ⟨e,h⟩
    · rw [if_neg e] at h
      exfalso
      split at h
      · omega
      · split at h
        · omega
        · split at h
          · simp at h;omega
          · simp [none_] at h;omega
  · rintro ⟨e,h⟩
    rw [if_pos e];exact h
theorem zip_paired {l m : List Ty} (hl : WfL c.length l) (hm : WfL c.length m) (hlen : l.length = m.length) (p : Paired l) (q : Paired m) : Paired (zip c l m):=by
  have out : ∀ (l : List Ty) i,l.length ≤ i → kd l i = 0:=fun l i h=>by unfold kd;rw [List.getD_eq_getElem?_getD,List.getElem?_eq_none h];rfl
  have wf : ∀ {l : List Ty},WfL c.length l → ∀ i,kd l i ≠ 3 → (l.getD i none_).cls = 0:=fun {l} h i hk=>by
    by_cases hi : i < l.length
    · have hw:=h l[i] (List.getElem_mem hi)
      unfold kd at hk
      rw [List.getD_eq_getElem?_getD,List.getElem?_eq_getElem hi] at hk ⊢
      exact hw.2 hk
    · rw [List.getD_eq_getElem?_getD,List.getElem?_eq_none (by omega)];rfl
  have key : ∀ (k : Int),(k = 5 ∨ k = 6) → ∀ i,kd (zip c l m) i = k ↔ (i < l.length ∧ kd l i = k ∧ kd m i = k):=fun k hk i=>by
    unfold kd
    rw [zip_getD l m i hlen]
    by_cases hi : i < l.length
    · rw [if_pos hi,both_kind hk]
      constructor
      · rintro ⟨e,h⟩;exact ⟨hi,h,by rw [← e];exact h⟩
      · rintro ⟨_,h1,h2⟩
        exact ⟨ty_ext (by rw [h1,h2]) (by rw [wf hl i (by unfold kd;omega),wf hm i (by unfold kd;omega)]),h1⟩
    · rw [if_neg hi];simp [none_];omega
  refine ⟨fun i h=>?_,fun i h=>?_⟩
  · obtain ⟨h0,h1,h2⟩:=(key 5 (.inl rfl) i).1 h
    have h3:=p.1 i h1
    refine (key 6 (.inr rfl) _).2 ⟨?_,h3,q.1 i h2⟩
    refine Nat.lt_of_not_le (fun hle=>?_)
    rw [out l _ hle] at h3;omega
  · obtain ⟨h0,h1,h2⟩:=(key 6 (.inr rfl) i).1 h
    have h3:=p.2 i h1
    exact ⟨h3.1,(key 5 (.inl rfl) _).2 ⟨by omega,h3.2,(q.2 i h2).2⟩⟩
theorem bad_ok (n nl ns : Nat) : StOk n nl ns State.bad:=⟨fun _=>rfl,fun h=>by cases h⟩
theorem together_ok (hm : Hier.may c = true) {nl ns : Nat} {a b : State} (ha : StOk c.length nl ns a) (hb : StOk c.length nl ns b) : StOk c.length nl ns (together c a b):=by
  unfold together
  split
  · exact bad_ok _ _ _
  · rename_i h
    have h1 : a.broken = false := by cases h' : a.broken; · rfl
                                     · exact absurd (.inl h') h
    have h2 : b.broken = false := by cases h' : b.broken; · rfl
                                     · exact absurd (.inr (.inl h')) h
    obtain ⟨a1,a2,a3,a4,a5⟩:=ha.2 h1
    obtain ⟨b1,b2,b3,b4,b5⟩:=hb.2 h2
    split
    · exact bad_ok _ _ _
    · exact ⟨fun h=>absurd h (by simp),fun _=>⟨by simp only [zip_len];exact a1,by simp only [zip_len];exact a2,zip_wf hm a3 b3,zip_wf hm a4 b4,zip_paired a3 b3 (by omega) a5 b5⟩⟩
theorem together_rk (hm : Hier.may c = true) {nl ns : Nat} {a b : State} (ha : StOk c.length nl ns a) (hb : StOk c.length nl ns b) (hne : together c a b ≠ a) : rkS (together c a b) < rkS a:=by
  cases h1 : a.broken
  · obtain ⟨a1,a2,a3,a4,a5⟩:=ha.2 h1
    have hpos : 0 < rkS a:=by unfold rkS;rw [h1];simp;omega
    unfold together at hne ⊢
    split
    · exact hpos
    · rename_i h
      have h2 : b.broken = false := by cases h' : b.broken; · rfl
                                       · exact absurd (.inr (.inl h')) h
      obtain ⟨b1,b2,b3,b4,b5⟩:=hb.2 h2
      split
      · exact hpos
      · rename_i hk
        rw [if_neg h,if_neg hk] at hne
        unfold rkS
        rw [h1]
        simp only [Bool.false_eq_true,if_false]
        rcases zip_rk hm a3 b3 with e1 | e1 <;> rcases zip_rk hm a4 b4 with e2 | e2
        · exfalso;apply hne;rw [e1,e2];cases a;simp_all
        · rw [e1];omega
        · rw [e2];omega
        · omega
  · have:=ha.1 h1
    subst this
    exfalso
    apply hne
    unfold together
    rw [if_pos (.inl rfl)]
theorem rkS_le (hm : Hier.may c = true) {nl ns : Nat} {a : State} (ha : StOk c.length nl ns a) : rkS a ≤ 1 + 20 * nl + 20 * ns:=by
  unfold rkS
  cases h1 : a.broken
  · obtain ⟨a1,a2,a3,a4,a5⟩:=ha.2 h1
    have:=rks_le hm a3
    have:=rks_le hm a4
    simp only [Bool.false_eq_true,if_false]
    omega
  · simp
end
def top (nl ns : Nat) : Nat:=2 + 20 * nl + 20 * ns
def RunOk (n nl ns len : Nat) (r : Run) : Prop :=
  r.states.length = len ∧ (∀ k s,r.states.getD k none = some s → StOk n nl ns s) ∧ ∀ a ∈ r.work,a < len ∧ ∃ s,r.states.getD a none = some s
def meas (nl ns : Nat) (r : Run) : Nat:=2 * rkL (top nl ns) r.states + r.work.length
theorem getD_lt {α : Type} {l : List (Option α)} {k : Nat} {x : α} (h : l.getD k none = some x) : k < l.length:=by
  refine Nat.lt_of_not_le (fun hle=>?_)
  rw [List.getD_eq_getElem?_getD,List.getElem?_eq_none hle] at h
  cases h
theorem getD_setO {α : Type} (l : List (Option α)) (j i : Nat) (x : Option α) (hj : j < l.length) : (l.set j x).getD i none = if i = j then x else l.getD i none:=by
  rw [List.getD_eq_getElem?_getD,List.getD_eq_getElem?_getD,List.getElem?_set]
  by_cases e : j = i
  · subst e;simp [hj]
  · have e' : ¬ i = j:=fun h=>e h.symm
    simp [e,e']
theorem rkL_set (t : Nat) : ∀ (l : List (Option State)) (k : Nat) (x : Option State),k < l.length → rkL t (l.set k x) + rkO t (l.getD k none) = rkL t l + rkO t x:=by
  intro l
  induction l with
  | nil=>intro k x h;simp at h
  | cons a l ih =>
    intro k x h
    cases k with
    | zero=>simp [rkL];omega
    | succ k =>
      have:=ih k x (by simpa using h)
      simp only [List.set_cons_succ,rkL,List.getD_cons_succ]
      omega
section
variable {c : List Cls} {nl ns len : Nat}
theorem lead_cases (hm : Hier.may c = true) {r : Run} (hr : RunOk c.length nl ns len r) {a : Nat} {s : State} (hs : StOk c.length nl ns s) :
    (lead c r a s = r ∧ (a < len → ∃ was,r.states.getD a none = some was ∧ together c was s = was)) ∨
    (∃ t,a < len ∧ lead c r a s = ⟨r.states.set a (some t),r.work ++ [a],r.bad⟩ ∧ StOk c.length nl ns t ∧ rkO (top nl ns) (some t) < rkO (top nl ns) (r.states.getD a none) ∧
      (t = s ∧ r.states.getD a none = none ∨ ∃ was,r.states.getD a none = some was ∧ t = together c was s)):=by
  unfold lead
  by_cases hlt : a < r.states.length
  · rw [if_pos hlt]
    cases hg : r.states.getD a none with
    | none =>
      refine .inr ⟨s,by rw [← hr.1];exact hlt,rfl,hs,?_,.inl ⟨rfl,rfl⟩⟩
      have:=rkS_le hm hs
      show rkS s < top nl ns
      unfold top;omega
    | some was =>
      have hw:=hr.2.1 a was hg
      simp only
      by_cases he : together c was s = was
      · rw [if_pos he];exact .inl ⟨rfl,fun _=>⟨was,rfl,he⟩⟩
      · rw [if_neg he]
        exact .inr ⟨_,by rw [← hr.1];exact hlt,rfl,together_ok hm hw hs,together_rk hm hw hs he,.inr ⟨was,rfl,rfl⟩⟩
  · rw [if_neg hlt];exact .inl ⟨rfl,fun h=>by rw [hr.1] at hlt;omega⟩
theorem lead_ok (hm : Hier.may c = true) {r : Run} (hr : RunOk c.length nl ns len r) {a : Nat} {s : State} (hs : StOk c.length nl ns s) : RunOk c.length nl ns len (lead c r a s) ∧ meas nl ns (lead c r a s) ≤ meas nl ns r ∧ (lead c r a s).bad = r.bad:=by
  rcases lead_cases hm hr (a:=a) hs with ⟨e,_⟩ | ⟨t,hlt,e,ht,hrk,_⟩
  · rw [e];exact ⟨hr,Nat.le_refl _,rfl⟩
  · rw [e]
    obtain ⟨h1,h2,h3⟩:=hr
    have hlt' : a < r.states.length:=by omega
    refine ⟨⟨by simpa using h1,fun k x hk=>?_,fun b hb=>?_⟩,?_,rfl⟩
    · simp only at hk
      rw [getD_setO _ _ _ _ hlt'] at hk
      split at hk
      · injection hk with hk;subst hk;exact ht
      · exact h2 k x hk
    · simp only
      rw [getD_setO _ _ _ _ hlt']
      rcases List.mem_append.1 hb with hb | hb
      · refine ⟨(h3 b hb).1,?_⟩
        split
        · exact ⟨_,rfl⟩
        · exact (h3 b hb).2
      · have : b = a:=by simpa using hb
        subst this
        exact ⟨hlt,by rw [if_pos rfl];exact ⟨_,rfl⟩⟩
    · have:=rkL_set (top nl ns) r.states a (some t) hlt'
      unfold meas
      simp only [List.length_append,List.length_cons,List.length_nil]
      omega
theorem leads_ok (hm : Hier.may c = true) : ∀ (l : List (Nat × State)) {r : Run},RunOk c.length nl ns len r → (∀ p ∈ l,StOk c.length nl ns p.2) → RunOk c.length nl ns len (leads c r l) ∧ meas nl ns (leads c r l) ≤ meas nl ns r ∧ (leads c r l).bad = r.bad:=by
  intro l
  induction l with
  | nil=>intro r hr _;exact ⟨hr,Nat.le_refl _,rfl⟩
  | cons p l ih =>
    intro r hr hl
    obtain ⟨h1,h2,h3⟩:=lead_ok hm hr (a:=p.1) (hl p (by simp))
    obtain ⟨h4,h5,h6⟩:=ih h1 (fun q hq=>hl q (by simp [hq]))
    exact ⟨h4,Nat.le_trans h5 h2,h6.trans h3⟩
def OneOk (n nl ns : Nat) (one : One) : Prop:=∀ a s,StOk n nl ns s → ∀ p ∈ (one a s).2,StOk n nl ns p.2
theorem popped {r : Run} {n : Nat} (hr : RunOk n nl ns len r) (b : Bool) : RunOk n nl ns len ⟨r.states,r.work.dropLast,b⟩:=⟨hr.1,hr.2.1,fun a ha=>hr.2.2 a (List.dropLast_subset _ ha)⟩
theorem last_of {l : List Nat} {a : Nat} (h : l.getLast? = some a) : l = l.dropLast ++ [a]:=by
  have hne : l ≠ []:=fun e=>by subst e;simp at h
  rw [List.getLast?_eq_some_getLast hne] at h
  injection h with h
  rw [← h];exact (List.dropLast_concat_getLast hne).symm
theorem round_ok (hm : Hier.may c = true) {one : One} (ho : OneOk c.length nl ns one) {r : Run} (hr : RunOk c.length nl ns len r) : RunOk c.length nl ns len (round c one r) ∧ (r.work ≠ [] → meas nl ns (round c one r) < meas nl ns r):=by
  unfold round
  cases hl : r.work.getLast? with
  | none=>exact ⟨hr,fun h=>absurd (List.getLast?_eq_none_iff.1 hl) h⟩
  | some a =>
    have hw:=last_of hl
    obtain ⟨_,s,hs⟩:=hr.2.2 a (by rw [hw];simp)
    simp only [hs,Option.getD_some]
    obtain ⟨h1,h2,h3⟩:=leads_ok hm _ (popped hr (r.bad || !(one a s).1)) (ho a s (hr.2.1 a s hs))
    refine ⟨h1,fun _=>Nat.lt_of_le_of_lt h2 ?_⟩
    unfold meas
    have : r.work.length = r.work.dropLast.length + 1:=by rw [hw];simp
    simp only;omega
theorem iter_ok (hm : Hier.may c = true) {one : One} (ho : OneOk c.length nl ns one) : ∀ (n : Nat) {r : Run},RunOk c.length nl ns len r → RunOk c.length nl ns len (iter c one n r):=by
  intro n
  induction n with
  | zero=>intro r h;exact h
  | succ n ih=>intro r h;exact ih (round_ok hm ho h).1
theorem iter_done {one : One} {r : Run} (h : r.work = []) : ∀ n,iter c one n r = r:=by
  intro n
  induction n with
  | zero=>rfl
  | succ n ih=>rw [iter,round,h];exact ih
def fin (c : List Cls) (one : One) (nl ns : Nat) (r : Run) : Run:=iter c one (meas nl ns r) r
theorem iter_fin (hm : Hier.may c = true) {one : One} (ho : OneOk c.length nl ns one) : ∀ (n : Nat) {r : Run},RunOk c.length nl ns len r → meas nl ns r ≤ n → (iter c one n r).work = []:=by
  intro n
  induction n with
  | zero =>
    intro r hr h
    unfold meas at h
    exact List.eq_nil_of_length_eq_zero (by simp only [iter];omega)
  | succ n ih =>
    intro r hr h
    by_cases hw : r.work = []
    · rw [iter_done hw];exact hw
    · have:=(round_ok hm ho hr).2 hw
      exact ih (round_ok hm ho hr).1 (by omega)
theorem fin_round (hm : Hier.may c = true) {one : One} (ho : OneOk c.length nl ns one) {r : Run} (hr : RunOk c.length nl ns len r) (hw : r.work ≠ []) : fin c one nl ns (round c one r) = fin c one nl ns r:=by
  have h1:=(round_ok hm ho hr).2 hw
  unfold fin
  cases hme : meas nl ns r with
  | zero=>omega
  | succ n =>
    rw [iter]
    have key : ∀ (k n : Nat) {q : Run},RunOk c.length nl ns len q → meas nl ns q ≤ k → k ≤ n → iter c one n q = iter c one k q:=by
      intro k
      induction k with
      | zero =>
        intro n q hq h _
        have : q.work = []:=by unfold meas at h;exact List.eq_nil_of_length_eq_zero (by omega)
        rw [iter_done this,iter_done this]
      | succ k ih =>
        intro n q hq h hk
        cases n with
        | zero=>omega
        | succ n =>
          rw [iter,iter]
          by_cases hw : q.work = []
          · have e : round c one q = q:=by unfold round;rw [hw];rfl
            rw [e,iter_done hw,iter_done hw]
          · have:=(round_ok hm ho hq).2 hw
            exact ih n (round_ok hm ho hq).1 (by omega) (by omega)
    exact (key _ n (round_ok hm ho hr).1 (Nat.le_refl _) (by omega)).symm
theorem fin_done (hm : Hier.may c = true) {one : One} {r : Run} (hw : r.work = []) : fin c one nl ns r = r:=iter_done hw _
end
section
variable {c : List Cls} {nl ns len : Nat} {X : Type} (Γ : State → X → Prop)
def Le (a b : State) : Prop:=∀ x,Γ a x → Γ b x
def Cov (r : Run) (p : Nat) (s : State) : Prop:=∃ z,r.states.getD p none = some z ∧ Le Γ s z
def Held (one : One) (len : Nat) (r : Run) : Prop:=∀ k s,r.states.getD k none = some s → k ∈ r.work ∨ (((one k s).1 = true ∨ r.bad = true) ∧ ∀ p ∈ (one k s).2,p.1 < len → Cov Γ r p.1 p.2)
def Up (r r' : Run) : Prop:=(∀ k s,r.states.getD k none = some s → Cov Γ r' k s) ∧ (∀ k s,r'.states.getD k none = some s → r.states.getD k none = some s ∨ k ∈ r'.work) ∧ (∀ k ∈ r.work,k ∈ r'.work)
theorem Up.refl (r : Run) : Up Γ r r:=⟨fun k s h=>⟨s,h,fun _ h=>h⟩,fun k s h=>.inl h,fun _ h=>h⟩
theorem Cov.up {r r' : Run} (h : Up Γ r r') {p : Nat} {s : State} (hc : Cov Γ r p s) : Cov Γ r' p s:=by
  obtain ⟨z,h1,h2⟩:=hc
  obtain ⟨z',h3,h4⟩:=h.1 p z h1
  exact ⟨z',h3,fun x hx=>h4 x (h2 x hx)⟩
theorem Up.trans {a b d : Run} (h : Up Γ a b) (k : Up Γ b d) : Up Γ a d:=by
  refine ⟨fun p s hs=>Cov.up Γ k (h.1 p s hs),fun p s hs=>?_,fun p hp=>k.2.2 p (h.2.2 p hp)⟩
  rcases k.2.1 p s hs with h1 | h1
  · rcases h.2.1 p s h1 with h2 | h2
    · exact .inl h2
    · exact .inr (k.2.2 p h2)
  · exact .inr h1
structure Meets (c : List Cls) (nl ns : Nat) : Prop where
  left : ∀ a b,StOk c.length nl ns a → StOk c.length nl ns b → Le Γ a (together c a b)
  right : ∀ a b,StOk c.length nl ns a → StOk c.length nl ns b → Le Γ b (together c a b)
theorem lead_up (hm : Hier.may c = true) (G : Meets Γ c nl ns) {r : Run} (hr : RunOk c.length nl ns len r) {a : Nat} {s : State} (hs : StOk c.length nl ns s) : Up Γ r (lead c r a s) ∧ (a < len → Cov Γ (lead c r a s) a s):=by
  rcases lead_cases hm hr (a:=a) hs with ⟨e,h⟩ | ⟨t,hlt,e,ht,_,hc⟩
  · rw [e]
    refine ⟨Up.refl Γ r,fun hlt=>?_⟩
    obtain ⟨was,h1,h2⟩:=h hlt
    exact ⟨was,h1,by have:=G.right was s (hr.2.1 a was h1) hs;rw [h2] at this;exact this⟩
  · rw [e]
    have hlt' : a < r.states.length:=by rw [hr.1];exact hlt
    refine ⟨⟨fun k z hz=>?_,fun k z hz=>?_,fun k hk=>by simp [hk]⟩,fun _=>⟨t,by simp only;rw [getD_setO _ _ _ _ hlt',if_pos rfl],?_⟩⟩
    · unfold Cov
      simp only
      rw [getD_setO _ _ _ _ hlt']
      by_cases ek : k = a
      · subst ek
        rw [if_pos rfl]
        rcases hc with ⟨_,hn⟩ | ⟨was,hwas,htg⟩
        · rw [hn] at hz;cases hz
        · rw [hwas] at hz;injection hz with hz;subst hz
          exact ⟨t,rfl,by rw [htg];exact G.left _ _ (hr.2.1 _ _ hwas) hs⟩
      · rw [if_neg ek];exact ⟨z,hz,fun _ h=>h⟩
    · simp only at hz ⊢
      rw [getD_setO _ _ _ _ hlt'] at hz
      by_cases ek : k = a
      · right;simp [ek]
      · rw [if_neg ek] at hz;exact .inl hz
    · rcases hc with ⟨e1,_⟩ | ⟨was,hwas,htg⟩
      · subst e1;exact fun _ h=>h
      · rw [htg];exact G.right _ _ (hr.2.1 _ _ hwas) hs
theorem leads_up (hm : Hier.may c = true) (G : Meets Γ c nl ns) : ∀ (l : List (Nat × State)) {r : Run},RunOk c.length nl ns len r → (∀ p ∈ l,StOk c.length nl ns p.2) → Up Γ r (leads c r l) ∧ ∀ p ∈ l,p.1 < len → Cov Γ (leads c r l) p.1 p.2:=by
  intro l
  induction l with
  | nil=>intro r hr _;exact ⟨Up.refl Γ r,fun p hp=>by cases hp⟩
  | cons p l ih =>
    intro r hr hl
    obtain ⟨u1,c1⟩:=lead_up Γ hm G hr (a:=p.1) (hl p (by simp))
    obtain ⟨u2,c2⟩:=ih (lead_ok hm hr (a:=p.1) (hl p (by simp))).1 (fun q hq=>hl q (by simp [hq]))
    refine ⟨Up.trans Γ u1 u2,fun q hq hlt=>?_⟩
    rcases List.mem_cons.1 hq with e | hq
    · subst e;exact Cov.up Γ u2 (c1 hlt)
    · exact c2 q hq hlt
theorem round_held (hm : Hier.may c = true) (G : Meets Γ c nl ns) {one : One} (ho : OneOk c.length nl ns one) {r : Run} (hr : RunOk c.length nl ns len r) (hh : Held Γ one len r) : Held Γ one len (round c one r) ∧ Up Γ ⟨r.states,[],r.bad⟩ (round c one r):=by
  unfold round
  cases hl : r.work.getLast? with
  | none=>exact ⟨hh,fun k s h=>⟨s,h,fun _ h=>h⟩,fun k s h=>.inl h,fun k hk=>by cases hk⟩
  | some a =>
    have hw:=last_of hl
    obtain ⟨_,s,hs⟩:=hr.2.2 a (by rw [hw];simp)
    simp only [hs,Option.getD_some]
    have hp:=popped hr (r.bad || !(one a s).1)
    have hso:=ho a s (hr.2.1 a s hs)
    obtain ⟨u,cv⟩:=leads_up Γ hm G (one a s).2 hp hso
    have hbad:=(leads_ok hm (one a s).2 hp hso).2.2
    refine ⟨fun k z hz=>?_,⟨u.1,u.2.1,fun k hk=>by cases hk⟩⟩
    rcases u.2.1 k z hz with h1 | h1
    · simp only at h1
      by_cases ek : k = a
      · subst ek
        rw [hs] at h1;injection h1 with h1;subst h1
        right
        refine ⟨?_,cv⟩
        rw [hbad]
        cases (one k s).1 <;> simp
      · rcases hh k z h1 with h2 | ⟨h2,h3⟩
        · left
          rw [hw] at h2
          rcases List.mem_append.1 h2 with h2 | h2
          · exact u.2.2 k h2
          · exact absurd (by simpa using h2) ek
        · right
          refine ⟨?_,fun p hp' hlt=>?_⟩
          · rw [hbad]
            rcases h2 with h2 | h2
            · exact .inl h2
            · right;simp [h2]
          · obtain ⟨z',h4,h5⟩:=h3 p hp' hlt
            exact Cov.up Γ u ⟨z',h4,h5⟩
    · exact .inl h1
theorem iter_held (hm : Hier.may c = true) (G : Meets Γ c nl ns) {one : One} (ho : OneOk c.length nl ns one) : ∀ (n : Nat) {r : Run},RunOk c.length nl ns len r → Held Γ one len r → Held Γ one len (iter c one n r) ∧ ∀ k s,r.states.getD k none = some s → Cov Γ (iter c one n r) k s:=by
  intro n
  induction n with
  | zero=>intro r _ hh;exact ⟨hh,fun k s h=>⟨s,h,fun _ h=>h⟩⟩
  | succ n ih =>
    intro r hr hh
    obtain ⟨h1,h2⟩:=round_held Γ hm G ho hr hh
    obtain ⟨h3,h4⟩:=ih (round_ok hm ho hr).1 h1
    refine ⟨h3,fun k s hs=>?_⟩
    obtain ⟨z,h5,h6⟩:=h2.1 k s hs
    obtain ⟨z',h7,h8⟩:=h4 k z h5
    exact ⟨z',h7,fun x hx=>h8 x (h6 x hx)⟩
theorem fin_held (hm : Hier.may c = true) (G : Meets Γ c nl ns) {one : One} (ho : OneOk c.length nl ns one) {r : Run} (hr : RunOk c.length nl ns len r) (hh : Held Γ one len r) :
    (∀ k s,r.states.getD k none = some s → Cov Γ (fin c one nl ns r) k s) ∧
    ∀ k s,(fin c one nl ns r).states.getD k none = some s → ((one k s).1 = true ∨ (fin c one nl ns r).bad = true) ∧ ∀ p ∈ (one k s).2,p.1 < len → Cov Γ (fin c one nl ns r) p.1 p.2:=by
  obtain ⟨h1,h2⟩:=iter_held Γ hm G ho (meas nl ns r) hr hh
  have hw:=iter_fin hm ho (meas nl ns r) hr (Nat.le_refl _)
  refine ⟨h2,fun k s hs=>?_⟩
  rcases h1 k s hs with h | h
  · rw [hw] at h;cases h
  · exact h
end
end Flow
end Go.Proofs.Ytncmhenfgbcihab
namespace Go.Proofs.Ytncmhenfgbcihab
open Go.RowKit
set_option linter.unusedSimpArgs false
set_option linter.unusedVariables false
namespace Hpw
open Num Rd D Run Mem HierW
theorem keptf {B : Nat} {w w' : World} {b o : Nat} {x : Bool} (hb : Below B w w') (hlt : b < B) (h : w.frozen? ⟨b,o,none⟩ = x) : w'.frozen? ⟨b,o,none⟩ = x:=(World.frozen?_of_block (a:=⟨b,o,none⟩) (hb.block b hlt)).trans h
section
variable {w : World} {B : Nat} {f : Fi} {E : Ev} {L : Lay} {d : Nat}
def ShV (w : World) (B : Nat) (s : Sh) (v : Value) : Prop:=∃ vo,v = .agg #[.int .i64 s.fin,.int .i64 s.value,.int .i64 s.cls,vo,.int .i64 s.used,.int .i64 s.steps] ∧ w.ownsRow B 2 1 vo s.out.length (s.out.map (.int .i64 ·))
def RunA (w : World) (s : Sh) (c : Int) (e : Ending) (w' : World) : Prop:=∃ v,e = .returned (.tuple #[v,.int .i64 c]) ∧ ShV w' w.heap.size s v ∧ Below w.heap.size w w'
set_option maxRecDepth 100000 in
set_option maxHeartbeats 2000000 in
theorem runN {vf va vi : Value} (Hf : VFi w w.heap.size vf f) (hmay : Form.smay f = false) (entry fuel : Int) : Calls Try.prog 23 #[vf,.int .i64 entry,va,vi,.int .i64 fuel] w (RunA w Sh.nil 2):=by
  have Hf':=Lib.hid Hf
  obtain ⟨vc,vm,rfl,hc,hm⟩:=Hf
  obtain ⟨a1,c1,rfl,_⟩:=hc
  obtain ⟨a2,c2,rfl,_⟩:=hm
  obtain ⟨n1,hn1⟩ : ∃ n,n = f.classes.length:=⟨_,rfl⟩
  obtain ⟨n2,hn2⟩ : ∃ n,n = f.methods.length:=⟨_,rfl⟩
  rw [← hn1,← hn2] at Hf' ⊢
  have HM:=Lib.hid hmay
  clear hmay hn1 hn2
  go_enter Try.func23,Try.ntmps23
  go_wp2_with fail
  refine (FormW.smayV f _ _ _ HM.out (Hf'.out.mono (by exact Rd.byB) (by simp <;> omega))).mono ?_
  rintro e w1 ⟨rfl,hb1⟩
  have a0 : w1.cell? ⟨w.heap.size,0,none⟩ = some (.slice a1 n1 c1):=kept hb1 Rd.byL (by go_simp)
  have a1' : w1.cell? ⟨w.heap.size,1,none⟩ = some (.slice a2 n2 c2):=kept hb1 Rd.byL (by go_simp)
  have a2' : w1.cell? ⟨w.heap.size + 1,0,none⟩ = some (.int .i64 entry):=kept hb1 Rd.byL (by go_simp)
  have y0 : w1.cell? ⟨w.heap.size + 1 + 1,0,none⟩ = some (.int .i64 0):=kept hb1 Rd.byL (by go_simp)
  have f0 : w1.frozen? ⟨w.heap.size + 1 + 1,0,none⟩ = false:=keptf hb1 Rd.byL (by go_simp)
  have y1 : w1.cell? ⟨w.heap.size + 1 + 1,1,none⟩ = some (.int .i64 0):=kept hb1 Rd.byL (by go_simp)
  have f1 : w1.frozen? ⟨w.heap.size + 1 + 1,1,none⟩ = false:=keptf hb1 Rd.byL (by go_simp)
  have y2 : w1.cell? ⟨w.heap.size + 1 + 1,2,none⟩ = some (.int .i64 0):=kept hb1 Rd.byL (by go_simp)
  have f2 : w1.frozen? ⟨w.heap.size + 1 + 1,2,none⟩ = false:=keptf hb1 Rd.byL (by go_simp)
  have y3 : w1.cell? ⟨w.heap.size + 1 + 1,3,none⟩ = some (.slice none 0 0):=kept hb1 Rd.byL (by go_simp)
  have f3 : w1.frozen? ⟨w.heap.size + 1 + 1,3,none⟩ = false:=keptf hb1 Rd.byL (by go_simp)
  have y4 : w1.cell? ⟨w.heap.size + 1 + 1,4,none⟩ = some (.int .i64 0):=kept hb1 Rd.byL (by go_simp)
  have f4 : w1.frozen? ⟨w.heap.size + 1 + 1,4,none⟩ = false:=keptf hb1 Rd.byL (by go_simp)
  have y5 : w1.cell? ⟨w.heap.size + 1 + 1,5,none⟩ = some (.int .i64 0):=kept hb1 Rd.byL (by go_simp)
  have f5 : w1.frozen? ⟨w.heap.size + 1 + 1,5,none⟩ = false:=keptf hb1 Rd.byL (by go_simp)
  have hbw : Below w.heap.size w w1:=Below.trans (by exact Rd.byB) (hb1.mono (by simp <;> omega))
  have hsz : w.heap.size + 3 ≤ w1.heap.size:=by have:=hb1.size;simp at this;omega
  have ly:=cell_lt y0
  clear hb1
  go_wp2_with fail
  refine bodyPost_ret (v:=.tuple #[.agg #[.int .i64 0,.int .i64 0,.int .i64 0,.slice none 0 0,.int .i64 0,.int .i64 0],.int .i64 2]) (by simp [results,Try.results23,go_sem] <;> go_simp) rfl ?_
  exact ⟨_,rfl,⟨_,rfl,World.ownsRow_nil _ _ _ _⟩,by exact Rd.byB⟩
set_option maxRecDepth 100000 in
set_option maxHeartbeats 2000000 in
theorem runE {vf va vi : Value} (Hf : VFi w w.heap.size vf f) (hmay : Form.smay f = true) (entry fuel c : Int) (hc0 : c ≠ 0) (hbg : ∀ W,Below w.heap.size w W → Calls Try.prog 61 #[vf,.int .i64 entry,va,vi,.int .i64 fuel] W (BeginE W c)) : Calls Try.prog 23 #[vf,.int .i64 entry,va,vi,.int .i64 fuel] w (RunA w Sh.nil c):=by
  have Hf':=Lib.hid Hf
  have HBG:=Lib.hid hbg
  obtain ⟨vc,vm,rfl,hc,hm⟩:=Hf
  obtain ⟨a1,c1,rfl,_⟩:=hc
  obtain ⟨a2,c2,rfl,_⟩:=hm
  obtain ⟨n1,hn1⟩ : ∃ n,n = f.classes.length:=⟨_,rfl⟩
  obtain ⟨n2,hn2⟩ : ∃ n,n = f.methods.length:=⟨_,rfl⟩
  rw [← hn1,← hn2] at Hf' HBG ⊢
  have HM:=Lib.hid hmay
  clear hmay hn1 hn2
  clear hbg
  have hcb : (c != 0) = true:=by simpa using hc0
  go_enter Try.func23,Try.ntmps23
  go_wp2_with fail
  refine (FormW.smayV f _ _ _ HM.out (Hf'.out.mono (by exact Rd.byB) (by simp <;> omega))).mono ?_
  rintro e w1 ⟨rfl,hb1⟩
  have a0 : w1.cell? ⟨w.heap.size,0,none⟩ = some (.slice a1 n1 c1):=kept hb1 Rd.byL (by go_simp)
  have a1' : w1.cell? ⟨w.heap.size,1,none⟩ = some (.slice a2 n2 c2):=kept hb1 Rd.byL (by go_simp)
  have a2' : w1.cell? ⟨w.heap.size + 1,0,none⟩ = some (.int .i64 entry):=kept hb1 Rd.byL (by go_simp)
  have y0 : w1.cell? ⟨w.heap.size + 1 + 1,0,none⟩ = some (.int .i64 0):=kept hb1 Rd.byL (by go_simp)
  have f0 : w1.frozen? ⟨w.heap.size + 1 + 1,0,none⟩ = false:=keptf hb1 Rd.byL (by go_simp)
  have y1 : w1.cell? ⟨w.heap.size + 1 + 1,1,none⟩ = some (.int .i64 0):=kept hb1 Rd.byL (by go_simp)
  have f1 : w1.frozen? ⟨w.heap.size + 1 + 1,1,none⟩ = false:=keptf hb1 Rd.byL (by go_simp)
  have y2 : w1.cell? ⟨w.heap.size + 1 + 1,2,none⟩ = some (.int .i64 0):=kept hb1 Rd.byL (by go_simp)
  have f2 : w1.frozen? ⟨w.heap.size + 1 + 1,2,none⟩ = false:=keptf hb1 Rd.byL (by go_simp)
  have y3 : w1.cell? ⟨w.heap.size + 1 + 1,3,none⟩ = some (.slice none 0 0):=kept hb1 Rd.byL (by go_simp)
  have f3 : w1.frozen? ⟨w.heap.size + 1 + 1,3,none⟩ = false:=keptf hb1 Rd.byL (by go_simp)
  have y4 : w1.cell? ⟨w.heap.size + 1 + 1,4,none⟩ = some (.int .i64 0):=kept hb1 Rd.byL (by go_simp)
  have f4 : w1.frozen? ⟨w.heap.size + 1 + 1,4,none⟩ = false:=keptf hb1 Rd.byL (by go_simp)
  have y5 : w1.cell? ⟨w.heap.size + 1 + 1,5,none⟩ = some (.int .i64 0):=kept hb1 Rd.byL (by go_simp)
  have f5 : w1.frozen? ⟨w.heap.size + 1 + 1,5,none⟩ = false:=keptf hb1 Rd.byL (by go_simp)
  have hbw : Below w.heap.size w w1:=Below.trans (by exact Rd.byB) (hb1.mono (by simp <;> omega))
  have hsz : w.heap.size + 3 ≤ w1.heap.size:=by have:=hb1.size;simp at this;omega
  have ly:=cell_lt y0
  clear hb1
  go_wp2_with fail
  refine (HBG.out _ hbw).mono ?_
  rintro e w2 ⟨rfl,hb2⟩
  replace y0:=kept hb2 ly y0
  replace f0:=keptf hb2 ly f0
  replace y1:=kept hb2 ly y1
  replace f1:=keptf hb2 ly f1
  replace y2:=kept hb2 ly y2
  replace f2:=keptf hb2 ly f2
  replace y3:=kept hb2 ly y3
  replace f3:=keptf hb2 ly f3
  replace y4:=kept hb2 ly y4
  replace f4:=keptf hb2 ly f4
  replace y5:=kept hb2 ly y5
  replace f5:=keptf hb2 ly f5
  have hbw2:=hbw.trans (hb2.mono (by omega))
  have ly2:=cell_lt y0
  have ly3 : w.heap.size + 1 + 1 < w2.heap.size + 1:=by omega
  have ly4 : w.heap.size + 1 + 1 < w2.heap.size + 1 + 1:=by omega
  clear hb2
  go_wp2_with fail
  refine bodyPost_ret (v:=.tuple #[.agg #[.int .i64 0,.int .i64 0,.int .i64 0,.slice none 0 0,.int .i64 0,.int .i64 0],.int .i64 c]) (by simp [results,Try.results23,go_sem] <;> go_simp) rfl ?_
  have hsz2:=hbw2.size
  have hfin : ∀ (W : World) (j : Nat) (u : Value),Below w.heap.size w W → Below w.heap.size w (W.setCell ⟨w.heap.size + 1 + 1,j,none⟩ u):=fun W j u h=>h.setCell (by show w.heap.size ≤ w.heap.size + 1 + 1;omega) _
  have hal : ∀ (W : World) (o : Obj),Below w.heap.size w W → Below w.heap.size w (W.alloc o):=fun W o h=>h.alloc h.size _
  refine ⟨_,rfl,⟨_,rfl,World.ownsRow_nil _ _ _ _⟩,?_⟩
  repeat (first | with_reducible exact hbw2 | with_reducible apply hal | with_reducible apply hfin)
theorem begR {W w2 : World} {m : Me} {args input : List Int} {fuel : Int} {vc vm vi : Value} {e : Ending} (hno : m.params.any (fun t => decide (t.kind = 3)) = false) (h : BegR W f m args input fuel vc vm vi e w2) :
    ∃ (E : Ev) (vl : Value),e = .returned (.tuple #[.pointer (some ⟨E.hb,0,none⟩),vl,.int .i64 0]) ∧ (E.f = f ∧ E.input = input ∧ E.fuel = fuel.toNat ∧ E.B = W.heap.size ∧ E.vm = vm) ∧ PH E w2 L0 h0 0 ∧ VS w2 (own E L0) vl (List.zipWith argOf m.params args) ∧ Below W.heap.size W w2:=by
  unfold BegR at h
  rw [if_neg (by rw [hno];simp)] at h
  obtain ⟨hb,vl,rfl,H,V,hbl⟩:=h
  refine ⟨_,vl,rfl,⟨rfl,rfl,rfl,rfl,rfl⟩,H,V.mono (fun b _ hx=>?_),hbl⟩
  rcases hx with e | e | e | e
  · exact e
  · cases e
  · cases e
  · exact absurd e (by simp [L0])
theorem fiH0 {input : List Int} {fuel : Nat} : HpOk f.classes input fuel h0:=⟨Nat.zero_le _,(fun o ho=>by cases ho),(fun x hx=>by cases hx),Nat.le_refl _,Nat.zero_le _,Nat.zero_le _⟩
set_option maxRecDepth 100000 in
set_option maxHeartbeats 4000000 in
theorem runO {vf va vi : Value} {input args : List Int} {fuel : Int} (S : FiS f) (MO : MachOk SM SfB f input fuel.toNat) (Hf : VFi w w.heap.size vf f) (hmay : Form.smay f = true) (k : Nat) (hk : k < f.methods.length) (q3 : ¬ fuel < 0) (q4 : ¬ 60000 < fuel) (hi : Sl 1 EInt w w.heap.size vi input) (h3 : input.length ≤ 1000) (ha : Sl 1 EInt w w.heap.size va args) (h4 : args.length = (f.methods[k]).params.length) (hno : (f.methods[k]).params.any (fun t => decide (t.kind = 3)) = false) (hv : ∀ v ∈ List.zipWith argOf (f.methods[k]).params args, VtOk 0 v) :
    Calls Try.prog 23 #[vf,.int .i64 k,va,vi,.int .i64 fuel] w (RunA w (shown (call SM f input fuel.toNat (fuel.toNat + 1) 0 (meAt f k) (List.zipWith argOf (f.methods[k]).params args) h0)) 0):=by
  have em : f.methods[k] = meAt f k:=by unfold meAt;rw [List.getD_eq_getElem?_getD,List.getElem?_eq_getElem hk];rfl
  have Hf':=Lib.hid Hf
  have MM:=S.mes _ (List.getElem_mem hk)
  have hty : ∀ t ∈ (f.methods[k]).params,t.kind = 1 ∨ t.kind = 2 ∨ t.kind = 3:=fun t ht=>by
    have:=MM.params.2 t ht
    unfold Hier.ty at this
    split at this
    · rename_i q;omega
    · split at this
      · rename_i q;omega
      · cases this
  obtain ⟨vc,vm,rfl,hc,hm⟩:=Hf
  have HBEG : ∀ W : World,Below w.heap.size w W → Calls Try.prog 61 #[.agg #[vc,vm],.int .i64 k,va,vi,.int .i64 fuel] W (BegR W f f.methods[k] args input fuel vc vm vi):=fun W hW=>begin5 (hc.mono mCls hW (Nat.le_refl _)) (hm.mono mMe hW (Nat.le_refl _)) hW.size k hk fuel q3 q4 (hi.mono mInt hW (Nat.le_refl _)) h3 (ha.mono mInt hW (Nat.le_refl _)) h4 MM.params.1 hty
  have HCO : CallOk f input fuel.toNat (meAt f k) h0 (call SM f input fuel.toNat (fuel.toNat + 1) 0 (meAt f k) (List.zipWith argOf (f.methods[k]).params args) h0):=call_ok MO _ _ _ _ _ (meAt_mem hk) fiH0 hv (by rw [List.length_zipWith,h4,← em];omega)
  have HIV : ∀ (E : Ev),(E.f = f ∧ E.input = input ∧ E.fuel = fuel.toNat) → ∀ (W : World) (mv vl : Value),PH E W L0 h0 0 → VMe W E.B mv (meAt f k) → VS W (own E L0) vl (List.zipWith argOf (f.methods[k]).params args) → Calls Try.prog 64 #[.pointer (some ⟨E.hb,0,none⟩),mv,vl] W (InvR E L0 0 W (call SM f input fuel.toNat (fuel.toNat + 1) 0 (meAt f k) (List.zipWith argOf (f.methods[k]).params args) h0)):=fun E hE W mv vl H hmv V=>by
    obtain ⟨rfl,rfl,hEf⟩:=hE
    rw [← hEf] at MO ⊢
    exact invOk S MO (by omega) h3 20 0 rfl (E.fuel + 1) h0 (by unfold h0;simp only;omega) k _ h0 hk fiH0 rfl hv (by rw [List.length_zipWith,h4,← em];omega) L0 W mv vl (own E L0) H hmv V (fun _ e=>e)
  obtain ⟨r,hr⟩ : ∃ r,Hid (call SM f input fuel.toNat (fuel.toNat + 1) 0 (meAt f k) (List.zipWith argOf (f.methods[k]).params args) h0 = r):=⟨_,Lib.hid rfl⟩
  rw [hr.out] at HIV HCO ⊢
  obtain ⟨a1,c1,rfl,_⟩:=id hc
  obtain ⟨a2,c2,rfl,_⟩:=id hm
  obtain ⟨n1,hn1⟩ : ∃ n,n = f.classes.length:=⟨_,rfl⟩
  obtain ⟨n2,hn2⟩ : ∃ n,n = f.methods.length:=⟨_,rfl⟩
  obtain ⟨entry,hent⟩ : ∃ entry : Int,entry = (k : Int):=⟨_,rfl⟩
  rw [← hn1,← hn2,← hent] at HBEG ⊢
  rw [← hn1,← hn2] at Hf'
  replace HBEG:=Lib.hid HBEG
  replace HIV:=Lib.hid HIV
  replace HCO:=Lib.hid HCO
  have HM:=Lib.hid hmay
  have HNO:=Lib.hid hno
  have HEN:=Lib.hid hent
  clear hmay hn1 hn2 hno hv hi ha hc hm hty MM MO h3 h4 q3 q4 em hent
  go_enter Try.func23,Try.ntmps23
  go_wp2_with fail
  refine (FormW.smayV f _ _ _ HM.out (Hf'.out.mono (by exact Rd.byB) (by simp <;> omega))).mono ?_
  rintro e w1 ⟨rfl,hb1⟩
  have a0 : w1.cell? ⟨w.heap.size,0,none⟩ = some (.slice a1 n1 c1):=kept hb1 Rd.byL (by go_simp)
  have a1' : w1.cell? ⟨w.heap.size,1,none⟩ = some (.slice a2 n2 c2):=kept hb1 Rd.byL (by go_simp)
  have a2' : w1.cell? ⟨w.heap.size + 1,0,none⟩ = some (.int .i64 entry):=kept hb1 Rd.byL (by go_simp)
  have y0 : w1.cell? ⟨w.heap.size + 1 + 1,0,none⟩ = some (.int .i64 0):=kept hb1 Rd.byL (by go_simp)
  have f0 : w1.frozen? ⟨w.heap.size + 1 + 1,0,none⟩ = false:=keptf hb1 Rd.byL (by go_simp)
  have y1 : w1.cell? ⟨w.heap.size + 1 + 1,1,none⟩ = some (.int .i64 0):=kept hb1 Rd.byL (by go_simp)
  have f1 : w1.frozen? ⟨w.heap.size + 1 + 1,1,none⟩ = false:=keptf hb1 Rd.byL (by go_simp)
  have y2 : w1.cell? ⟨w.heap.size + 1 + 1,2,none⟩ = some (.int .i64 0):=kept hb1 Rd.byL (by go_simp)
  have f2 : w1.frozen? ⟨w.heap.size + 1 + 1,2,none⟩ = false:=keptf hb1 Rd.byL (by go_simp)
  have y3 : w1.cell? ⟨w.heap.size + 1 + 1,3,none⟩ = some (.slice none 0 0):=kept hb1 Rd.byL (by go_simp)
  have f3 : w1.frozen? ⟨w.heap.size + 1 + 1,3,none⟩ = false:=keptf hb1 Rd.byL (by go_simp)
  have y4 : w1.cell? ⟨w.heap.size + 1 + 1,4,none⟩ = some (.int .i64 0):=kept hb1 Rd.byL (by go_simp)
  have f4 : w1.frozen? ⟨w.heap.size + 1 + 1,4,none⟩ = false:=keptf hb1 Rd.byL (by go_simp)
  have y5 : w1.cell? ⟨w.heap.size + 1 + 1,5,none⟩ = some (.int .i64 0):=kept hb1 Rd.byL (by go_simp)
  have f5 : w1.frozen? ⟨w.heap.size + 1 + 1,5,none⟩ = false:=keptf hb1 Rd.byL (by go_simp)
  have hbw : Below w.heap.size w w1:=Below.trans (by exact Rd.byB) (hb1.mono (by simp <;> omega))
  have hsz : w.heap.size + 3 ≤ w1.heap.size:=by have:=hb1.size;simp at this;omega
  have ly:=cell_lt y0
  clear hb1
  go_wp2_with fail
  refine (HBEG.out _ hbw).mono ?_
  rintro e w2 HBG
  obtain ⟨E,vl,rfl,hE,H,V,hb2⟩:=begR HNO.out HBG
  obtain ⟨va2,vcap,hvl,_⟩:=V.len
  obtain ⟨nl,hnl⟩ : ∃ nl,nl = (List.zipWith argOf f.methods[k].params args).length:=⟨_,rfl⟩
  rw [← hnl] at hvl
  subst hvl
  clear hnl
  clear HBG
  replace y0:=kept hb2 ly y0
  replace f0:=keptf hb2 ly f0
  replace y1:=kept hb2 ly y1
  replace f1:=keptf hb2 ly f1
  replace y2:=kept hb2 ly y2
  replace f2:=keptf hb2 ly f2
  replace y3:=kept hb2 ly y3
  replace f3:=keptf hb2 ly f3
  replace y4:=kept hb2 ly y4
  replace f4:=keptf hb2 ly f4
  replace y5:=kept hb2 ly y5
  replace f5:=keptf hb2 ly f5
  replace a0:=kept hb2 (by omega) a0
  replace a1':=kept hb2 (by omega) a1'
  replace a2':=kept hb2 (by omega) a2'
  have hbw2:=hbw.trans (hb2.mono (by omega))
  have ly2:=cell_lt y0
  have ly3 : w.heap.size + 1 + 1 < w2.heap.size + 1:=by omega
  have ly4 : w.heap.size + 1 + 1 < w2.heap.size + 1 + 1:=by omega
  have hsz2:=hb2.size
  have HB2:=Lib.hid hb2
  replace H:=Lib.hid H
  replace V:=Lib.hid V
  replace hE:=Lib.hid hE
  clear hb2
  have n3 : w2.heap.size < w2.heap.size + 1:=by omega
  have hEB : E.B = w1.heap.size:=hE.out.2.2.2.1
  have nres : ¬ own E L0 (w.heap.size + 1 + 1):=fun hk=>by have:=(own_lo H.out hk).1;omega
  have nbox : ¬ own E L0 w2.heap.size:=fun hk=>by have:=(own_lo H.out hk).2;omega
  have HW : ∀ W,Below w2.heap.size w2 W → PH E W L0 h0 0:=fun W hW=>H.out.below hW
  replace HW:=Lib.hid HW
  have lw0:=cell_lt a0
  have lw2:=cell_lt a2'
  have lw0a : w.heap.size < w2.heap.size + 1:=by omega
  have lw0b : w.heap.size < w2.heap.size + 1 + 1:=by omega
  have lw2a : w.heap.size + 1 < w2.heap.size + 1:=by omega
  have lw2b : w.heap.size + 1 < w2.heap.size + 1 + 1:=by omega
  go_wp2_with fail
  refine (runsP (HW.out _ (by exact Rd.byB)) _ _ _ _ r (firstP (HW.out _ (by exact Rd.byB)) k (by rw [hE.out.1];exact hk) _ _ _ _ (.slice va2 nl vcap) r (by go_simp) (by rw [hE.out.2.2.2.2];go_simp) (by rw [← HEN.out];go_simp) (by go_simp) (fun W mv hW hmv=>?hC)) (fun o h' e=>by have:=HCO.out;rw [e] at this;exact this.2)).mono ?_
  case hC =>
    rw [hE.out.1] at hmv
    have hW2 : Below w2.heap.size w2 W:=Below.trans (by exact Rd.byB) (hW.mono (by simp <;> omega))
    exact HIV.out E ⟨hE.out.1,hE.out.2.1,hE.out.2.2.1⟩ W mv _ (HW.out _ hW2) hmv (V.out.next (Kp.of_below (X:=fun _=>False) hW2 (Nat.le_refl _)) (fun _ _ e=>e.elim) (fun _ _ e=>e))
  rintro e w4 ⟨rfl,K4,vo,B4,R4⟩
  obtain ⟨oa,oc,rfl⟩:=row_any R4
  have b0:=K4.cell (c:=w2.heap.size) (o:=0) (v:=.pointer (some ⟨E.hb,0,none⟩)) (by go_simp) nbox
  have z0:=K4.cell (c:=w.heap.size + 1 + 1) (o:=0) (v:=.int .i64 0) (by go_simp) nres
  have g0:=K4.frz (c:=w.heap.size + 1 + 1) (o:=0) (b:=false) (by go_simp) (by simp;omega) nres
  have z1:=K4.cell (c:=w.heap.size + 1 + 1) (o:=1) (v:=.int .i64 0) (by go_simp) nres
  have g1:=K4.frz (c:=w.heap.size + 1 + 1) (o:=1) (b:=false) (by go_simp) (by simp;omega) nres
  have z2:=K4.cell (c:=w.heap.size + 1 + 1) (o:=2) (v:=.int .i64 0) (by go_simp) nres
  have g2:=K4.frz (c:=w.heap.size + 1 + 1) (o:=2) (b:=false) (by go_simp) (by simp;omega) nres
  have z3:=K4.cell (c:=w.heap.size + 1 + 1) (o:=3) (v:=.slice none 0 0) (by go_simp) nres
  have g3:=K4.frz (c:=w.heap.size + 1 + 1) (o:=3) (b:=false) (by go_simp) (by simp;omega) nres
  have z4:=K4.cell (c:=w.heap.size + 1 + 1) (o:=4) (v:=.int .i64 0) (by go_simp) nres
  have g4:=K4.frz (c:=w.heap.size + 1 + 1) (o:=4) (b:=false) (by go_simp) (by simp;omega) nres
  have z5:=K4.cell (c:=w.heap.size + 1 + 1) (o:=5) (v:=.int .i64 0) (by go_simp) nres
  have g5:=K4.frz (c:=w.heap.size + 1 + 1) (o:=5) (b:=false) (by go_simp) (by simp;omega) nres
  have e2:=(B4 2 (by simp)).1
  have e3:=(B4 3 (by simp)).1
  have e4:=(B4 4 (by simp)).1
  have e5:=(B4 5 (by simp)).1
  have e6:=(B4 6 (by simp)).1
  have e7:=(B4 7 (by simp)).1
  simp only [List.getElem_cons_zero,List.getElem_cons_succ] at e2 e3 e4 e5 e6 e7
  have hK4:=Lib.hid K4
  have hR4:=Lib.hid R4
  have hlb:=cell_lt b0
  have hlz:=cell_lt z0
  have hle:=cell_lt e2
  have hnr : E.hb ≠ w.heap.size + 1 + 1:=fun e=>nres (.inl e.symm)
  have hnr2:=hnr.symm
  clear K4 R4 B4 y0 f0 y1 f1 y2 f2 y3 f3 y4 f4 y5 f5
  go_wp2_with fail
  refine bodyPost_ret (v:=.tuple #[.agg #[.int .i64 (shown r).fin,.int .i64 (shown r).value,.int .i64 (shown r).cls,.slice oa (shown r).out.length oc,.int .i64 (shown r).used,.int .i64 (shown r).steps],.int .i64 0]) (by simp [results,Try.results23,go_sem] <;> go_simp) rfl ?_
  have K : ∀ (W : World) (j : Nat) (u : Value),Kp (fun k=>k = w.heap.size + 1 + 1) w4 W → Kp (fun k=>k = w.heap.size + 1 + 1) w4 (W.setCell ⟨w.heap.size + 1 + 1,j,none⟩ u):=fun W j u K=>K.setCell (p:=⟨w.heap.size + 1 + 1,j,none⟩) (.inl rfl) u
  have KK:=K _ 5 (.int .i64 (shown r).steps) (K _ 4 (.int .i64 (shown r).used) (K _ 3 (.slice oa (shown r).out.length oc) (K _ 2 (.int .i64 (shown r).cls) (K _ 1 (.int .i64 (shown r).value) (K _ 0 (.int .i64 (shown r).fin) (Kp.refl _ w4))))))
  have KA : Kp (fun k=>w.heap.size ≤ k) w w4:=((Kp.of_below (X:=fun k=>w.heap.size ≤ k) hbw2 (Nat.le_refl _)).trans ((Kp.refl (fun _=>False) w2).alloc _ |>.alloc _) (fun _ e=>e.elim)).trans hK4.out (fun y hy=>.inl (by have:=(own_lo H.out hy).1;omega))
  refine ⟨_,rfl,⟨_,rfl,row_low (row_keep hR4.out KK (fun g hg e=>?_)) (by omega)⟩,(KA.trans KK (fun y hy=>.inl (by omega))).below (Nat.le_refl _) (fun _ e=>e)⟩
  have:=(World.ownsRow.lt hR4.out g hg).1
  omega
theorem argOf_vt {nc : Int} {t : Ty} {n : Int} (ht : Hier.ty nc t = true) (h3 : t.kind ≠ 3) (hn : Ok n) : VtOk 0 (argOf t n):=by
  unfold Hier.ty at ht
  unfold argOf
  split at ht
  · rename_i e
    by_cases e1 : t.kind = 1
    · rw [if_pos e1]
      exact ⟨⟨wrap32_ok n,by simp,by simp,by simp⟩,by simp,by simp⟩
    · rw [if_neg e1]
      refine ⟨⟨hn,?_,?_,?_⟩,?_,?_⟩ <;> simp only <;> omega
  · exact absurd ht (by simp [h3])
def srunPlay (f : Fi) (entry : Int) (args input : List Int) (fuel : Int) : Sh × Int:=if Form.smay f = true then Run.play SM f entry args input fuel else (Sh.nil,2)
theorem srun {vf va vi : Value} {input args : List Int} {entry fuel : Int} (Hf : VFi w w.heap.size vf f) (hi : Sl 1 EInt w w.heap.size vi input) (ha : Sl 1 EInt w w.heap.size va args) :
    Calls Try.prog 23 #[vf,.int .i64 entry,va,vi,.int .i64 fuel] w (RunA w (srunPlay f entry args input fuel).1 (srunPlay f entry args input fuel).2):=by
  unfold srunPlay
  cases hmay : Form.smay f
  · rw [if_neg (by simp)]
    exact runN Hf hmay entry fuel
  rw [if_pos rfl]
  have S:=fiS_of hmay
  have hn : ∀ m ∈ f.methods,∀ i ∈ m.code,Ok i.n:=by
    intro m hm i hi
    obtain ⟨_,_,_,_,hms⟩:=Hf
    obtain ⟨_,_,_,_,_,hel⟩:=hms
    obtain ⟨k,hk,rfl⟩:=List.getElem_of_mem hm
    obtain ⟨_,_,_,_,vp,vco,vh,_,_,_,_,_,_,_,_,_,_,hco,_⟩:=hel k hk
    obtain ⟨_,_,_,_,_,hec⟩:=hco
    obtain ⟨j,hj,rfl⟩:=List.getElem_of_mem hi
    obtain ⟨_,_,_,_,_,_,_,_,_,ho,_⟩:=hec j hj
    exact ho.2.2.2.2
  have hin : ∀ x ∈ input,Ok x:=by
    intro x hx
    obtain ⟨_,_,_,_,_,hel⟩:=hi
    obtain ⟨k,hk,rfl⟩:=List.getElem_of_mem hx
    obtain ⟨_,_,_,_,_,h⟩:=hel k hk
    exact h
  have har : ∀ x ∈ args,Ok x:=by
    intro x hx
    obtain ⟨_,_,_,_,_,hel⟩:=ha
    obtain ⟨k,hk,rfl⟩:=List.getElem_of_mem hx
    obtain ⟨_,_,_,_,_,h⟩:=hel k hk
    exact h
  have out : ∀ c : Int,c ≠ 0 → begin_ f entry args input fuel = c → (∀ W,Below w.heap.size w W → Calls Try.prog 61 #[vf,.int .i64 entry,va,vi,.int .i64 fuel] W (BeginE W c)) → Calls Try.prog 23 #[vf,.int .i64 entry,va,vi,.int .i64 fuel] w (RunA w (Run.play SM f entry args input fuel).1 (Run.play SM f entry args input fuel).2):=fun c h0 he h=>by
    have e : Run.play SM f entry args input fuel = (Sh.nil,c):=by unfold Run.play;rw [he,if_pos h0]
    rw [e]
    exact runE Hf hmay entry fuel c h0 h
  by_cases b0 : entry < 0 ∨ (f.methods.length : Int) ≤ entry ∨ fuel < 0 ∨ 60000 < fuel
  · exact out 4 (by decide) (by unfold begin_;rw [if_pos b0]) (fun W hW=>begin1 (Hf.mono hW hW.size) entry fuel b0)
  by_cases h3 : 1000 < input.length
  · exact out 1 (by decide) (by unfold begin_;rw [if_neg b0,if_pos h3]) (fun W hW=>begin3 (Hf.mono hW hW.size) entry fuel (by omega) (by omega) (by omega) (by omega) (hi.mono mInt hW hW.size) h3)
  obtain ⟨k,rfl⟩ : ∃ k : Nat,entry = (k : Int):=⟨entry.toNat,by omega⟩
  have hk : k < f.methods.length:=by omega
  have q3 : ¬ fuel < 0:=by omega
  have q4 : ¬ 60000 < fuel:=by omega
  have em : f.methods[k] = meAt f k:=by unfold meAt;rw [List.getD_eq_getElem?_getD,List.getElem?_eq_getElem hk];rfl
  have M:=S.mes _ (List.getElem_mem hk)
  have ek : ((k : Int)).toNat = k:=by omega
  by_cases h4 : args.length = (f.methods[k]).params.length
  · cases hany : (f.methods[k]).params.any (fun t=>decide (t.kind = 3))
    · have hb0 : begin_ f k args input fuel = 0:=by unfold begin_;rw [if_neg b0,if_neg h3,ek,← em,if_neg (by rw [hany];simp [h4])]
      have e : Run.play SM f k args input fuel = (shown (call SM f input fuel.toNat (fuel.toNat + 1) 0 (meAt f k) (List.zipWith argOf (f.methods[k]).params args) h0),0):=by unfold Run.play;rw [hb0,if_neg (by simp),ek,← em];rfl
      rw [e]
      refine runO S (smB_ok S hn hin) Hf hmay k hk q3 q4 hi (by omega) ha h4 hany (fun v hv=>?_)
      obtain ⟨i,hi2,rfl⟩:=List.getElem_of_mem hv
      rw [List.getElem_zipWith]
      simp only [List.length_zipWith] at hi2
      have ht:=M.params.2 _ (List.getElem_mem (show i < (f.methods[k]).params.length by omega))
      refine argOf_vt ht (fun e3=>?_) (har _ (List.getElem_mem _))
      have:=List.any_eq_false.1 hany _ (List.getElem_mem (show i < (f.methods[k]).params.length by omega))
      simp [e3] at this
    · obtain ⟨vc,vm,rfl,hc,hm⟩:=id Hf
      have hty : ∀ t ∈ (f.methods[k]).params,t.kind = 1 ∨ t.kind = 2 ∨ t.kind = 3:=fun t ht=>by
        have:=M.params.2 t ht
        unfold Hier.ty at this
        split at this
        · rename_i q;omega
        · split at this
          · rename_i q;omega
          · cases this
      refine out 3 (by decide) (by unfold begin_;rw [if_neg b0,if_neg h3,ek,← em,if_pos (.inr hany)]) (fun W hW=>(begin5 (hc.mono mCls hW (Nat.le_refl _)) (hm.mono mMe hW (Nat.le_refl _)) hW.size k hk fuel q3 q4 (hi.mono mInt hW (Nat.le_refl _)) (by omega) (ha.mono mInt hW (Nat.le_refl _)) h4 M.params.1 hty).mono fun e w' h=>?_)
      unfold BegR at h
      rw [if_pos hany] at h
      exact h
  · exact out 3 (by decide) (by unfold begin_;rw [if_neg b0,if_neg h3,ek,← em,if_pos (.inl h4)]) (fun W hW=>begin4 (Hf.mono hW hW.size) (Nat.le_refl _) k hk fuel q3 q4 (hi.mono mInt hW hW.size) (by omega) (ha.mono mInt hW hW.size) h4)
end
end Hpw
end Go.Proofs.Ytncmhenfgbcihab
