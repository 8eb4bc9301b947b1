/- Parts of the proof: Ke, Kf, Kg, Kh, Ki, So, Sp, Sq. -/
import Derived.Test.YtncmhenfgbcihabG16
import Derived.Deep.Cut
import Derived.Defers
import Derived.Recover
import Derived.Laws.Pointers
import Derived.Test.YtncmhenfgbcihabG15
import Derived.BigQuiet
import Derived.Deep.RegionHeld3
import Derived.Deep.RegionLaw
import Derived.BigRegion
import Derived.StillTailTactics
set_option linter.unusedSimpArgs false
set_option linter.unusedVariables false
set_option maxHeartbeats 8000000
namespace Go.Proofs.Ytncmhenfgbcihab
open Go.RowKit
namespace Rck
open Num Rd D Mem Hpw Flow HierW FormW Sck
section
variable {E:FE}{w w' w0:World}{B0 mb:Nat}{vs vk:Value}{s:State}
set_option maxRecDepth 100000 in
theorem ob13 (M:MS E w B0 mb vs vk s) (P:Paired s.slots) (hbig:s.slots.length≤1000){o:Option State}(ka:Nat) (ib ic in_:Int) (hka:ka < s.slots.length) (okb:Ok ib) (ar:Option Addr) (n cap:Nat) (ho:Hid (o=Ckr.sto s (ka:Int) ⟨3,ib⟩)):Calls Try.prog 240 #[.pointer (some ⟨mb,0,none⟩),.agg #[.int .i64 13,.int .i64 ka,.int .i64 ib,.int .i64 ic,.int .i64 in_,.slice ar n cap]] w (AnsR E B0 mb vs vk w o):=by
 have G0:=Lib.hid (Gon.start M);have hmb:=M.mbw;have nbx:¬ mo mb vs vk w.heap.size:=fun hk=>by have:=(M.mo_lo hk).2;omega
 clear M
 go_enter Try.func240,Try.ntmps240
 go_wp2_with fail
 obtain ⟨W,hW⟩:∃ W,W=w.alloc (.cells #[.int .i64 13,.int .i64 ka,.int .i64 ib,.int .i64 ic,.int .i64 in_,.slice ar n cap] 63):=⟨_,rfl⟩;have hbW:Below w.heap.size w W:=by rw [hW];exact Rd.byB
 have hsW:W.heap.size=w.heap.size+1:=by rw [hW];simp
 have b1:W.cell? ⟨w.heap.size,1,none⟩=some (.int .i64 ka):=by rw [hW];go_simp
 have b2:W.cell? ⟨w.heap.size,2,none⟩=some (.int .i64 ib):=by rw [hW];go_simp
 replace G0:=Lib.hid (G0.out.below hbW);rw [← hW];clear hW
 go_wp2_with fail
 refine Drawn.hd (fun w'=>w'.cell? ⟨w.heap.size,1,none⟩=some (.int .i64 ka)∧w'.cell? ⟨w.heap.size,2,none⟩=some (.int .i64 ib)) (hS:=by (try dsimp only);exact ⟨b1,b2⟩) (h:=fun hHeld=>?_)
 refine dT 0 10 ?_;refine dT 1 11 ?_;refine dT 2 12 ?_;refine dT 3 13 ?_;refine dT 4 14 ?_;refine dT 5 15 ?_;refine dT 6 16 ?_;refine Drawn.cl 7 (fun K hK=>?_);go_simp
 go_at_call 168
 refine (ref _ _).mono ?_;rintro e wk ⟨rfl,hbk⟩;have hbkW:Below W.heap.size W wk:=Below.trans (by exact Rd.byB) (hbk.mono Rd.byL)
 replace G0:=Lib.hid (G0.out.below hbkW);replace b1:=kept hbkW (cell_lt b1) b1;replace b2:=kept hbkW (cell_lt b2) b2
 go_wp2_with fail
 refine Drawn.bk hK (hS:=by (try dsimp only);exact ⟨b1,b2⟩) (h:=fun hHeld=>?_)
 clear hK K;refine Drawn.cl 8 (fun K hK=>?_);go_simp
 go_at_call 91
 refine (sto G0.out.M P hbig ka ⟨3,ib⟩ (tok 3 ib (by unfold Ok;omega) okb) hka (fun e=>by simp at e)).mono ?_
 rintro e w3 ⟨rfl,G3⟩;replace b1:=G3.K.cell b1 nbx;replace b2:=G3.K.cell b2 nbx;have G4:=Lib.hid (G0.out.step G3);clear G3
 go_wp2_with fail
 refine Drawn.bk hK (hS:=by (try dsimp only);exact ⟨b1,b2⟩) (h:=fun hHeld=>?_)
 clear hK K;refine dN ?_
 go_wp2
 first | go_end0 | ((try simp only [Exit.inBlock,Exit.then]);refine bodyPost_ret (results_none rfl _ _ _) rfl ?_)
 exact G4.out.yes ho.out
set_option maxRecDepth 100000 in
theorem ob16 (M:MS E w B0 mb vs vk s) (P:Paired s.slots) (hbig:s.slots.length≤1000){o:Option State}(ka:Nat) (ib ic in_:Int) (hka:ka < s.slots.length) (okb:Ok ib) (ar:Option Addr) (n cap:Nat) (ho:Hid (o=Ckr.rdk s (ka:Int) 3 fun _=>Ckr.sto s (ka:Int) ⟨3,ib⟩)):Calls Try.prog 240 #[.pointer (some ⟨mb,0,none⟩),.agg #[.int .i64 16,.int .i64 ka,.int .i64 ib,.int .i64 ic,.int .i64 in_,.slice ar n cap]] w (AnsR E B0 mb vs vk w o):=by
 have G0:=Lib.hid (Gon.start M);have hmb:=M.mbw;have nbx:¬ mo mb vs vk w.heap.size:=fun hk=>by have:=(M.mo_lo hk).2;omega
 clear M
 go_enter Try.func240,Try.ntmps240
 go_wp2_with fail
 obtain ⟨W,hW⟩:∃ W,W=w.alloc (.cells #[.int .i64 16,.int .i64 ka,.int .i64 ib,.int .i64 ic,.int .i64 in_,.slice ar n cap] 63):=⟨_,rfl⟩;have hbW:Below w.heap.size w W:=by rw [hW];exact Rd.byB
 have hsW:W.heap.size=w.heap.size+1:=by rw [hW];simp
 have b1:W.cell? ⟨w.heap.size,1,none⟩=some (.int .i64 ka):=by rw [hW];go_simp
 have b2:W.cell? ⟨w.heap.size,2,none⟩=some (.int .i64 ib):=by rw [hW];go_simp
 replace G0:=Lib.hid (G0.out.below hbW);rw [← hW];clear hW;obtain ⟨p,hp⟩:∃ p,Hid (loadB s.slots ka 3=p):=⟨_,Lib.hid rfl⟩
 cases p
 ·refine (readF G0.out.M P hbig ka 3 hka hp).mono ?_;rintro e w1 ⟨rfl,hb1⟩;refine And.intro rfl ?_;exact (G0.out.below hb1).no (ho.out.trans (rdk_f hp.out))
 obtain ⟨x,hx⟩:∃ x,Hid (loadV s.slots ka 3=x):=⟨_,Lib.hid rfl⟩;refine (readT G0.out.M P hbig ka 3 hka hx hp).mono ?_;rintro e w1 ⟨rfl,hb1⟩;replace ho:=Lib.hid (ho.out.trans (rdk_t hp.out));replace G0:=Lib.hid (G0.out.below hb1);replace b1:=kept hb1 (cell_lt b1) b1;replace b2:=kept hb1 (cell_lt b2) b2;clear hb1 hp hx;obtain ⟨W,rfl⟩:∃ W:World,W=w1:=⟨_,rfl⟩
 go_wp2_with fail
 refine Drawn.hd (fun w'=>w'.cell? ⟨w.heap.size,1,none⟩=some (.int .i64 ka)∧w'.cell? ⟨w.heap.size,2,none⟩=some (.int .i64 ib)) (hS:=by (try dsimp only);exact ⟨b1,b2⟩) (h:=fun hHeld=>?_)
 refine dT 0 87 ?_;refine dT 1 88 ?_;refine dT 2 89 ?_;refine dT 3 90 ?_;refine dT 4 91 ?_;refine dT 5 92 ?_;refine dT 6 93 ?_;refine Drawn.cl 7 (fun K hK=>?_);go_simp
 go_at_call 168
 refine (ref _ _).mono ?_;rintro e wk ⟨rfl,hbk⟩;have hbkW:Below W.heap.size W wk:=Below.trans (by exact Rd.byB) (hbk.mono Rd.byL)
 replace G0:=Lib.hid (G0.out.below hbkW);replace b1:=kept hbkW (cell_lt b1) b1;replace b2:=kept hbkW (cell_lt b2) b2
 go_wp2_with fail
 refine Drawn.bk hK (hS:=by (try dsimp only);exact ⟨b1,b2⟩) (h:=fun hHeld=>?_)
 clear hK K;refine Drawn.cl 8 (fun K hK=>?_);go_simp
 go_at_call 91
 refine (sto G0.out.M P hbig ka ⟨3,ib⟩ (tok 3 ib (by unfold Ok;omega) okb) hka (fun e=>by simp at e)).mono ?_
 rintro e w3 ⟨rfl,G3⟩;replace b1:=G3.K.cell b1 nbx;replace b2:=G3.K.cell b2 nbx;have G4:=Lib.hid (G0.out.step G3);clear G3
 go_wp2_with fail
 refine Drawn.bk hK (hS:=by (try dsimp only);exact ⟨b1,b2⟩) (h:=fun hHeld=>?_)
 clear hK K;refine dN ?_
 go_wp2
 first | go_end0 | ((try simp only [Exit.inBlock,Exit.then]);refine bodyPost_ret (results_none rfl _ _ _) rfl ?_)
 exact G4.out.yes ho.out
set_option maxRecDepth 100000 in
theorem ob17 (M:MS E w B0 mb vs vk s) (P:Paired s.slots) (hbig:s.slots.length≤1000){o:Option State}(ka kb:Nat) (ic in_:Int) (hka:ka < s.slots.length) (hkb:kb < s.slots.length) (ar:Option Addr) (n cap:Nat) (ho:Hid (o=Ckr.rdk s (kb:Int) 3 fun _=>Ckr.sto s (ka:Int) ⟨1,0⟩)):Calls Try.prog 240 #[.pointer (some ⟨mb,0,none⟩),.agg #[.int .i64 17,.int .i64 ka,.int .i64 kb,.int .i64 ic,.int .i64 in_,.slice ar n cap]] w (AnsR E B0 mb vs vk w o):=by
 have G0:=Lib.hid (Gon.start M);have hmb:=M.mbw;have nbx:¬ mo mb vs vk w.heap.size:=fun hk=>by have:=(M.mo_lo hk).2;omega
 clear M
 go_enter Try.func240,Try.ntmps240
 go_wp2_with fail
 obtain ⟨W,hW⟩:∃ W,W=w.alloc (.cells #[.int .i64 17,.int .i64 ka,.int .i64 kb,.int .i64 ic,.int .i64 in_,.slice ar n cap] 63):=⟨_,rfl⟩;have hbW:Below w.heap.size w W:=by rw [hW];exact Rd.byB
 have hsW:W.heap.size=w.heap.size+1:=by rw [hW];simp
 have b1:W.cell? ⟨w.heap.size,1,none⟩=some (.int .i64 ka):=by rw [hW];go_simp
 replace G0:=Lib.hid (G0.out.below hbW);rw [← hW];clear hW;obtain ⟨p,hp⟩:∃ p,Hid (loadB s.slots kb 3=p):=⟨_,Lib.hid rfl⟩
 cases p
 ·refine (readF G0.out.M P hbig kb 3 hkb hp).mono ?_;rintro e w1 ⟨rfl,hb1⟩;refine And.intro rfl ?_;exact (G0.out.below hb1).no (ho.out.trans (rdk_f hp.out))
 obtain ⟨x,hx⟩:∃ x,Hid (loadV s.slots kb 3=x):=⟨_,Lib.hid rfl⟩;refine (readT G0.out.M P hbig kb 3 hkb hx hp).mono ?_;rintro e w1 ⟨rfl,hb1⟩;replace ho:=Lib.hid (ho.out.trans (rdk_t hp.out));replace G0:=Lib.hid (G0.out.below hb1);replace b1:=kept hb1 (cell_lt b1) b1;clear hb1 hp hx;obtain ⟨W,rfl⟩:∃ W:World,W=w1:=⟨_,rfl⟩
 go_wp2_with fail
 refine Drawn.hd (fun w'=>w'.cell? ⟨w.heap.size,1,none⟩=some (.int .i64 ka)) (hS:=by (try dsimp only);exact b1) (h:=fun hHeld=>?_)
 refine dT 0 102 ?_;refine dT 1 103 ?_;refine dT 2 104 ?_;refine dT 3 105 ?_;refine dT 4 106 ?_;refine Drawn.cl 5 (fun K hK=>?_);go_simp
 go_at_call 238
 refine (kind _ _).mono ?_;rintro e wk ⟨rfl,hbk⟩;have hbkW:Below W.heap.size W wk:=Below.trans (by exact Rd.byB) (hbk.mono Rd.byL)
 replace G0:=Lib.hid (G0.out.below hbkW);replace b1:=kept hbkW (cell_lt b1) b1
 go_wp2_with fail
 refine Drawn.bk hK (hS:=by (try dsimp only);exact b1) (h:=fun hHeld=>?_)
 clear hK K;refine Drawn.cl 6 (fun K hK=>?_);go_simp
 go_at_call 91
 refine (sto G0.out.M P hbig ka ⟨1,0⟩ (tok0 1 (by decide)) hka (fun e=>by simp at e)).mono ?_
 rintro e w3 ⟨rfl,G3⟩;replace b1:=G3.K.cell b1 nbx;have G4:=Lib.hid (G0.out.step G3);clear G3
 go_wp2_with fail
 refine Drawn.bk hK (hS:=by (try dsimp only);exact b1) (h:=fun hHeld=>?_)
 clear hK K;refine dN ?_
 go_wp2
 first | go_end0 | ((try simp only [Exit.inBlock,Exit.then]);refine bodyPost_ret (results_none rfl _ _ _) rfl ?_)
 exact G4.out.yes ho.out
set_option maxRecDepth 100000 in
theorem ob19 (M:MS E w B0 mb vs vk s) (P:Paired s.slots) (hbig:s.slots.length≤1000){o:Option State}(ka:Nat) (ib ic in_:Int) (hka:ka < s.slots.length) (hka2:ib=2→ka+1 < s.slots.length) (ar:Option Addr) (n cap:Nat) (ho:Hid (o=Ckr.hand s (ka:Int) ib)):Calls Try.prog 240 #[.pointer (some ⟨mb,0,none⟩),.agg #[.int .i64 19,.int .i64 ka,.int .i64 ib,.int .i64 ic,.int .i64 in_,.slice ar n cap]] w (AnsR E B0 mb vs vk w o):=by
 have G0:=Lib.hid (Gon.start M);have hmb:=M.mbw;have nbx:¬ mo mb vs vk w.heap.size:=fun hk=>by have:=(M.mo_lo hk).2;omega
 clear M
 go_enter Try.func240,Try.ntmps240
 go_wp2_with fail
 obtain ⟨W,hW⟩:∃ W,W=w.alloc (.cells #[.int .i64 19,.int .i64 ka,.int .i64 ib,.int .i64 ic,.int .i64 in_,.slice ar n cap] 63):=⟨_,rfl⟩;have hbW:Below w.heap.size w W:=by rw [hW];exact Rd.byB
 have hsW:W.heap.size=w.heap.size+1:=by rw [hW];simp
 replace G0:=Lib.hid (G0.out.below hbW);rw [← hW];clear hW;refine (hand G0.out.M P hbig ka ib hka hka2 ho).mono ?_;rintro e w1 A;have A2:=Lib.hid (G0.out.fin A)
 rcases A.cases with ⟨s1,h1,rfl⟩ | ⟨h1,rfl⟩
 ·clear A h1
  go_wp2
  first | go_end0 | ((try simp only [Exit.inBlock,Exit.then]);refine bodyPost_ret (results_none rfl _ _ _) rfl ?_)
  exact A2.out
 ·refine And.intro rfl ?_;exact A2.out
set_option maxRecDepth 100000 in
theorem ob22 (M:MS E w B0 mb vs vk s) (P:Paired s.slots) (hbig:s.slots.length≤1000){o:Option State}(ka:Nat) (ib ic in_:Int) (hka:ka < s.slots.length) (ar:Option Addr) (n cap:Nat) (ho:Hid (o=Ckr.hand s (ka:Int) 3)):Calls Try.prog 240 #[.pointer (some ⟨mb,0,none⟩),.agg #[.int .i64 22,.int .i64 ka,.int .i64 ib,.int .i64 ic,.int .i64 in_,.slice ar n cap]] w (AnsR E B0 mb vs vk w o):=by
 have G0:=Lib.hid (Gon.start M);have hmb:=M.mbw;have nbx:¬ mo mb vs vk w.heap.size:=fun hk=>by have:=(M.mo_lo hk).2;omega
 clear M
 go_enter Try.func240,Try.ntmps240
 go_wp2_with fail
 obtain ⟨W,hW⟩:∃ W,W=w.alloc (.cells #[.int .i64 22,.int .i64 ka,.int .i64 ib,.int .i64 ic,.int .i64 in_,.slice ar n cap] 63):=⟨_,rfl⟩;have hbW:Below w.heap.size w W:=by rw [hW];exact Rd.byB
 have hsW:W.heap.size=w.heap.size+1:=by rw [hW];simp
 replace G0:=Lib.hid (G0.out.below hbW);rw [← hW];clear hW;refine (hand G0.out.M P hbig ka 3 hka (fun e=>by omega) ho).mono ?_
 rintro e w1 A;have A2:=Lib.hid (G0.out.fin A)
 rcases A.cases with ⟨s1,h1,rfl⟩ | ⟨h1,rfl⟩
 ·clear A h1
  go_wp2
  first | go_end0 | ((try simp only [Exit.inBlock,Exit.then]);refine bodyPost_ret (results_none rfl _ _ _) rfl ?_)
  exact A2.out
 ·refine And.intro rfl ?_;exact A2.out
set_option maxRecDepth 100000 in
theorem ob10 (M:MS E w B0 mb vs vk s) (P:Paired s.slots) (hbig:s.slots.length≤1000){o:Option State}(ia ib ic in_:Int) (ar:Option Addr) (n cap:Nat) (ho:Hid (o=some s)):Calls Try.prog 240 #[.pointer (some ⟨mb,0,none⟩),.agg #[.int .i64 10,.int .i64 ia,.int .i64 ib,.int .i64 ic,.int .i64 in_,.slice ar n cap]] w (AnsR E B0 mb vs vk w o):=by
 have G0:=Lib.hid (Gon.start M);clear M
 go_enter Try.func240,Try.ntmps240
 go_wp2
 first | go_end0 | ((try simp only [Exit.inBlock,Exit.then]);refine bodyPost_ret (results_none rfl _ _ _) rfl ?_)
 exact (G0.out.below (by exact Rd.byB)).yes ho.out
set_option maxRecDepth 100000 in
theorem ob14 (M:MS E w B0 mb vs vk s) (P:Paired s.slots) (hbig:s.slots.length≤1000){o:Option State}(ka kb:Nat) (hka:ka < s.slots.length) (hkb:kb < s.slots.length) (kc kn:Nat) (h1a:kc < E.f.classes.length) (h2a:kn < (Hier.at' E.f.classes kc).fields.length) (hka2:(Run.ftype E.f.classes kc kn).kind=2→ka+1 < s.slots.length) (ar:Option Addr) (n cap:Nat) (ho:Hid (o=Ckr.fitk E.f.classes s (kb:Int) ⟨3,(kc:Int)⟩ (Ckr.sto s (ka:Int) (Run.ftype E.f.classes kc kn)))):Calls Try.prog 240 #[.pointer (some ⟨mb,0,none⟩),.agg #[.int .i64 14,.int .i64 ka,.int .i64 kb,.int .i64 kc,.int .i64 kn,.slice ar n cap]] w (AnsR E B0 mb vs vk w o):=by
 have G0:=Lib.hid (Gon.start M);have hmb:=M.mbw;have nbx:¬ mo mb vs vk w.heap.size:=fun hk=>by have:=(M.mo_lo hk).2;omega
 have d0:=(M.blk 0 (by simp)).1
 simp only [List.getElem_cons_zero,List.getElem_cons_succ] at d0;obtain ⟨bad,hck⟩:=M.ck;have c1:=(hck 1 (by simp [ccells,meV])).1
 have r4:=(hck 4 (by simp [ccells,meV])).1
 have r5:=(hck 5 (by simp [ccells,meV])).1
 simp [ccells,meV] at c1 r4 r5;have lcb:=cell_lt c1;have hb0:=M.base;have hlow:=M.low;clear hck;clear M
 go_enter Try.func240,Try.ntmps240
 go_wp2_with fail
 obtain ⟨W,hW⟩:∃ W,W=w.alloc (.cells #[.int .i64 14,.int .i64 ka,.int .i64 kb,.int .i64 kc,.int .i64 kn,.slice ar n cap] 63):=⟨_,rfl⟩;have hbW:Below w.heap.size w W:=by rw [hW];exact Rd.byB
 have hsW:W.heap.size=w.heap.size+1:=by rw [hW];simp
 have b1:W.cell? ⟨w.heap.size,1,none⟩=some (.int .i64 ka):=by rw [hW];go_simp
 have b2:W.cell? ⟨w.heap.size,2,none⟩=some (.int .i64 kb):=by rw [hW];go_simp
 have b3:W.cell? ⟨w.heap.size,3,none⟩=some (.int .i64 kc):=by rw [hW];go_simp
 have b4:W.cell? ⟨w.heap.size,4,none⟩=some (.int .i64 kn):=by rw [hW];go_simp
 replace G0:=Lib.hid (G0.out.below hbW);replace d0:=kept hbW hmb d0;replace c1:=kept hbW lcb c1;replace r4:=kept hbW lcb r4;replace r5:=kept hbW lcb r5;rw [← hW];clear hW
 go_wp2_with fail
 refine Drawn.hd (fun w'=>w'.cell? ⟨w.heap.size,2,none⟩=some (.int .i64 kb)∧w'.cell? ⟨w.heap.size,3,none⟩=some (.int .i64 kc)) (hS:=by (try dsimp only);exact ⟨b2,b3⟩) (h:=fun hHeld=>?_)
 refine dT 0 21 ?_;refine dT 1 22 ?_;refine dT 2 23 ?_;refine dT 3 24 ?_;refine dT 4 25 ?_;refine Drawn.cl 5 (fun K hK=>?_);go_simp
 go_at_call 168
 refine (ref _ _).mono ?_;rintro e wk ⟨rfl,hbk⟩;have hbkW:Below W.heap.size W wk:=Below.trans (by exact Rd.byB) (hbk.mono Rd.byL)
 replace G0:=Lib.hid (G0.out.below hbkW);replace b1:=kept hbkW (cell_lt b1) b1;replace b2:=kept hbkW (cell_lt b2) b2;replace b3:=kept hbkW (cell_lt b3) b3;replace b4:=kept hbkW (cell_lt b4) b4;replace d0:=kept hbkW (cell_lt d0) d0;replace c1:=kept hbkW (cell_lt c1) c1;replace r4:=kept hbkW (cell_lt r4) r4;replace r5:=kept hbkW (cell_lt r5) r5
 go_wp2_with fail
 refine Drawn.bk hK (hS:=by (try dsimp only);exact ⟨b2,b3⟩) (h:=fun hHeld=>?_)
 clear hK K;refine Drawn.cl 6 (fun K hK=>?_);go_simp
 go_at_call 248
 obtain ⟨q,hq⟩:∃ q,Hid (Ckr.fit1 E.f.classes s (kb:Int) ⟨3,(kc:Int)⟩=q):=⟨_,Lib.hid rfl⟩
 cases q
 ·refine (fitN G0.out.M P hbig kb ⟨3,(kc:Int)⟩ hkb hq).mono ?_;rintro e w1 ⟨rfl,hb1⟩;refine And.intro rfl ?_;exact (G0.out.below hb1).no (ho.out.trans (fitk_f hq.out))
 refine (fitY G0.out.M P hbig kb ⟨3,(kc:Int)⟩ hkb hq).mono ?_;rintro e w1 ⟨rfl,hb1⟩;replace ho:=Lib.hid (ho.out.trans (fitk_t hq.out));replace G0:=Lib.hid (G0.out.below hb1);replace b1:=kept hb1 (cell_lt b1) b1;replace b2:=kept hb1 (cell_lt b2) b2;replace b3:=kept hb1 (cell_lt b3) b3;replace b4:=kept hb1 (cell_lt b4) b4;replace d0:=kept hb1 (cell_lt d0) d0;replace c1:=kept hb1 (cell_lt c1) c1;replace r4:=kept hb1 (cell_lt r4) r4;replace r5:=kept hb1 (cell_lt r5) r5
 go_wp2_with fail
 refine Drawn.bk hK (hS:=by (try dsimp only);exact ⟨b2,b3⟩) (h:=fun hHeld=>?_)
 clear hK K;refine dN ?_;clear hb1 hbkW hbk hq;obtain ⟨W,rfl⟩:∃ W:World,W=w1:=⟨_,rfl⟩;obtain ⟨cb,co,ccap,fb,fo,fcap,evc,x1,x2,x3,x4,lcb2,lfb,y1,y2,y3,ftok⟩:=field_cells G0.out.M h1a h2a;rw [evc] at c1;obtain ⟨⟨fk,fc⟩,hft⟩:∃ ft,Hid (Run.ftype E.f.classes kc kn=ft):=⟨_,Lib.hid rfl⟩;rw [hft.out] at y2 y3 ftok ho;have i1:(kc:Int) < E.f.classes.length:=by omega
 have i2:(kn:Int) < ((Hier.at' E.f.classes kc).fields.length:Int):=by omega
 go_wp2_with fail
 rw [hft.out] at hka2
 go_still_tail 22,(by kernel_rfl)
 go_wp2_with fail
 refine (sto (G0.out.M.below (w':=W.drew) (by exact Rd.byB)) P hbig ka ⟨fk,fc⟩ ftok hka hka2).mono ?_
 rintro e w3 ⟨rfl,G3⟩;have G4:=Lib.hid ((G0.out.below (w':=W.drew) (by exact Rd.byB)).step G3)
 clear G3
 go_wp2
 first | go_end0 | ((try simp only [Exit.inBlock,Exit.then]);refine bodyPost_ret (results_none rfl _ _ _) rfl ?_)
 exact G4.out.yes ho.out
set_option maxRecDepth 100000 in
theorem ob15 (M:MS E w B0 mb vs vk s) (P:Paired s.slots) (hbig:s.slots.length≤1000){o:Option State}(ka kb:Nat) (hka:ka < s.slots.length) (hkb:kb < s.slots.length) (kc kn:Nat) (h1a:kc < E.f.classes.length) (h2a:kn < (Hier.at' E.f.classes kc).fields.length) (ar:Option Addr) (n cap:Nat) (ho:Hid (o=Ckr.fitk E.f.classes s (kb:Int) ⟨3,(kc:Int)⟩ (Ckr.fitk E.f.classes s (ka:Int) (Run.ftype E.f.classes kc kn) (some s)))):Calls Try.prog 240 #[.pointer (some ⟨mb,0,none⟩),.agg #[.int .i64 15,.int .i64 ka,.int .i64 kb,.int .i64 kc,.int .i64 kn,.slice ar n cap]] w (AnsR E B0 mb vs vk w o):=by
 have G0:=Lib.hid (Gon.start M);have hmb:=M.mbw;have nbx:¬ mo mb vs vk w.heap.size:=fun hk=>by have:=(M.mo_lo hk).2;omega
 have d0:=(M.blk 0 (by simp)).1
 simp only [List.getElem_cons_zero,List.getElem_cons_succ] at d0;obtain ⟨bad,hck⟩:=M.ck;have c1:=(hck 1 (by simp [ccells,meV])).1
 have r4:=(hck 4 (by simp [ccells,meV])).1
 have r5:=(hck 5 (by simp [ccells,meV])).1
 simp [ccells,meV] at c1 r4 r5;have lcb:=cell_lt c1;have hb0:=M.base;have hlow:=M.low;clear hck;clear M
 go_enter Try.func240,Try.ntmps240
 go_wp2_with fail
 obtain ⟨W,hW⟩:∃ W,W=w.alloc (.cells #[.int .i64 15,.int .i64 ka,.int .i64 kb,.int .i64 kc,.int .i64 kn,.slice ar n cap] 63):=⟨_,rfl⟩;have hbW:Below w.heap.size w W:=by rw [hW];exact Rd.byB
 have hsW:W.heap.size=w.heap.size+1:=by rw [hW];simp
 have b1:W.cell? ⟨w.heap.size,1,none⟩=some (.int .i64 ka):=by rw [hW];go_simp
 have b2:W.cell? ⟨w.heap.size,2,none⟩=some (.int .i64 kb):=by rw [hW];go_simp
 have b3:W.cell? ⟨w.heap.size,3,none⟩=some (.int .i64 kc):=by rw [hW];go_simp
 have b4:W.cell? ⟨w.heap.size,4,none⟩=some (.int .i64 kn):=by rw [hW];go_simp
 replace G0:=Lib.hid (G0.out.below hbW);replace d0:=kept hbW hmb d0;replace c1:=kept hbW lcb c1;replace r4:=kept hbW lcb r4;replace r5:=kept hbW lcb r5;rw [← hW];clear hW
 go_wp2_with fail
 refine Drawn.hd (fun w'=>w'.cell? ⟨w.heap.size,2,none⟩=some (.int .i64 kb)∧w'.cell? ⟨w.heap.size,3,none⟩=some (.int .i64 kc)) (hS:=by (try dsimp only);exact ⟨b2,b3⟩) (h:=fun hHeld=>?_)
 refine dT 0 53 ?_;refine dT 1 54 ?_;refine dT 2 55 ?_;refine dT 3 56 ?_;refine dT 4 57 ?_;refine Drawn.cl 5 (fun K hK=>?_);go_simp
 go_at_call 168
 refine (ref _ _).mono ?_;rintro e wk ⟨rfl,hbk⟩;have hbkW:Below W.heap.size W wk:=Below.trans (by exact Rd.byB) (hbk.mono Rd.byL)
 replace G0:=Lib.hid (G0.out.below hbkW);replace b1:=kept hbkW (cell_lt b1) b1;replace b2:=kept hbkW (cell_lt b2) b2;replace b3:=kept hbkW (cell_lt b3) b3;replace b4:=kept hbkW (cell_lt b4) b4;replace d0:=kept hbkW (cell_lt d0) d0;replace c1:=kept hbkW (cell_lt c1) c1;replace r4:=kept hbkW (cell_lt r4) r4;replace r5:=kept hbkW (cell_lt r5) r5
 go_wp2_with fail
 refine Drawn.bk hK (hS:=by (try dsimp only);exact ⟨b2,b3⟩) (h:=fun hHeld=>?_)
 clear hK K;refine Drawn.cl 6 (fun K hK=>?_);go_simp
 go_at_call 248
 obtain ⟨q,hq⟩:∃ q,Hid (Ckr.fit1 E.f.classes s (kb:Int) ⟨3,(kc:Int)⟩=q):=⟨_,Lib.hid rfl⟩
 cases q
 ·refine (fitN G0.out.M P hbig kb ⟨3,(kc:Int)⟩ hkb hq).mono ?_;rintro e w1 ⟨rfl,hb1⟩;refine And.intro rfl ?_;exact (G0.out.below hb1).no (ho.out.trans (fitk_f hq.out))
 refine (fitY G0.out.M P hbig kb ⟨3,(kc:Int)⟩ hkb hq).mono ?_;rintro e w1 ⟨rfl,hb1⟩;replace ho:=Lib.hid (ho.out.trans (fitk_t hq.out));replace G0:=Lib.hid (G0.out.below hb1);replace b1:=kept hb1 (cell_lt b1) b1;replace b2:=kept hb1 (cell_lt b2) b2;replace b3:=kept hb1 (cell_lt b3) b3;replace b4:=kept hb1 (cell_lt b4) b4;replace d0:=kept hb1 (cell_lt d0) d0;replace c1:=kept hb1 (cell_lt c1) c1;replace r4:=kept hb1 (cell_lt r4) r4;replace r5:=kept hb1 (cell_lt r5) r5
 go_wp2_with fail
 refine Drawn.bk hK (hS:=by (try dsimp only);exact ⟨b2,b3⟩) (h:=fun hHeld=>?_)
 clear hK K;refine dN ?_;clear hb1 hbkW hbk hq;obtain ⟨W,rfl⟩:∃ W:World,W=w1:=⟨_,rfl⟩;obtain ⟨cb,co,ccap,fb,fo,fcap,evc,x1,x2,x3,x4,lcb2,lfb,y1,y2,y3,ftok⟩:=field_cells G0.out.M h1a h2a;rw [evc] at c1;obtain ⟨⟨fk,fc⟩,hft⟩:∃ ft,Hid (Run.ftype E.f.classes kc kn=ft):=⟨_,Lib.hid rfl⟩;rw [hft.out] at y2 y3 ftok ho;have i1:(kc:Int) < E.f.classes.length:=by omega
 have i2:(kn:Int) < ((Hier.at' E.f.classes kc).fields.length:Int):=by omega
 go_wp2_with fail
 go_still_tail 20,(by kernel_rfl)
 go_wp2_with fail
 obtain ⟨q,hq⟩:∃ q,Hid (Ckr.fit1 E.f.classes s (ka:Int) ⟨fk,fc⟩=q):=⟨_,Lib.hid rfl⟩
 cases q
 ·refine (fitN (G0.out.M.below (w':=W.drew) (by exact Rd.byB)) P hbig ka ⟨fk,fc⟩ hka hq).mono ?_
  rintro e w1 ⟨rfl,hb1⟩;refine And.intro rfl ?_;exact ((G0.out.below (w':=W.drew) (by exact Rd.byB)).below hb1).no (ho.out.trans (fitk_f hq.out))
 refine (fitY (G0.out.M.below (w':=W.drew) (by exact Rd.byB)) P hbig ka ⟨fk,fc⟩ hka hq).mono ?_
 rintro e w1 ⟨rfl,hb1⟩;have G4:=Lib.hid ((G0.out.below (w':=W.drew) (by exact Rd.byB)).below hb1)
 replace ho:=Lib.hid (ho.out.trans (fitk_t hq.out))
 go_wp2
 first | go_end0 | ((try simp only [Exit.inBlock,Exit.then]);refine bodyPost_ret (results_none rfl _ _ _) rfl ?_)
 exact G4.out.yes ho.out
set_option maxRecDepth 100000 in
theorem ob20v (M:MS E w B0 mb vs vk s) (P:Paired s.slots) (hbig:s.slots.length≤1000){o:Option State}(ia ib ic in_:Int) (hr:E.m.ret.kind=0) (ar:Option Addr) (n cap:Nat) (ho:Hid (o=some s)):Calls Try.prog 240 #[.pointer (some ⟨mb,0,none⟩),.agg #[.int .i64 20,.int .i64 ia,.int .i64 ib,.int .i64 ic,.int .i64 in_,.slice ar n cap]] w (AnsR E B0 mb vs vk w o):=by
 have G0:=Lib.hid (Gon.start M);have hmb:=M.mbw;have hmb1:mb < w.heap.size+1:=by omega
 have d0:=(M.blk 0 (by simp)).1
 simp only [List.getElem_cons_zero,List.getElem_cons_succ] at d0;obtain ⟨bad,hck⟩:=M.ck;have c1:=(hck 1 (by simp [ccells,meV])).1
 have r4:=(hck 4 (by simp [ccells,meV])).1
 have r5:=(hck 5 (by simp [ccells,meV])).1
 simp [ccells,meV] at c1 r4 r5;have lcb:=cell_lt c1;have hb0:=M.base;have hlow:=M.low;clear hck;have lcb1:E.cb < w.heap.size+1:=by omega
 rw [hr] at r4;clear M
 go_enter Try.func240,Try.ntmps240
 go_wp2
 first | go_end0 | ((try simp only [Exit.inBlock,Exit.then]);refine bodyPost_ret (results_none rfl _ _ _) rfl ?_)
 exact (G0.out.below (by exact Rd.byB)).yes ho.out
set_option maxRecDepth 100000 in
theorem ob20 (M:MS E w B0 mb vs vk s) (P:Paired s.slots) (hbig:s.slots.length≤1000){o:Option State}(ka:Nat) (ib ic in_:Int) (hka:ka < s.slots.length) (hr:E.m.ret.kind≠0) (ar:Option Addr) (n cap:Nat) (ho:Hid (o=Ckr.fitk E.f.classes s (ka:Int) E.m.ret (some s))):Calls Try.prog 240 #[.pointer (some ⟨mb,0,none⟩),.agg #[.int .i64 20,.int .i64 ka,.int .i64 ib,.int .i64 ic,.int .i64 in_,.slice ar n cap]] w (AnsR E B0 mb vs vk w o):=by
 have G0:=Lib.hid (Gon.start M);have hmb:=M.mbw;have nbx:¬ mo mb vs vk w.heap.size:=fun hk=>by have:=(M.mo_lo hk).2;omega
 have d0:=(M.blk 0 (by simp)).1
 simp only [List.getElem_cons_zero,List.getElem_cons_succ] at d0;obtain ⟨bad,hck⟩:=M.ck;have c1:=(hck 1 (by simp [ccells,meV])).1
 have r4:=(hck 4 (by simp [ccells,meV])).1
 have r5:=(hck 5 (by simp [ccells,meV])).1
 simp [ccells,meV] at c1 r4 r5;have lcb:=cell_lt c1;have hb0:=M.base;have hlow:=M.low;clear hck;obtain ⟨⟨rk,rc⟩,hrt⟩:∃ x,Hid (E.m.ret=x):=⟨_,Lib.hid rfl⟩;rw [hrt.out] at r4 r5 ho hr;simp only at r4 r5 hr;have q0:(rk != 0)=true:=by simpa using hr
 have lcb1:E.cb < w.heap.size+1:=by omega
 have hmb1:mb < w.heap.size+1:=by omega
 clear M
 go_enter Try.func240,Try.ntmps240
 go_wp2_with fail
 obtain ⟨W,hW⟩:∃ W,W=w.alloc (.cells #[.int .i64 20,.int .i64 ka,.int .i64 ib,.int .i64 ic,.int .i64 in_,.slice ar n cap] 63):=⟨_,rfl⟩;have hbW:Below w.heap.size w W:=by rw [hW];exact Rd.byB
 have hsW:W.heap.size=w.heap.size+1:=by rw [hW];simp
 have b1:W.cell? ⟨w.heap.size,1,none⟩=some (.int .i64 ka):=by rw [hW];go_simp
 replace G0:=Lib.hid (G0.out.below hbW);replace d0:=kept hbW hmb d0;replace c1:=kept hbW lcb c1;replace r4:=kept hbW lcb r4;replace r5:=kept hbW lcb r5;rw [← hW];clear hW
 go_still_tail 11,(by kernel_rfl)
 go_wp2_with fail
 obtain ⟨q,hq⟩:∃ q,Hid (Ckr.fit1 E.f.classes s (ka:Int) ⟨rk,rc⟩=q):=⟨_,Lib.hid rfl⟩
 cases q
 ·refine (fitN (G0.out.M.below (w':=W.drew) (by exact Rd.byB)) P hbig ka ⟨rk,rc⟩ hka hq).mono ?_
  rintro e w1 ⟨rfl,hb1⟩;refine And.intro rfl ?_;exact ((G0.out.below (w':=W.drew) (by exact Rd.byB)).below hb1).no (ho.out.trans (fitk_f hq.out))
 refine (fitY (G0.out.M.below (w':=W.drew) (by exact Rd.byB)) P hbig ka ⟨rk,rc⟩ hka hq).mono ?_
 rintro e w1 ⟨rfl,hb1⟩;have G4:=Lib.hid ((G0.out.below (w':=W.drew) (by exact Rd.byB)).below hb1)
 replace ho:=Lib.hid (ho.out.trans (fitk_t hq.out))
 go_wp2
 first | go_end0 | ((try simp only [Exit.inBlock,Exit.then]);refine bodyPost_ret (results_none rfl _ _ _) rfl ?_)
 exact G4.out.yes ho.out
end
end Rck
namespace Rck
open Num Rd D Mem Hpw Flow HierW FormW Sck
section
variable {E:FE}{w w' w0:World}{B0 mb:Nat}{vs vk:Value}{s:State}
theorem method_cells (M:MS E w B0 mb vs vk s){ka:Nat}(h1:ka < E.f.methods.length) :
  ∃ cb co ccap pa pcap,E.vm=.slice (some ⟨cb,co,none⟩) E.f.methods.length ccap∧E.f.methods.length≤ccap∧ccap≤9223372036854775807∧cb < B0 ∧
   (w.cell? ⟨cb,co+ka*8,none⟩=some (.slice pa (Run.meAt E.f ka).params.length pcap)∧w.cell? ⟨cb,co+ka*8+1,none⟩=some (.int .i64 (Run.meAt E.f ka).ret.kind)∧w.cell? ⟨cb,co+ka*8+2,none⟩=some (.int .i64 (Run.meAt E.f ka).ret.cls)) ∧
   Sl 2 ETy w B0 (.slice pa (Run.meAt E.f ka).params.length pcap) (Run.meAt E.f ka).params∧TOk (Run.meAt E.f ka).ret:=by
 obtain ⟨a,ccap,e,c1,c2,hel⟩:=M.mes;obtain ⟨cb,co,rfl,hcb,vp,vc,vh,g0,g1,g2,g3,g4,g5,g6,g7,oks,s1,s2,s3⟩:=hel ka h1;have ea:Run.meAt E.f ka=E.f.methods[ka]:=by unfold Run.meAt;rw [List.getD_eq_getElem?_getD,List.getElem?_eq_getElem h1];rfl
 rw [ea];have S1:=s1;obtain ⟨pa,pcap,rfl,_⟩:=s1;exact ⟨cb,co,ccap,pa,pcap,e,c1,c2,hcb,⟨g0,g1,g2⟩,S1,oks.1,oks.2.1⟩
theorem fitAll_drop {c:List Cls}{xs:List Int}{ts:List Ty}{j:Nat}(h1:j < xs.length) (h2:j < ts.length):Ckr.fitAll c s (xs.drop j) (ts.drop j)=(Ckr.fit1 c s xs[j] ts[j] && Ckr.fitAll c s (xs.drop (j+1)) (ts.drop (j+1))):=by
 rw [List.drop_eq_getElem_cons h1,List.drop_eq_getElem_cons h2];rfl
set_option maxRecDepth 100000 in
theorem ob18 (M:MS E w B0 mb vs vk s) (P:Paired s.slots) (hbig:s.slots.length≤1000){o:Option State}(ka:Nat) (ib ic in_:Int) (iargs:List Int) (hka:ka < E.f.methods.length) (hl:iargs.length=(Run.meAt E.f ka).params.length) (hp4:(Run.meAt E.f ka).params.length≤4)
  (hreg:∀ j,j < (Run.meAt E.f ka).params.length→0≤iargs.getD j 0∧(iargs.getD j 0).toNat < s.slots.length) (ar:Option Addr) (n cap:Nat) (hargs:Sl 1 EInt w B0 (.slice ar n cap) iargs) (ho:Hid (o=if Ckr.fitAll E.f.classes s iargs (Run.meAt E.f ka).params=true then some s else none)) :
  Calls Try.prog 240 #[.pointer (some ⟨mb,0,none⟩),.agg #[.int .i64 18,.int .i64 ka,.int .i64 ib,.int .i64 ic,.int .i64 in_,.slice ar n cap]] w (AnsR E B0 mb vs vk w o):=by
 obtain ⟨a2,acap,eargs,q1,q2,hela⟩:=hargs;simp only [Value.slice.injEq] at eargs;obtain ⟨rfl,rfl,rfl⟩:=eargs;have HELA:=Lib.hid hela;clear hela;have HM:=Lib.hid M;have G0:=Lib.hid (Gon.start M);have hmb:=M.mbw;have hmb1:mb < w.heap.size+1:=by omega
 have nbx:¬ mo mb vs vk w.heap.size:=fun hk=>by have:=(M.mo_lo hk).2;omega
 have d0:=(M.blk 0 (by simp)).1
 simp only [List.getElem_cons_zero,List.getElem_cons_succ] at d0;obtain ⟨bad,hck⟩:=M.ck;have c2:=(hck 2 (by simp [ccells,meV])).1
 simp [ccells,meV] at c2;have lcb:=cell_lt c2;have lcb1:E.cb < w.heap.size+1:=by omega
 have hb0:=M.base;have hlow:=M.low;obtain ⟨cb,co,ccap,pa,pcap,evm,x1,x2,hcb,⟨g0,g1,g2⟩,HP,rok⟩:=method_cells M hka;rw [evm] at c2;obtain ⟨cm,hcm⟩:∃ cm,Hid (Run.meAt E.f ka=cm):=⟨_,Lib.hid rfl⟩;rw [hcm.out] at g0 g1 g2 HP rok ho hp4 hl hreg;clear hck M rok;have lcb2:cb < w.heap.size:=by omega
 have lcb3:cb < w.heap.size+1:=by omega
 have i1:(ka:Int) < E.f.methods.length:=by omega
 obtain ⟨np,hnp⟩:∃ np,cm.params.length=np:=⟨_,rfl⟩;rw [hnp] at g0 hp4 hl hreg;obtain ⟨pa2,pcap2,e2,p1,p2,hel⟩:=HP;simp only [Value.slice.injEq] at e2;obtain ⟨rfl,_,rfl⟩:=e2;rw [hnp] at p1;have hel':=Lib.hid hel;have hreg':=Lib.hid hreg;clear hel hreg;have hl':=Lib.hid hl;rw [hl] at q1 ⊢;clear hl;have ho2:Hid (o=if Ckr.fitAll E.f.classes s (iargs.drop 0) (cm.params.drop 0)=true then some s else none):=by show _=_;rw [List.drop_zero,List.drop_zero];exact ho.out
 go_enter Try.func240,Try.ntmps240
 go_wp2_with fail
 go_region
 go_wp2_with fail
 go_loopw [125] (fun c wr=>∃ (j:Nat),c=.int .i64 j∧j≤np∧Hid (Gon E B0 mb vs vk w wr s)∧Hid (o=if Ckr.fitAll E.f.classes s (iargs.drop j) (cm.params.drop j)=true then some s else none)∧wr.cell? ⟨w.heap.size,5,none⟩=some (.slice ar np cap)) (fun c _=>np - (intOf c).toNat)
 case atStart=>exact ⟨0,rfl,Nat.zero_le _,Lib.hid (G0.out.below (by exact Rd.byB)),ho2,by go_simp⟩
 case round =>
  obtain ⟨j,rfl,hj,HG,HO,x5⟩:=hrel;have lbx:=cell_lt x5;have hbB:Below B0 w wr:=HM.out.kb HG.out.K;have hszr:=HG.out.K.size;clear g0 g1 g2 c2 d0 G0
  by_cases hlt:j < np
  ·have hkl:j < cm.params.length:=by omega
   have hal:j < iargs.length:=by rw [hl'.out];exact hlt
   obtain ⟨pb,po,rfl,hpb,t0,t1,_⟩:=hel'.out j hkl;obtain ⟨ab,ao,rfl,hab,a0,_⟩:=HELA.out j hal;replace t0:=kept hbB hpb t0;replace t1:=kept hbB hpb t1;replace a0:=kept hbB hab a0;obtain ⟨⟨tk,tc⟩,ht⟩:∃ t,Hid (cm.params[j]=t):=⟨_,Lib.hid rfl⟩;rw [ht.out] at t0 t1;simp only at t0 t1;have hr0:=hreg'.out j hlt;rw [List.getD_eq_getElem?_getD,List.getElem?_eq_getElem hal,Option.getD_some] at hr0;obtain ⟨kr,hkr⟩:∃ kr:Nat,Hid (iargs[j]=(kr:Int)):=⟨(iargs[j]).toNat,Lib.hid (by omega)⟩
   rw [hkr.out] at a0 hr0;have hkl2:kr < s.slots.length:=by omega
   rw [Nat.mul_one] at a0;obtain ⟨q,hq⟩:∃ q,Hid (Ckr.fit1 E.f.classes s (kr:Int) ⟨tk,tc⟩=q):=⟨_,Lib.hid rfl⟩
   have HO2:Hid (o=if (q && Ckr.fitAll E.f.classes s (iargs.drop (j+1)) (cm.params.drop (j+1)))=true then some s else none):=by
    show _=_
    rw [HO.out,fitAll_drop hal hkl,hkr.out,ht.out,hq.out]
   clear HO hr0;have i2:(j:Int) < np:=by omega
   have lpb:=cell_lt t0;have lab:=cell_lt a0
   go_upto_region 20 with (fail)
   obtain ⟨W2,hW2⟩:∃ W2,W2=wr.alloc (.cells #[.int .i64 tk,.int .i64 tc] 51):=⟨_,rfl⟩;have y0:W2.cell? ⟨wr.heap.size,0,none⟩=some (.int .i64 tk):=by rw [hW2];go_simp
   have y1:W2.cell? ⟨wr.heap.size,1,none⟩=some (.int .i64 tc):=by rw [hW2];go_simp
   have hb2:Below wr.heap.size wr W2:=by rw [hW2];exact Rd.byB
   have z5:=kept hb2 lbx x5;have z0:=kept hb2 lab a0;rw [← hW2];clear hW2;have G2:=Lib.hid (HG.out.below hb2)
   go_wp2_with fail
   go_still_tail 7,(by kernel_rfl)
   go_wp2_with fail
   cases q
   ·refine (fitN (G2.out.M.below (w':=W2.drew) (by exact Rd.byB)) P hbig kr ⟨tk,tc⟩ hkl2 hq).mono ?_
    rintro e w1 ⟨rfl,hb1⟩;refine And.intro rfl ?_;exact ((G2.out.below (w':=W2.drew) (by exact Rd.byB)).below hb1).no (by rw [HO2.out];simp)
   ·refine (fitY (G2.out.M.below (w':=W2.drew) (by exact Rd.byB)) P hbig kr ⟨tk,tc⟩ hkl2 hq).mono ?_
    rintro e w1 ⟨rfl,hb1⟩;have G4:=Lib.hid ((G2.out.below (w':=W2.drew) (by exact Rd.byB)).below hb1)
    have v5:=kept (Below.trans (by exact Rd.byB) (hb1.mono Rd.byL):Below W2.heap.size W2 w1) (cell_lt z5) z5
    go_wp2_with fail
    exact ⟨⟨j+1,by simp,hlt,G4,Lib.hid (by rw [HO2.out,Bool.true_and]),v5⟩,by simp only [intOf];omega⟩
  ·obtain rfl:j=np:=by omega
   have HO2:Hid (o=some s):=by
    show _=_
    rw [HO.out,List.drop_of_length_le (l:=cm.params) (by omega)]
    have e:Ckr.fitAll E.f.classes s (iargs.drop j) []=true:=by unfold Ckr.fitAll;rfl
    rw [e,if_pos rfl]
   go_wp2
   first | go_end0 | ((try simp only [Exit.inBlock,Exit.then]);refine bodyPost_ret (results_none rfl _ _ _) rfl ?_)
   exact HG.out.yes HO2.out
end
end Rck
namespace Rck
open Num Rd D Mem Hpw Flow HierW FormW Sck
section
variable {E:FE}{w0 w w':World}{B0 mb:Nat}{vs vk:Value}{s:State}
set_option maxRecDepth 100000 in
theorem dobj (M:MS E w B0 mb vs vk s){o:Option State}(op ia ib ic in_:Int) (a:Option Addr) (n cap:Nat) (hn:op≠1∧op≠2∧op≠24∧op≠3∧op≠4∧op≠5∧op≠6∧op≠7∧op≠8∧op≠9∧op≠11∧op≠12∧op≠21∧op≠23)
  (hob:∀ W,Below w.heap.size w W→MS E W B0 mb vs vk s→Calls Try.prog 240 #[.pointer (some ⟨mb,0,none⟩),.agg #[.int .i64 op,.int .i64 ia,.int .i64 ib,.int .i64 ic,.int .i64 in_,.slice a n cap]] W (AnsR E B0 mb vs vk W o)) :
  Calls Try.prog 208 #[.pointer (some ⟨mb,0,none⟩),.agg #[.int .i64 op,.int .i64 ia,.int .i64 ib,.int .i64 ic,.int .i64 in_,.slice a n cap]] w (AnsR E B0 mb vs vk w o):=by
 obtain ⟨h1,h2,h24,h3,h4,h5,h6,h7,h8,h9,h11,h12,h21,h23⟩:=hn;have q1:(op==1)=false:=by simpa using h1
 have q2:(op==2)=false:=by simpa using h2
 have q24:(op==24)=false:=by simpa using h24
 have q3:(op==3)=false:=by simpa using h3
 have q4:(op==4)=false:=by simpa using h4
 have q5:(op==5)=false:=by simpa using h5
 have q6:(op==6)=false:=by simpa using h6
 have q7:(op==7)=false:=by simpa using h7
 have q8:(op==8)=false:=by simpa using h8
 have q9:(op==9)=false:=by simpa using h9
 have q11:(op==11)=false:=by simpa using h11
 have q12:(op==12)=false:=by simpa using h12
 have q21:(op==21)=false:=by simpa using h21
 have q23:(op==23)=false:=by simpa using h23
 clear h1 h2 h24 h3 h4 h5 h6 h7 h8 h9 h11 h12 h21 h23;have G0:=Lib.hid (Gon.start M);clear M
 go_enter Try.func208,Try.ntmps208
 go_wp2_with fail
 refine (hob _ (by exact Rd.byB) (G0.out.below (by exact Rd.byB)).M).mono ?_
 rintro e w1 A;have A2:=Lib.hid ((G0.out.below (by exact Rd.byB)).fin A)
 rcases A.cases with ⟨s1,h1,rfl⟩ | ⟨h1,rfl⟩
 ·clear A h1
  go_wp2
  first | go_end0 | ((try simp only [Exit.inBlock,Exit.then]);refine bodyPost_ret (results_none rfl _ _ _) rfl ?_)
  exact A2.out
 ·refine And.intro rfl ?_;exact A2.out
theorem nat_of {x:Int}(h:0≤x):∃ k:Nat,x=(k:Int):=⟨x.toNat,by omega⟩
theorem nf_at {l:List Cls}{a:Int}(h:0≤a∧a < l.length):Form.nf l a=(Hier.at' l a.toNat).fields.length:=by
 unfold Form.nf;first | rfl | (rw [if_pos h]) | simp [h]
theorem does {i:Ins}(M:MS E w B0 mb vs vk s) (S:Run.FiR E.f) (MM:Run.MeR E.f E.m) (hi:Ckr.Sd E.f E.m i) (G:Chk.Gd E.f.classes.length E.m.regs.toNat 1 s) (okb:Ok i.b) (a:Option Addr) (n cap:Nat) (hargs:Sl 1 EInt w B0 (.slice a n cap) i.args) :
  Calls Try.prog 208 #[.pointer (some ⟨mb,0,none⟩),.agg #[.int .i64 i.op,.int .i64 i.a,.int .i64 i.b,.int .i64 i.c,.int .i64 i.n,.slice a n cap]] w (AnsR E B0 mb vs vk w (Ckr.does E.f E.m i s)):=by
 have hrg:=MM.regs;have hlen:=G.len;have P:=G.pair;have hbig:s.slots.length≤1000:=by omega
 obtain ⟨op,ia,ib,ic,in_,iargs⟩:=i;simp only at okb hargs;have hop:=hi.op;simp only at hop;have hM:=M
 by_cases q1:op=1
 ·subst q1;have ga:=hi.a1 (.inl rfl);simp only at ga;obtain ⟨ka,rfl⟩:=nat_of ga.pos;have hka:ka < s.slots.length:=by have:=ga.lo;omega
  exact op1 M P hbig ka ib ic in_ hka a n cap (Lib.hid rfl)
 by_cases q2:op=2
 ·subst q2;have ga:=hi.a2 (.inl rfl);simp only at ga;obtain ⟨ka,rfl⟩:=nat_of ga.pos;have hka:ka < s.slots.length:=by have:=ga.lo;omega
  have hka2:ka+1 < s.slots.length:=by have:=ga.hi rfl;omega
  exact op2 M P hbig ka ib ic in_ hka hka2 a n cap (Lib.hid rfl)
 by_cases q24:op=24
 ·subst q24;have ga:=hi.a2 (.inr (.inl rfl));simp only at ga;obtain ⟨ka,rfl⟩:=nat_of ga.pos;have hka:ka < s.slots.length:=by have:=ga.lo;omega
  have hka2:ka+1 < s.slots.length:=by have:=ga.hi rfl;omega
  exact op24 M P hbig ka ib ic in_ hka hka2 a n cap (Lib.hid rfl)
 by_cases q3:op=3
 ·subst q3;have ga:=hi.a3 (.inl rfl);simp only at ga;obtain ⟨ka,rfl⟩:=nat_of ga.pos;have hka:ka < s.slots.length:=by have:=ga.lo;omega
  exact op3 M P hbig ka ib ic in_ hka a n cap (Lib.hid rfl)
 by_cases q4:op=4
 ·subst q4;obtain ⟨hk4,ga⟩:=hi.a4 rfl;simp only at hk4 ga;obtain ⟨ka,rfl⟩:=nat_of ga.pos;have hka:ka < s.slots.length:=by have:=ga.lo;omega
  have gb:=hi.bR (.inl rfl);simp only at gb;obtain ⟨kb,rfl⟩:=nat_of gb.1;have hkb:kb < s.slots.length:=by omega
  exact op4 M P hbig ka kb ic in_ hka hkb (fun hp e=>by have:=Ckr.load_kind hk4 hp;have:=ga.hi (by omega);omega) a n cap (Lib.hid rfl)
 by_cases q5:op=5
 ·subst q5;have ga:=hi.a1 (.inr (.inl rfl));simp only at ga;obtain ⟨ka,rfl⟩:=nat_of ga.pos;have hka:ka < s.slots.length:=by have:=ga.lo;omega
  have gb:=hi.bR (.inr (.inl rfl));simp only at gb;obtain ⟨kb,rfl⟩:=nat_of gb.1;have hkb:kb < s.slots.length:=by omega
  have gc:=hi.cR (.inl rfl);simp only at gc;obtain ⟨kc,rfl⟩:=nat_of gc.1;have hkc:kc < s.slots.length:=by omega
  exact op5 M P hbig ka kb kc in_ hka hkb hkc a n cap (Lib.hid rfl)
 by_cases q6:op=6
 ·subst q6;have ga:=hi.a2 (.inr (.inr (.inl rfl)));simp only at ga;obtain ⟨ka,rfl⟩:=nat_of ga.pos;have hka:ka < s.slots.length:=by have:=ga.lo;omega
  have hka2:ka+1 < s.slots.length:=by have:=ga.hi rfl;omega
  have gb:=hi.bR (.inr (.inr (.inl rfl)));simp only at gb;obtain ⟨kb,rfl⟩:=nat_of gb.1;have hkb:kb < s.slots.length:=by omega
  have gc:=hi.cR (.inr (.inl rfl));simp only at gc;obtain ⟨kc,rfl⟩:=nat_of gc.1;have hkc:kc < s.slots.length:=by omega
  exact op6 M P hbig ka kb kc in_ hka hkb hkc hka2 a n cap (Lib.hid rfl)
 by_cases q7:op=7
 ·subst q7;have ga:=hi.a2 (.inr (.inr (.inr (rfl))));simp only at ga;obtain ⟨ka,rfl⟩:=nat_of ga.pos;have hka:ka < s.slots.length:=by have:=ga.lo;omega
  have hka2:ka+1 < s.slots.length:=by have:=ga.hi rfl;omega
  have gb:=hi.bR (.inr (.inr (.inr (.inl rfl))));simp only at gb;obtain ⟨kb,rfl⟩:=nat_of gb.1;have hkb:kb < s.slots.length:=by omega
  exact op7 M P hbig ka kb ic in_ hka hkb hka2 a n cap (Lib.hid rfl)
 by_cases q8:op=8
 ·subst q8;have ga:=hi.a1 (.inr (.inr (.inl rfl)));simp only at ga;obtain ⟨ka,rfl⟩:=nat_of ga.pos;have hka:ka < s.slots.length:=by have:=ga.lo;omega
  have gb:=hi.bR (.inr (.inr (.inr (.inr (.inl rfl)))));simp only at gb;obtain ⟨kb,rfl⟩:=nat_of gb.1;have hkb:kb < s.slots.length:=by omega
  exact op8 M P hbig ka kb ic in_ hka hkb a n cap (Lib.hid rfl)
 by_cases q9:op=9
 ·subst q9;have ga:=hi.a1 (.inr (.inr (.inr (.inl rfl))));simp only at ga;obtain ⟨ka,rfl⟩:=nat_of ga.pos;have hka:ka < s.slots.length:=by have:=ga.lo;omega
  have gb:=hi.bR (.inr (.inr (.inr (.inr (.inr (.inl rfl))))));simp only at gb;obtain ⟨kb,rfl⟩:=nat_of gb.1;have hkb:kb < s.slots.length:=by omega
  have gc:=hi.cR (.inr (.inr (.inl rfl)));simp only at gc;obtain ⟨kc,rfl⟩:=nat_of gc.1;have hkc:kc < s.slots.length:=by omega
  exact op9 M P hbig ka kb kc in_ hka hkb hkc a n cap (Lib.hid rfl)
 by_cases q11:op=11
 ·subst q11;have gc:=hi.cR (.inr (.inr (.inr (.inl rfl))));simp only at gc;obtain ⟨kc,rfl⟩:=nat_of gc.1;have hkc:kc < s.slots.length:=by omega
  exact op11 M P hbig kc ia ib in_ hkc a n cap (Lib.hid rfl)
 by_cases q12:op=12
 ·subst q12;have gc:=hi.cR (.inr (.inr (.inr (.inr (rfl)))));simp only at gc;obtain ⟨kc,rfl⟩:=nat_of gc.1;have hkc:kc < s.slots.length:=by omega
  exact op12 M P hbig kc ia ib in_ hkc a n cap (Lib.hid rfl)
 by_cases q21:op=21
 ·subst q21;have ga:=hi.a3 (.inr (.inr (.inr (.inl rfl))));simp only at ga;obtain ⟨ka,rfl⟩:=nat_of ga.pos;have hka:ka < s.slots.length:=by have:=ga.lo;omega
  exact op21 M P hbig ka ib ic in_ hka a n cap (Lib.hid rfl)
 by_cases q23:op=23
 ·subst q23;have ga:=hi.aR (.inr (.inl rfl));simp only at ga;obtain ⟨ka,rfl⟩:=nat_of ga.1;exact op23 M P hbig ka ib ic in_ (by omega) a n cap (Lib.hid rfl)
 refine dobj M op ia ib ic in_ a n cap ⟨q1,q2,q24,q3,q4,q5,q6,q7,q8,q9,q11,q12,q21,q23⟩ (fun W hW M=>?_);replace hargs:=hargs.mono mInt (hW.mono (Nat.le_of_lt (Nat.lt_of_le_of_lt hM.lo hM.mbw))) (Nat.le_refl _)
 by_cases q13:op=13
 ·subst q13;have ga:=hi.a3 (.inr (.inl rfl));simp only at ga;obtain ⟨ka,rfl⟩:=nat_of ga.pos;have hka:ka < s.slots.length:=by have:=ga.lo;omega
  exact ob13 M P hbig ka ib ic in_ hka okb a n cap (Lib.hid rfl)
 by_cases q16:op=16
 ·subst q16;have ga:=hi.a3 (.inr (.inr (.inl rfl)));simp only at ga;obtain ⟨ka,rfl⟩:=nat_of ga.pos;have hka:ka < s.slots.length:=by have:=ga.lo;omega
  exact ob16 M P hbig ka ib ic in_ hka okb a n cap (Lib.hid rfl)
 by_cases q17:op=17
 ·subst q17;have ga:=hi.a1 (.inr (.inr (.inr (.inr (rfl)))));simp only at ga;obtain ⟨ka,rfl⟩:=nat_of ga.pos;have hka:ka < s.slots.length:=by have:=ga.lo;omega
  have gb:=hi.bR (.inr (.inr (.inr (.inr (.inr (.inr (.inr (.inr (rfl)))))))));simp only at gb;obtain ⟨kb,rfl⟩:=nat_of gb.1;have hkb:kb < s.slots.length:=by omega
  exact ob17 M P hbig ka kb ic in_ hka hkb a n cap (Lib.hid rfl)
 by_cases q14:op=14
 ·subst q14;have ga:=hi.a14 rfl;simp only at ga;obtain ⟨ka,rfl⟩:=nat_of ga.pos;have hka:ka < s.slots.length:=by have:=ga.lo;omega
  have gb:=hi.bR (.inr (.inr (.inr (.inr (.inr (.inr (.inl rfl)))))));simp only at gb;obtain ⟨kb,rfl⟩:=nat_of gb.1;have hkb:kb < s.slots.length:=by omega
  obtain ⟨f1,f2⟩:=hi.fld (.inl rfl);simp only at f1 f2;rw [nf_at f1] at f2;obtain ⟨kc,rfl⟩:=nat_of f1.1;obtain ⟨kn,rfl⟩:=nat_of f2.1;have h1a:kc < E.f.classes.length:=by omega
  have h2a:kn < (Hier.at' E.f.classes kc).fields.length:=by rw [Int.toNat_natCast] at f2;omega
  exact ob14 M P hbig ka kb hka hkb kc kn h1a h2a (fun e=>by have:=ga.hi e;omega) a n cap (Lib.hid rfl)
 by_cases q15:op=15
 ·subst q15;have ga:=hi.aR (.inl rfl);simp only at ga;obtain ⟨ka,rfl⟩:=nat_of ga.1;have hka:ka < s.slots.length:=by omega
  have gb:=hi.bR (.inr (.inr (.inr (.inr (.inr (.inr (.inr (.inl rfl))))))));simp only at gb;obtain ⟨kb,rfl⟩:=nat_of gb.1;have hkb:kb < s.slots.length:=by omega
  obtain ⟨f1,f2⟩:=hi.fld (.inr rfl);simp only at f1 f2;rw [nf_at f1] at f2;obtain ⟨kc,rfl⟩:=nat_of f1.1;obtain ⟨kn,rfl⟩:=nat_of f2.1;have h1a:kc < E.f.classes.length:=by omega
  have h2a:kn < (Hier.at' E.f.classes kc).fields.length:=by rw [Int.toNat_natCast] at f2;omega
  exact ob15 M P hbig ka kb hka hkb kc kn h1a h2a a n cap (Lib.hid rfl)
 by_cases q18:op=18
 ·subst q18;obtain ⟨m1,m2⟩:=hi.meth rfl;have ma:=hi.args rfl;simp only at m1 m2 ma;obtain ⟨ka,rfl⟩:=nat_of m1.1;have hk:ka < E.f.methods.length:=by omega
  rw [Int.toNat_natCast] at m2 ma;exact ob18 M P hbig ka ib ic in_ iargs hk m2 (S.mes _ (Run.meAt_mem hk)).params.1 (fun j hj=>⟨(ma j hj).1,by rw [hlen];exact (ma j hj).2⟩) a n cap hargs (Lib.hid rfl)
 by_cases q19:op=19
 ·subst q19;obtain ⟨hk4,ga⟩:=hi.a19 rfl;simp only at hk4 ga;obtain ⟨ka,rfl⟩:=nat_of ga.pos;have hka:ka < s.slots.length:=by have:=ga.lo;omega
  exact ob19 M P hbig ka ib ic in_ hka (fun e=>by have:=ga.hi e;omega) a n cap (Lib.hid rfl)
 by_cases q22:op=22
 ·subst q22;have ga:=hi.a3 (.inr (.inr (.inr (.inr (rfl)))));simp only at ga;obtain ⟨ka,rfl⟩:=nat_of ga.pos;have hka:ka < s.slots.length:=by have:=ga.lo;omega
  exact ob22 M P hbig ka ib ic in_ hka a n cap (Lib.hid rfl)
 by_cases q20:op=20
 ·subst q20
  by_cases hr:E.m.ret.kind=0
  ·exact ob20v M P hbig ia ib ic in_ hr a n cap (Lib.hid (if_pos hr))
  ·have ga:=hi.aR (.inr (.inr ⟨rfl,hr⟩));simp only at ga;obtain ⟨ka,rfl⟩:=nat_of ga.1;exact ob20 M P hbig ka ib ic in_ (by omega) hr a n cap (Lib.hid (if_neg hr))
 obtain rfl:op=10:=by omega
 exact ob10 M P hbig ia ib ic in_ a n cap (Lib.hid rfl)
end
end Rck
namespace Rck
open Num Rd D Mem Hpw Flow HierW FormW Sck
theorem assert_yes (w:World):(Instr.typeAssert (.iface 292 (.agg #[])) 20 292 true).run Try.prog w=.ok (.tuple #[.agg #[],.bool true]) w:=by kernel_rfl
theorem idle (p:Addr) (w:World):CallsD Try.prog 207 #[.pointer (some p)] .returning w fun e u' w'=>e=.returned (.tuple #[])∧u'=.returning∧w'=w:=by
 refine callsD_of_wpS Try.func207 rfl fun c₀ cs hu=>?_
 apply wpS_seq
 apply wpS_region
 simp [wpOpsS,go_sem,recoverD,hu,Try.ntmps207,Exit.thenS];refine wpS_of_wp ?_
 go_wp2
 all_goals (cases c₀;simp_all [bodyPostS,results,Try.results207])
set_option maxRecDepth 100000 in
theorem caught (n:Nat) (older:List PanicEntry) (w:World) (h0:w.cell? ⟨n,0,none⟩=some (.bool false)) (hf:w.frozen? ⟨n,0,none⟩=false) :
  CallsD Try.prog 207 #[.pointer (some ⟨n,0,none⟩)] (.panicking ({ v:=.iface 292 (.agg #[]),recovered:=false } :: older)) w fun e u' w' =>
   e=.returned (.tuple #[])∧u'=.panicking ({ v:=.iface 292 (.agg #[]),recovered:=true } :: older)∧w'=(w.setCell ⟨n,0,none⟩ (.bool false)).alloc (.cells #[] 292):=by
 have hta:=assert_yes;have hn:=cell_lt h0;refine callsD_of_wpS Try.func207 rfl fun c₀ cs hu=>?_
 apply wpS_seq
 apply wpS_region
 simp [wpOpsS,go_sem,recoverD,hu,Try.ntmps207,Exit.thenS];rw [show (Array.replicate 14 undef:Array Value)=#[undef,undef,undef,undef,undef,undef,undef,undef,undef,undef,undef,undef,undef,undef] from rfl];simp only [List.setIfInBounds_toArray,List.set_cons_succ,List.set_cons_zero,List.append_toArray,List.cons_append,List.nil_append];refine wpS_of_wp ?_
 go_wp2
 simp [bodyPostS,results,Try.results207]
section
variable {E:FE}{w0 w w':World}{B0 mb:Nat}{vs vk:Value}{s:State}
def TryR (E:FE) (B0 mb:Nat) (vs vk:Value) (w:World) (o:Option State) (e:Ending) (w':World):Prop :=
 e=.returned (.bool o.isSome)∧Kp (mo mb vs vk) w w'∧match o with
  | some s'=>MS E w' B0 mb vs vk s'
  | none=>∃ x y z u,Blk w' mb [x,y,z,u]
set_option maxRecDepth 100000 in
theorem try_ {i:Ins}(M:MS E w B0 mb vs vk s) (S:Run.FiR E.f) (MM:Run.MeR E.f E.m) (hi:Ckr.Sd E.f E.m i) (G:Chk.Gd E.f.classes.length E.m.regs.toNat 1 s) (okb:Ok i.b) (a:Option Addr) (n cap:Nat) (hargs:Sl 1 EInt w B0 (.slice a n cap) i.args) :
  Calls Try.prog 166 #[.pointer (some ⟨mb,0,none⟩),.agg #[.int .i64 i.op,.int .i64 i.a,.int .i64 i.b,.int .i64 i.c,.int .i64 i.n,.slice a n cap]] w (TryR E B0 mb vs vk w (Ckr.does E.f E.m i s)):=by
 have hmf:∀ (fn:Fn) (first cap:Array Value) (w:World),(Instr.makeFunc fn first cap).run Try.prog w=.ok (.func fn first cap) w:=fun _ _ _ _=>rfl
 have G0:=Lib.hid (Gon.start M);have nm:∀ k,mo mb vs vk k→k < w.heap.size:=fun k hk=>(M.mo_lo hk).2;have nb:¬ mo mb vs vk (w.heap.size+1):=fun hk=>by have:=nm _ hk;omega
 have hbase:=M.base;obtain ⟨o,ho⟩:∃ o,Hid (Ckr.does E.f E.m i s=o):=⟨_,Lib.hid rfl⟩;rw [ho.out];have hargs':=Lib.hid hargs;clear hargs
 go_enter_defers Try.func166,Try.ntmps166
 go_wp2_with fail
 refine (does (G0.out.below (by exact Rd.byB)).M S MM hi G okb a n cap (hargs'.out.mono mInt (by exact Below.mono (show Below w.heap.size w _ from Rd.byB) hbase) (Nat.le_refl _))).mono ?_
 rw [ho.out];rintro e w1 A;have A2:=Lib.hid ((G0.out.below (by exact Rd.byB)).fin A)
 have KA:=A.kp;have c4:w1.cell? ⟨w.heap.size+1,0,none⟩=some (.bool false):=KA.cell (by go_simp) nb
 have f4:w1.frozen? ⟨w.heap.size+1,0,none⟩=false:=KA.frz (by go_simp) (by simp) nb
 have l4:=cell_lt c4
 rcases A.cases with ⟨s1,h1,rfl⟩ | ⟨h1,rfl⟩
 ·subst h1;obtain ⟨_,M2,_⟩:=A;have HK2:=Lib.hid (A2.out.kp);replace M2:=Lib.hid M2
  go_wp2_with fail
  refine leaves_cons (f:=207) (args:=#[.pointer (some ⟨w.heap.size+1,0,none⟩)]) (by simp) (by simp [go_sem]) ?_
  refine (idle _ _).mono ?_;rintro e u' w'' ⟨rfl,rfl,rfl⟩;simp [Leaves,settle,results,Try.results166,go_sem,c4,l4];have KS:Kp (fun k=>k=w.heap.size+1) w1 (w1.setCell ⟨w.heap.size+1,0,none⟩ (.bool true)):=Kp.setCell (Kp.refl (fun k=>k=w.heap.size+1) w1) (p:=⟨w.heap.size+1,0,none⟩) (.inl rfl) _;exact ⟨rfl,HK2.out.setCell (p:=⟨w.heap.size+1,0,none⟩) (.inr (by simp)) _,M2.out.far KS (fun k e=>by subst e;exact ⟨by omega,nb⟩)⟩
 ·subst h1;clear A;unfold brk
  go_wp2_with fail
  refine leaves_cons (f:=207) (args:=#[.pointer (some ⟨w.heap.size+1,0,none⟩)]) (by simp) (by simp [go_sem]) ?_
  refine (caught (w.heap.size+1) [] _ c4 f4).mono ?_;rintro e u' w'' ⟨rfl,rfl,rfl⟩;simp [Leaves,settle,results,Try.results166,go_sem,c4,l4];have KS:Kp (fun k=>k=w.heap.size+1) w1 (w1.setCell ⟨w.heap.size+1,0,none⟩ (.bool false)):=Kp.setCell (Kp.refl (fun k=>k=w.heap.size+1) w1) (p:=⟨w.heap.size+1,0,none⟩) (.inl rfl) _;obtain ⟨_,⟨x,y,z,u,B⟩,K2⟩:=A2.out;refine ⟨rfl,(K2.setCell (p:=⟨w.heap.size+1,0,none⟩) (.inr (by simp)) _).alloc _,x,y,z,u,(B.next KS (fun e=>nb (.inl e.symm))).alloc _⟩
end
end Rck
namespace Rck
open Num Rd D Mem Hpw Flow HierW FormW Sck
def NX (w:World) (B:Nat) (v:Value) (l:List Nat):Prop:=∃ a cap,v=.slice a l.length cap∧l.length≤cap∧cap≤9∧∀ i,i < l.length→∃ b,a=some ⟨b,0,none⟩∧B≤b∧w.cell? ⟨b,i,none⟩=some (.int .i64 (l.getD i 0))
def NextR (w:World) (l:List Nat) (e:Ending) (w':World):Prop:=∃ v,e=.returned v∧NX w' w.heap.size v l∧Below w.heap.size w w'
theorem nx1 {w w':World}{b B:Nat}{x:Nat}(hb:B≤b) (h:w'.cell? ⟨b,0,none⟩=some (.int .i64 x)):NX w' B (.slice (some ⟨b,0,none⟩) 1 1) [x] :=
 ⟨_,1,rfl,Nat.le_refl _,by omega,fun i hi=>⟨b,rfl,hb,by simp at hi;subst hi;exact h⟩⟩
theorem nx2 {w':World}{b B:Nat}{x y:Nat}(hb:B≤b) (h:w'.cell? ⟨b,0,none⟩=some (.int .i64 x)) (h2:w'.cell? ⟨b,1,none⟩=some (.int .i64 y)):NX w' B (.slice (some ⟨b,0,none⟩) 2 2) [x,y] :=
 ⟨_,2,rfl,Nat.le_refl _,by omega,fun i hi=>⟨b,rfl,hb,by
  simp at hi
  rcases (show i=0∨i=1 by omega) with e | e <;> subst e
  ·exact h
  ·exact h2⟩⟩
section
variable {w:World}
set_option maxRecDepth 100000 in
theorem nexts (op ia ib ic in_:Int) (iargs:List Int) (a:Option Addr) (n cap:Nat) (at_:Nat) (hat:at_≤100000) (hj:op=10∨op=11∨op=12→0≤ia):Calls Try.prog 167 #[.agg #[.int .i64 op,.int .i64 ia,.int .i64 ib,.int .i64 ic,.int .i64 in_,.slice a n cap],.int .i64 at_] w (NextR w (Ckr.nexts ⟨op,ia,ib,ic,in_,iargs⟩ at_)):=by
 have s1:IntKind.i64.wrap ((at_:Int)+1)=((at_+1:Nat):Int):=by rw [Num.wrap_i64,wrap64_id (by unfold Ok;omega)];omega
 have s2:((at_:Int)+1)=((at_+1:Nat):Int):=by omega
 replace s2:=Lib.hid s2;replace hat:=Lib.hid hat
 by_cases q10:op=10
 ·subst q10;obtain ⟨k,rfl⟩:∃ k:Nat,ia=(k:Int):=⟨ia.toNat,by have:=hj (.inl rfl);omega⟩
  have e:Hid (Ckr.nexts ⟨10,(k:Int),ib,ic,in_,iargs⟩ at_=[k]):=by show _=_;simp [Ckr.nexts]
  rw [e.out];clear hj
  go_enter Try.func167,Try.ntmps167
  go_wp2
  go_ret;exact ⟨_,rfl,nx1 (w:=w) (by simp) (by go_simp),by exact Rd.byB⟩
 ·have p10:(op==10)=false:=by simpa using q10
  by_cases q12:op=11∨op=12
  ·obtain ⟨k,rfl⟩:∃ k:Nat,ia=(k:Int):=⟨ia.toNat,by have:=hj (.inr q12);omega⟩
   have e:Hid (Ckr.nexts ⟨op,(k:Int),ib,ic,in_,iargs⟩ at_=[at_+1,k]):=by show _=_;unfold Ckr.nexts;rw [if_neg q10,if_pos q12];simp
   rw [e.out];clear hj
   rcases q12 with q | q
   all_goals
    subst q;clear p10 q10
    go_enter Try.func167,Try.ntmps167
    go_wp2
    go_ret;exact ⟨_,rfl,nx2 (by simp) (by go_simp) (by go_simp),by exact Rd.byB⟩
  ·by_cases q20:op=20∨op=21
   ·have e:Hid (Ckr.nexts ⟨op,ia,ib,ic,in_,iargs⟩ at_=[]):=by show _=_;unfold Ckr.nexts;rw [if_neg q10,if_neg q12,if_pos q20]
    rw [e.out];clear hj
    rcases q20 with q | q
    all_goals
     subst q;clear p10 q10 q12
     go_enter Try.func167,Try.ntmps167
     go_wp2
     go_ret;exact ⟨_,rfl,⟨none,0,rfl,Nat.le_refl _,by omega,fun i hi=>absurd hi (by simp)⟩,by exact Rd.byB⟩
   ·have e:Hid (Ckr.nexts ⟨op,ia,ib,ic,in_,iargs⟩ at_=[at_+1]):=by show _=_;unfold Ckr.nexts;rw [if_neg q10,if_neg q12,if_neg q20]
    have p11:(op==11)=false:=by simp;omega
    have p12:(op==12)=false:=by simp;omega
    have p20:(op==20)=false:=by simp;omega
    have p21:(op==21)=false:=by simp;omega
    rw [e.out];clear hj q10 q12 q20
    go_enter Try.func167,Try.ntmps167
    go_wp2
    go_ret;exact ⟨_,rfl,nx1 (w:=w) (by simp) (by go_simp),by exact Rd.byB⟩
end
end Rck
namespace Sck
open Num Rd D Mem Hpw Flow HierW FormW
section
variable {w:World}{X X2:Nat→Prop}{v1 v2:Value}{l1 l2:List Ty}
theorem ext_of_getD {l1 l2:List Ty}(h:l1.length=l2.length) (ha:∀ j,j < l1.length→l1.getD j none_=l2.getD j none_):l1=l2:=by
 apply List.ext_getElem h
 intro i h1 h2
 have:=ha i h1
 rw [List.getD_eq_getElem?_getD,List.getD_eq_getElem?_getD,List.getElem?_eq_getElem h1,List.getElem?_eq_getElem h2] at this;exact this
set_option maxRecDepth 100000 in
theorem equalT (h1:TS w X v1 l1) (h2:TS w X2 v2 l2) (hl:l1.length≤1000000):Calls Try.prog 195 #[v1,v2] w fun e w'=>e=.returned (.bool (decide (l1=l2)))∧Below w.heap.size w w':=by
 have H1:=Lib.hid h1;have H2:=Lib.hid h2;obtain ⟨a,cap,rfl,q1,q2⟩:=h1.len;obtain ⟨a2,cap2,rfl,q3,q4⟩:=h2.len;clear h1 h2;have hq:=run_neq_ty;have hg:=run_guard_ty
 by_cases hlen:l1.length=l2.length
 ·have hb:((l1.length:Int) != (l2.length:Int))=false:=by simp [hlen]
  rw [hlen] at hl;obtain ⟨n,hn⟩:∃ n,n=l2.length:=⟨_,rfl⟩;have hn1:l1.length=n:=by omega
  have hn2:l2.length=n:=by omega
  rw [hn1] at q1 hb ⊢;rw [hn2] at q3 hb ⊢;clear hn hlen hb;have hbig:n≤1000000:=by omega
  go_enter Try.func195,Try.ntmps195
  go_wp2_with fail
  go_loopw [13] (fun i wr=>∃ k:Nat,i=.int .i64 k∧k≤n∧Below w.heap.size w wr∧Hid (∀ j,j < k→l1.getD j none_=l2.getD j none_)) (fun i _=>n - (intOf i).toNat)
  case atStart=>exact ⟨0,rfl,Nat.zero_le _,by exact Rd.byB,fun j h=>absurd h (by omega)⟩
  case round =>
   obtain ⟨k,rfl,hk,hbl,hall⟩:=hrel
   by_cases hlt:k < n
   ·obtain ⟨b,o,c1,e1,_,_,hb1,_,hc1⟩:=H1.out.cells (by omega)
    obtain ⟨b2,o2,c2,e2,_,_,hb2,_,hc2⟩:=H2.out.cells (by omega)
    rw [hn1] at e1;rw [hn2] at e2;simp only [Value.slice.injEq,true_and] at e1 e2;obtain ⟨rfl,rfl⟩:=e1;obtain ⟨rfl,rfl⟩:=e2;obtain ⟨z0,z1⟩:=hc1 k (by omega)
    obtain ⟨y0,y1⟩:=hc2 k (by omega)
    replace z0:=kept hbl hb1 z0;replace z1:=kept hbl hb1 z1;replace y0:=kept hbl hb2 y0;replace y1:=kept hbl hb2 y1;obtain ⟨⟨xk,xc⟩,hx⟩:∃ x,Hid (l1.getD k none_=x):=⟨_,Lib.hid rfl⟩;obtain ⟨⟨yk,yc⟩,hy⟩:∃ x,Hid (l2.getD k none_=x):=⟨_,Lib.hid rfl⟩;rw [hx.out] at z0 z1;rw [hy.out] at y0 y1;simp only at z0 z1 y0 y1;have i1:(k:Int) < n:=by omega
    clear hc1 hc2
    by_cases heq:xk=yk∧xc=yc
    ·obtain ⟨rfl,rfl⟩:=heq;have p1:(!(xk==xk && xc==xc))=false:=by simp
     go_wp2
     go_quiet (fail)
     go_wp2
     refine ⟨⟨k+1,by simp,hlt,by exact Rd.byB,fun j hj=>?_⟩,by simp only [intOf];omega⟩
     by_cases hj2:j < k
     ·exact hall.out j hj2
     ·obtain rfl:j=k:=by omega
      rw [hx.out,hy.out]
    ·have p1:(!(xk==yk && xc==yc))=true:=by
      cases h:(xk==yk && xc==yc)
      ·rfl
      ·simp at h;exact absurd h heq
     go_wp2
     go_quiet (fail)
     go_wp2
     go_ret;refine ⟨ret_bool ?_,by exact Rd.byB⟩
     symm
     refine decide_eq_false (fun e=>heq ?_)
     have:=hy.out
     rw [← e,hx.out] at this;injection this with t1 t2
     exact ⟨t1,t2⟩
   ·go_wp2
    go_ret;refine ⟨ret_bool ?_,by exact Rd.byB⟩
    symm
    exact decide_eq_true (ext_of_getD (by omega) (fun j hj=>hall.out j (by omega)))
 ·have hb:((l1.length:Int) != (l2.length:Int))=true:=by simp;omega
  go_enter Try.func195,Try.ntmps195
  go_wp2
  go_ret;exact ⟨ret_bool (by symm;exact decide_eq_false (fun e=>hlen (by rw [e]))),by exact Rd.byB⟩
theorem equalV (p:Bool) (h1:TS w X v1 l1) (h2:TS w X2 v2 l2) (hl:l1.length≤1000000) (hp:decide (l1=l2)=p):Calls Try.prog 195 #[v1,v2] w fun e w'=>e=.returned (.bool p)∧Below w.heap.size w w':=by
 subst hp;exact equalT h1 h2 hl
theorem state_dec (a b:State):decide (a=b)=((a.broken==b.broken) && decide (a.slots=b.slots) && decide (a.stack=b.stack)):=by
 obtain ⟨s1,k1,b1⟩:=a;obtain ⟨s2,k2,b2⟩:=b;rw [Bool.eq_iff_iff];simp only [decide_eq_true_eq,Bool.and_eq_true,beq_iff_eq,State.mk.injEq]
 constructor
 ·rintro ⟨h1,h2,h3⟩;exact ⟨⟨h3,h1⟩,h2⟩
 ·rintro ⟨⟨h3,h1⟩,h2⟩;exact ⟨h1,h2,h3⟩
set_option maxRecDepth 100000 in
theorem same {va vb:Value}{a b:State}(ha:VSt w X va a) (hb:VSt w X2 vb b) (hl:a.slots.length≤1000000) (hl2:a.stack.length≤1000000):Calls Try.prog 146 #[va,vb] w fun e w'=>e=.returned (.bool (decide (a=b)))∧Below w.heap.size w w':=by
 obtain ⟨av,aw,rfl,s1,k1⟩:=ha;obtain ⟨bs,bk,rfl,s2,k2⟩:=hb;have S1:=Lib.hid s1;have S2:=Lib.hid s2;have K1:=Lib.hid k1;have K2:=Lib.hid k2;obtain ⟨c1,n1,rfl,_⟩:=s1.len;obtain ⟨c2,n2,rfl,_⟩:=k1.len;obtain ⟨c3,n3,rfl,_⟩:=s2.len;obtain ⟨c4,n4,rfl,_⟩:=k2.len;clear s1 s2 k1 k2;replace hl:=Lib.hid hl;replace hl2:=Lib.hid hl2;obtain ⟨p1,h1⟩:∃ p,Hid ((a.broken==b.broken)=p):=⟨_,Lib.hid rfl⟩;obtain ⟨p2,h2⟩:∃ p,Hid (decide (a.slots=b.slots)=p):=⟨_,Lib.hid rfl⟩;obtain ⟨p3,h3⟩:∃ p,Hid (decide (a.stack=b.stack)=p):=⟨_,Lib.hid rfl⟩
 have hdec:Hid (decide (a=b)=(p1 && p2 && p3)):=by
  show _=_
  rw [state_dec,h1.out,h2.out,h3.out]
 have h1':=h1.out
 cases p1
 ·
  go_enter Try.func146,Try.ntmps146
  go_wp2
  go_ret;exact ⟨ret_bool (by symm;rw [hdec.out];first | rfl | simp),by exact Rd.byB⟩
 cases p2
 ·
  go_enter Try.func146,Try.ntmps146
  go_wp2_with (go_at_call 195;refine (equalV false (S1.out.below (X':=fun _=>False) (by exact Rd.byB) (fun _ _ e=>e.elim)) (S2.out.below (X':=fun _=>False) (by exact Rd.byB) (fun _ _ e=>e.elim)) hl.out h2.out).mono ?_;rintro e w2 ⟨rfl,hb2⟩)
  go_ret;exact ⟨ret_bool (by symm;rw [hdec.out];first | rfl | simp),by exact Below.trans Rd.byB (hb2.mono Rd.byL)⟩
 go_enter Try.func146,Try.ntmps146
 go_wp2_with (first | (go_at_call 195;refine (equalV p3 (K1.out.below (X':=fun _=>False) hb2W (fun _ _ e=>e.elim)) (K2.out.below (X':=fun _=>False) hb2W (fun _ _ e=>e.elim)) hl2.out h3.out).mono ?_;rintro e w3 ⟨rfl,hb3⟩) | (go_at_call 195;refine (equalV true (S1.out.below (X':=fun _=>False) (by exact Rd.byB) (fun _ _ e=>e.elim)) (S2.out.below (X':=fun _=>False) (by exact Rd.byB) (fun _ _ e=>e.elim)) hl.out h2.out).mono ?_;rintro e w2 ⟨rfl,hb2⟩;have hb2W:Below w.heap.size w w2:=Below.trans (by exact Rd.byB) (hb2.mono Rd.byL);have x1:w2.cell? ⟨w.heap.size,1,none⟩=some (.slice c2 a.stack.length n2):=kept hb2 Rd.byL (by go_simp);have y1:w2.cell? ⟨w.heap.size+1,1,none⟩=some (.slice c4 b.stack.length n4):=kept hb2 Rd.byL (by go_simp)))
 go_ret;exact ⟨ret_bool (by symm;rw [hdec.out];first | rfl | simp),by exact Below.trans hb2W (hb3.mono hb2W.size)⟩
end
end Sck
namespace Sck
open Num Rd D Mem Hpw Flow HierW FormW
theorem kpb2 {X:Nat→Prop}{w0 w1 w2:World}(K:Kp X w0 w1) (hb:Below w1.heap.size w1 w2):Kp X w0 w2:=K.trans (Kp.of_below (X:=fun _=>False) hb (Nat.le_refl _)) (fun _ h=>h.elim)
def zn (c:List Cls) (n:Nat) (l m:List Ty):List Ty:=(List.range l.length).map fun i=>if i < n then Flow.both c (l.getD i none_) (m.getD i none_) else l.getD i none_
section
variable {c:List Cls}{l m:List Ty}
theorem zn_len (n:Nat):(zn c n l m).length=l.length:=by unfold zn;simp
theorem zn_getD (n i:Nat) (hi:i < l.length):(zn c n l m).getD i none_=if i < n then Flow.both c (l.getD i none_) (m.getD i none_) else l.getD i none_:=by
 unfold zn;rw [List.getD_eq_getElem?_getD,List.getElem?_map,List.getElem?_range hi];rfl
theorem zn_zero:zn c 0 l m=l:=ext_of_getD (zn_len 0) (fun j hj=>by rw [zn_len] at hj;rw [zn_getD 0 j hj,if_neg (by omega)])
theorem zn_all (h:l.length=m.length):zn c l.length l m=zip c l m:=ext_of_getD (by rw [zn_len,Flow.zip_len]) (fun j hj=>by rw [zn_len] at hj;rw [zn_getD _ j hj,if_pos hj,Flow.zip_getD l m j h,if_pos hj])
theorem zn_succ (n:Nat) (hn:n < l.length):zn c (n+1) l m=(zn c n l m).set n (Flow.both c (l.getD n none_) (m.getD n none_)):=ext_of_getD (by simp [zn_len]) (fun j hj=>by
 rw [zn_len] at hj;rw [zn_getD _ j hj,Chk.getD_set,zn_len,zn_getD _ j hj]
 by_cases e:j=n
 ·subst e;rw [if_pos (by omega),if_pos ⟨rfl,hn⟩]
 ·by_cases e2:j < n
  ·rw [if_pos (by omega),if_neg (by omega),if_pos e2]
  ·rw [if_neg (by omega),if_neg (by omega),if_neg e2])
theorem tok_both (hm:Hier.may c=true){a b:Ty}(wa:Wf c.length a) (wb:Wf c.length b) (ha:TOk a) (hb:TOk b):TOk (Flow.both c a b):=by
 have hlen:c.length≤12:=((Hier.may_iff c).1 hm).1.2;unfold Flow.both
 split
 ·exact ha
 ·split
  ·exact hb
  ·split
   ·exact ha
   ·split
    ·rename_i h
     have:=Hier.meet_range hm (wa.1 h.1) (wb.1 h.2)
     exact ⟨by unfold Ok;simp only;omega,by unfold Ok;simp only;omega⟩
    ·exact tok_none
theorem any_zip {n:Nat}(h:l.length=m.length) (hn:n < l.length) (h0:(Flow.both c (l.getD n none_) (m.getD n none_)).kind=0):(zip c l m).any (fun x=>decide (x.kind=0))=true:=by
 rw [List.any_eq_true];have hl:n < (zip c l m).length:=by rw [Flow.zip_len];exact hn
 refine ⟨(zip c l m)[n],List.getElem_mem hl,?_⟩
 have:=Flow.zip_getD (c:=c) l m n h
 rw [if_pos hn,List.getD_eq_getElem?_getD,List.getElem?_eq_getElem hl] at this;simp only [Option.getD_some] at this;rw [this];simpa using h0
theorem no_zip (h:l.length=m.length) (h0:∀ n,n < l.length→(Flow.both c (l.getD n none_) (m.getD n none_)).kind≠0):(zip c l m).any (fun x=>decide (x.kind=0))=false:=by
 rw [List.any_eq_false]
 intro x hx
 obtain ⟨n,hn,rfl⟩:=List.getElem_of_mem hx;have hn2:n < l.length:=by rw [Flow.zip_len] at hn;exact hn
 have:=Flow.zip_getD (c:=c) l m n h
 rw [if_pos hn2,List.getD_eq_getElem?_getD,List.getElem?_eq_getElem hn] at this;simp only [Option.getD_some] at this;rw [this];simpa using h0 n hn2
end
section
variable {w:World}{X X2:Nat→Prop}{c:List Cls}{nl ns:Nat}{va vb vc:Value}{a b:State}
def TogR (w:World) (r:State) (e:Ending) (w':World):Prop:=∃ v',e=.returned v'∧VSt w' (fun k=>k < w.heap.size) v' r∧Below w.heap.size w w'
theorem togBad {w w':World}{r:State}(h:r=State.bad) (hb:Below w.heap.size w w'):TogR w r (.returned (.agg #[.slice none 0 0,.slice none 0 0,.bool true])) w':=by
 subst h;exact ⟨_,rfl,VSt.bad _ _,hb⟩
set_option maxRecDepth 100000 in
theorem tog1 (hm:Hier.may c=true) (hc:Cs w vc c) (ha:VSt w X va a) (hb:VSt w X2 vb b) (h:a.broken=true∨b.broken=true∨a.stack.length≠b.stack.length):Calls Try.prog 145 #[vc,va,vb] w (TogR w (Flow.together c a b)):=by
 have hr:Hid (Flow.together c a b=State.bad):=by show _=_;unfold Flow.together;rw [if_pos h]
 rw [hr.out];obtain ⟨av,aw,rfl,s1,k1⟩:=ha;obtain ⟨bv,bw,rfl,s2,k2⟩:=hb;have S1:=Lib.hid s1;have S2:=Lib.hid s2;have K1:=Lib.hid k1;have K2:=Lib.hid k2;obtain ⟨c1,n1,rfl,_⟩:=s1.len;obtain ⟨c2,n2,rfl,_⟩:=k1.len;obtain ⟨c3,n3,rfl,_⟩:=s2.len;obtain ⟨c4,n4,rfl,_⟩:=k2.len;clear s1 s2 k1 k2
 by_cases h1:a.broken=true
 ·go_enter Try.func145,Try.ntmps145
  go_wp2
  refine bodyPost_ret (v:=.agg #[.slice none 0 0,.slice none 0 0,.bool true]) (by simp [results,Try.results145,go_sem] <;> go_simp) rfl ?_
  exact togBad rfl (by exact Rd.byB)
 ·have h1':a.broken=false:=by simpa using h1
  by_cases h2:b.broken=true
  ·go_enter Try.func145,Try.ntmps145
   go_wp2
   refine bodyPost_ret (v:=.agg #[.slice none 0 0,.slice none 0 0,.bool true]) (by simp [results,Try.results145,go_sem] <;> go_simp) rfl ?_
   exact togBad rfl (by exact Rd.byB)
  ·have h2':b.broken=false:=by simpa using h2
   have h3:((a.stack.length:Int) != (b.stack.length:Int))=true:=by
    rcases h with h | h | h
    ·exact absurd h h1
    ·exact absurd h h2
    ·simp;omega
   have h3':¬ (a.stack.length:Int)=(b.stack.length:Int):=by simpa using h3
   go_enter Try.func145,Try.ntmps145
   go_wp2
   refine bodyPost_ret (v:=.agg #[.slice none 0 0,.slice none 0 0,.bool true]) (by simp [results,Try.results145,go_sem] <;> go_simp) rfl ?_
   exact togBad rfl (by exact Rd.byB)
set_option maxRecDepth 100000 in
theorem tog2 (hm:Hier.may c=true) (hc:Cs w vc c) (ha:VSt w X va a) (hb:VSt w X2 vb b) (h1:a.broken=false) (h2:b.broken=false) (hsl:a.slots.length=b.slots.length) (hkl:a.stack.length=b.stack.length) (ws:WfL c.length a.slots) (wk:WfL c.length a.stack) (ws2:WfL c.length b.slots) (wk2:WfL c.length b.stack) (hnl:a.slots.length≤1000) (hns:a.stack.length≤1000):Calls Try.prog 145 #[vc,va,vb] w (TogR w (Flow.together c a b)):=by
 have HW1:=Lib.hid ws;have HW2:=Lib.hid wk;have HW3:=Lib.hid ws2;have HW4:=Lib.hid wk2;have hwf:=Hier.wf_of_may hm;obtain ⟨ca,ccap,evc,_⟩:=id hc;have HC:=Lib.hid hc;rw [evc] at HC ⊢;obtain ⟨av,aw,rfl,s1,k1⟩:=ha;obtain ⟨bv,bw,rfl,s2,k2⟩:=hb;have S1:=Lib.hid s1;have S2:=Lib.hid s2;have K1:=Lib.hid k1;have K2:=Lib.hid k2;obtain ⟨c1,n1,rfl,_⟩:=s1.len;obtain ⟨c2,n2,rfl,_⟩:=k1.len;obtain ⟨c3,n3,rfl,_⟩:=s2.len;obtain ⟨c4,n4,rfl,_⟩:=k2.len;clear s1 s2 k1 k2;obtain ⟨sa,ka,ba⟩:=a;obtain ⟨sb,kb,bb⟩:=b;simp only at h1 h2 hsl hkl hnl hns HW1 HW2 HW3 HW4 S1 S2 K1 K2;subst h1;subst h2;clear ws wk ws2 wk2 hc;have hsl':=Lib.hid hsl;have hkl':=Lib.hid hkl;rw [← hsl] at S2;rw [← hkl] at K2
 have hrow:Hid (Flow.together c ⟨sa,ka,false⟩ ⟨sb,kb,false⟩=if (zip c ka kb).any (fun x=>decide (x.kind=0))=true then State.bad else ⟨zip c sa sb,zip c ka kb,false⟩):=by
  show _=_;unfold Flow.together;rw [if_neg (by simp [hkl])]
 generalize hres:Flow.together c ⟨sa,ka,false⟩ ⟨sb,kb,false⟩=res at hrow ⊢
 simp only;rw [← hsl,← hkl];clear hres hsl hkl evc;replace hnl:=Lib.hid hnl;replace hns:=Lib.hid hns;have hV:VSt w X (.agg #[.slice c1 sa.length n1,.slice c2 ka.length n2,.bool false]) ⟨sa,ka,false⟩:=⟨_,_,rfl,S1.out,K1.out⟩;have HV:=Lib.hid hV;clear hV
 go_enter Try.func145,Try.ntmps145
 go_wp2_with (go_at_call 144;refine (clone (HV.out.below (X':=fun _=>False) (by exact Rd.byB) (fun _ _ e=>e.elim)) (Nat.le_trans hnl.out (by decide)) (Nat.le_trans hns.out (by decide))).mono ?_;rintro e w2 ⟨vs,vk,rfl,R1,R2,N12,hb2⟩;obtain ⟨g1,d1,rfl⟩:=R1.any;obtain ⟨g2,d2,rfl⟩:=R2.any;replace R1:=Lib.hid R1;replace R2:=Lib.hid R2;replace N12:=Lib.hid N12;simp only)
 obtain ⟨W3,hW3⟩:∃ W3,W3=w2.alloc (.cells #[.slice g1 sa.length d1,.slice g2 ka.length d2,.bool false] 157):=⟨_,rfl⟩;have hs2:=hb2.size;simp at hs2
 have hb3:Below (w.heap.size+3) (((w.alloc (.cells #[.slice c1 sa.length n1,.slice c2 ka.length n2,.bool false] 157)).alloc (.cells #[.slice c3 sa.length n3,.slice c4 ka.length n4,.bool false] 157)).alloc (.cells #[.slice none 0 0,.slice none 0 0,.bool false] 157)) W3:=by
  rw [hW3];exact (hb2.mono Rd.byL).alloc Rd.byL _
 have hbW:Below w.heap.size w W3:=Below.trans (by exact Rd.byB) (hb3.mono Rd.byL)
 have a0:W3.cell? ⟨w.heap.size,0,none⟩=some (.slice c1 sa.length n1):=kept hb3 Rd.byL (by go_simp)
 have a1:W3.cell? ⟨w.heap.size,1,none⟩=some (.slice c2 ka.length n2):=kept hb3 Rd.byL (by go_simp)
 have b0:W3.cell? ⟨w.heap.size+1,0,none⟩=some (.slice c3 sa.length n3):=kept hb3 Rd.byL (by go_simp)
 have b1:W3.cell? ⟨w.heap.size+1,1,none⟩=some (.slice c4 ka.length n4):=kept hb3 Rd.byL (by go_simp)
 have r0:W3.cell? ⟨w.heap.size+1+1,0,none⟩=some (.slice none 0 0):=kept hb3 Rd.byL (by go_simp)
 have r1:W3.cell? ⟨w.heap.size+1+1,1,none⟩=some (.slice none 0 0):=kept hb3 Rd.byL (by go_simp)
 have r2:W3.cell? ⟨w.heap.size+1+1,2,none⟩=some (.bool false):=kept hb3 Rd.byL (by go_simp)
 have f0:W3.frozen? ⟨w.heap.size+1+1,0,none⟩=false:=keptf hb3 Rd.byL (by go_simp)
 have f1:W3.frozen? ⟨w.heap.size+1+1,1,none⟩=false:=keptf hb3 Rd.byL (by go_simp)
 have f2:W3.frozen? ⟨w.heap.size+1+1,2,none⟩=false:=keptf hb3 Rd.byL (by go_simp)
 have s0:W3.cell? ⟨w2.heap.size,0,none⟩=some (.slice g1 sa.length d1):=by rw [hW3];go_simp
 have s1:W3.cell? ⟨w2.heap.size,1,none⟩=some (.slice g2 ka.length d2):=by rw [hW3];go_simp
 have s2:W3.cell? ⟨w2.heap.size,2,none⟩=some (.bool false):=by rw [hW3];go_simp
 have hsz3:W3.heap.size=w2.heap.size+1:=by rw [hW3];simp
 have T1:Hid (TR W3 (w.heap.size+3) (.slice g1 sa.length d1) (zn c 0 sa sb)):=by
  show TR _ _ _ _
  rw [zn_zero];exact (R1.out.below (by rw [hW3];exact Rd.byB)).low Rd.byL
 have T2:Hid (TR W3 (w.heap.size+3) (.slice g2 ka.length d2) (zn c 0 ka kb)):=by
  show TR _ _ _ _
  rw [zn_zero];exact (R2.out.below (by rw [hW3];exact Rd.byB)).low Rd.byL
 have q1:Hid (∀ g,(Value.slice g1 sa.length d1).ownBlock=some g→w.heap.size+3≤g∧g < w2.heap.size):=fun g hg=>by have:=R1.out.lt hg;(try simp at this);omega
 have q2:Hid (∀ g,(Value.slice g2 ka.length d2).ownBlock=some g→w.heap.size+3≤g∧g < w2.heap.size):=fun g hg=>by have:=R2.out.lt hg;(try simp at this);omega
 have nX:∀ b,b < w.heap.size→w.heap.size≤b→False:=fun b h1 h2=>by omega
 have SA:=Lib.hid (S1.out.below (X':=fun k=>w.heap.size≤k) hbW (fun b h1 h2=>(nX b h1 h2).elim));have SB:=Lib.hid (S2.out.below (X':=fun k=>w.heap.size≤k) hbW (fun b h1 h2=>(nX b h1 h2).elim));have KA:=Lib.hid (K1.out.below (X':=fun k=>w.heap.size≤k) hbW (fun b h1 h2=>(nX b h1 h2).elim));have KB:=Lib.hid (K2.out.below (X':=fun k=>w.heap.size≤k) hbW (fun b h1 h2=>(nX b h1 h2).elim));have oks:Hid (TsOk sa∧TsOk sb∧TsOk ka∧TsOk kb):=⟨S1.out.2,S2.out.2,K1.out.2,K2.out.2⟩;have CW:=Lib.hid (HC.out.next hbW);rw [← hW3];clear hW3 hb2 R1 R2 S1 S2 K1 K2 HV hb3
 go_loopw [31] (fun v wr=>∃ n:Nat,v=.int .i64 n∧n≤sa.length∧Hid (Kp (fun k=>(Value.slice g1 sa.length d1).ownBlock=some k) W3 wr)∧Hid (TR wr (w.heap.size+3) (.slice g1 sa.length d1) (zn c n sa sb))) (fun v _=>sa.length - (intOf v).toNat)
 case atStart=>exact ⟨0,rfl,Nat.zero_le _,Kp.refl _ _,T1⟩
 case round =>
  obtain ⟨n,rfl,hn,KP,TN⟩:=hrel;have ne:∀ k,(w.heap.size+3≤k→w2.heap.size≤k)→¬ (Value.slice g1 sa.length d1).ownBlock=some k:=fun k hk e=>by have:=q1.out k e;omega
  have a0':=KP.out.cell a0 (ne _ (by omega))
  have a1':=KP.out.cell a1 (ne _ (by omega))
  have b0':=KP.out.cell b0 (ne _ (by omega))
  have b1':=KP.out.cell b1 (ne _ (by omega))
  have r0':=KP.out.cell r0 (ne _ (by omega))
  have r1':=KP.out.cell r1 (ne _ (by omega))
  have r2':=KP.out.cell r2 (ne _ (by omega))
  have f0':=KP.out.frz f0 (cell_lt r0) (ne _ (by omega))
  have f1':=KP.out.frz f1 (cell_lt r0) (ne _ (by omega))
  have f2':=KP.out.frz f2 (cell_lt r0) (ne _ (by omega))
  have s0':=KP.out.cell s0 (ne _ (by omega))
  have s1':=KP.out.cell s1 (ne _ (by omega))
  have s2':=KP.out.cell s2 (ne _ (by omega))
  have hszr:=KP.out.size
  by_cases hlt:n < sa.length
  ·clear a0 a1 b0 b1 r0 r1 r2 f0 f1 f2 s0 s1 s2;obtain ⟨pa,oa,pcap,e1,_,_,lpa,npa,hca⟩:=SA.out.cells (by omega)
   obtain ⟨pb,ob,pcap2,e2,_,_,lpb,npb,hcb⟩:=SB.out.cells (by rw [← hsl'.out];omega)
   simp only [Value.slice.injEq,true_and] at e1;obtain ⟨rfl,rfl⟩:=e1;rw [← hsl'.out] at e2;simp only [Value.slice.injEq,true_and] at e2;obtain ⟨rfl,rfl⟩:=e2;obtain ⟨z0,z1⟩:=hca n hlt;obtain ⟨y0,y1⟩:=hcb n (by rw [← hsl'.out];exact hlt)
   obtain ⟨og,dcap,e3,_,_,k3,k4,hcs⟩:=TN.out.form (by rw [zn_len];omega)
   rw [zn_len] at e3;simp only [Value.slice.injEq,true_and] at e3;obtain ⟨rfl,rfl⟩:=e3;obtain ⟨x0,x1,x2,x3⟩:=hcs n (by rw [zn_len];exact hlt)
   have hq:=q1.out og rfl;have npa':¬ og=pa:=fun e=>by omega
   have npb':¬ og=pb:=fun e=>by omega
   have npa2:¬ pa=og:=fun e=>by omega
   have npb2:¬ pb=og:=fun e=>by omega
   have no1:¬ og=w.heap.size:=by omega
   have no2:¬ og=w.heap.size+1:=by omega
   have no3:¬ og=w2.heap.size:=by omega
   have no4:¬ w.heap.size=og:=by omega
   have no5:¬ w.heap.size+1=og:=by omega
   have no6:¬ w2.heap.size=og:=by omega
   replace z0:=KP.out.cell z0 (fun e=>npa' (by simpa [Value.ownBlock] using e))
   replace z1:=KP.out.cell z1 (fun e=>npa' (by simpa [Value.ownBlock] using e))
   replace y0:=KP.out.cell y0 (fun e=>npb' (by simpa [Value.ownBlock] using e))
   replace y1:=KP.out.cell y1 (fun e=>npb' (by simpa [Value.ownBlock] using e))
   obtain ⟨⟨xk,xc⟩,hA⟩:∃ x,Hid (sa.getD n none_=x):=⟨_,Lib.hid rfl⟩;obtain ⟨⟨yk,yc⟩,hB⟩:∃ x,Hid (sb.getD n none_=x):=⟨_,Lib.hid rfl⟩;obtain ⟨⟨uk,uc⟩,hU⟩:∃ x,Hid ((zn c n sa sb).getD n none_=x):=⟨_,Lib.hid rfl⟩;rw [hA.out] at z0 z1;rw [hB.out] at y0 y1;rw [hU.out] at x0 x1;simp only at z0 z1 y0 y1 x0 x1;obtain ⟨⟨rk,rc⟩,hR⟩:∃ x,Hid (Flow.both c ⟨xk,xc⟩ ⟨yk,yc⟩=x):=⟨_,Lib.hid rfl⟩
   have hRt:TOk ⟨rk,rc⟩:=by
    rw [← hR.out,← hA.out,← hB.out];exact tok_both hm (Chk.getD_wf HW1.out n) (Chk.getD_wf HW3.out n) (TsOk.getD (oks.out.1) n) (TsOk.getD (oks.out.2.1) n)
   have i1:(n:Int) < sa.length:=by omega
   have hbR:Below w.heap.size w wr:=hbW.trans (KP.out.below (by have:=hbW.size;omega) (fun k e=>by have:=q1.out k e;omega))
   have CR:=Lib.hid (HC.out.next hbR);clear hca hcb hcs
   go_wp2_with fail
   refine Drawn.hd (fun w'=>(w'.cell? ⟨w2.heap.size,0,none⟩=some (.slice (some ⟨og,0,none⟩) sa.length d1)∧w'.cell? ⟨w.heap.size,0,none⟩=some (.slice (some ⟨pa,oa,none⟩) sa.length n1)∧w'.cell? ⟨w.heap.size+1,0,none⟩=some (.slice (some ⟨pb,ob,none⟩) sa.length n3))∧(w'.cell? ⟨pa,oa+n*2,none⟩=some (.int .i64 xk)∧w'.cell? ⟨pa,oa+n*2+1,none⟩=some (.int .i64 xc))∧w'.cell? ⟨pb,ob+n*2,none⟩=some (.int .i64 yk)∧w'.cell? ⟨pb,ob+n*2+1,none⟩=some (.int .i64 yc)) (hS:=by (try dsimp only);exact ⟨⟨s0',a0',b0'⟩,⟨z0,z1⟩,y0,y1⟩) (h:=fun hHeld=>?_)
   refine dT 0 34 ?_;refine dT 1 35 ?_;refine dT 2 36 ?_;refine dT 3 37 ?_;refine dT 4 38 ?_;refine dT 5 39 ?_;refine dT 6 40 ?_;refine dT 7 41 ?_;refine dT 8 42 ?_;refine dT 9 43 ?_;refine dT 10 44 ?_;refine dT 11 45 ?_;refine dT 12 46 ?_;refine dT 13 47 ?_;refine Drawn.cl 14 (fun K hK=>?_);go_simp
   go_at_call 194
   refine (both (CR.out.next (by exact Rd.byB)) hwf ⟨xk,xc⟩ ⟨yk,yc⟩).mono ?_
   rintro e w4 ⟨rfl,hb4⟩;rw [hR.out];have hb4r:Below wr.heap.size wr w4:=Below.trans (by exact Rd.byB) (hb4.mono Rd.byL)
   have t0:=kept hb4r (cell_lt s0') s0';have t1:=kept hb4r (cell_lt a0') a0';have t2:=kept hb4r (cell_lt b0') b0';have t3:=kept hb4r (cell_lt z0) z0;have t4:=kept hb4r (cell_lt z1) z1;have t5:=kept hb4r (cell_lt y0) y0;have t6:=kept hb4r (cell_lt y1) y1;have t7:=kept hb4r k4 x0;have t8:=kept hb4r k4 x1;have t9:=keptf hb4r k4 x2;have t10:=keptf hb4r k4 x3
   go_wp2_with fail
   refine Drawn.bk hK (hS:=by (try dsimp only);exact ⟨⟨t0,t1,t2⟩,⟨t3,t4⟩,t5,t6⟩) (h:=fun hHeld=>?_)
   clear hK K;refine dT 15 49 ?_;refine Drawn.cl 16 (fun K hK=>?_);go_simp;refine Drawn.bk hK (hS:=by (try dsimp only);refine ⟨⟨?_,?_,?_⟩,⟨?_,?_⟩,?_,?_⟩ <;> go_simp) (h:=fun hHeld=>?_)
   clear hK K;refine dN ?_
   have TN2:Hid (TR ((w4.setCell ⟨og,n*2,none⟩ (.int .i64 rk)).setCell ⟨og,n*2+1,none⟩ (.int .i64 rc)) (w.heap.size+3) (.slice (some ⟨og,0,none⟩) sa.length d1) (zn c (n+1) sa sb)):=by
    show TR _ _ _ _
    rw [zn_succ n hlt,hA.out,hB.out,hR.out];have h:=TR.set (l:=zn c n sa sb) (by rw [zn_len];exact TN.out.below hb4r) (i:=n) (by rw [zn_len];exact hlt) hRt
    rw [zn_len] at h;exact h
   have KP2:Hid (Kp (fun k=>(Value.slice (some ⟨og,0,none⟩) sa.length d1).ownBlock=some k) W3 ((w4.setCell ⟨og,n*2,none⟩ (.int .i64 rk)).setCell ⟨og,n*2+1,none⟩ (.int .i64 rc))):=((kpb2 KP.out hb4r).setCell (p:=⟨og,n*2,none⟩) (.inl rfl) _).setCell (p:=⟨og,n*2+1,none⟩) (.inl rfl) _
   go_wp2
   exact ⟨⟨n+1,by simp,hlt,KP2,TN2⟩,by simp only [intOf];omega⟩
  ·obtain rfl:n=sa.length:=by omega
   obtain ⟨wo,rfl⟩:∃ wo:World,wo=wr:=⟨_,rfl⟩;have hbo:Below w.heap.size w wo:=hbW.trans (KP.out.below (by have:=hbW.size;omega) (fun k e=>by have:=q1.out k e;omega))
   have TF:=TN;have T2o:Hid (TR wo (w.heap.size+3) (.slice g2 ka.length d2) (zn c 0 ka kb)):=T2.out.keep KP.out (fun g hg e=>N12.out g e hg);have KA2:=Lib.hid (KA.out.next (X':=fun k=>w.heap.size≤k) KP.out (fun b _ e=>by have:=q1.out b e;omega) (fun _ _ e=>e))
   have KB2:=Lib.hid (KB.out.next (X':=fun k=>w.heap.size≤k) KP.out (fun b _ e=>by have:=q1.out b e;omega) (fun _ _ e=>e))
   replace a0:=a0';replace a1:=a1';replace b0:=b0';replace b1:=b1';replace r0:=r0';replace r1:=r1';replace r2:=r2';replace f0:=f0';replace f1:=f1';replace f2:=f2';replace s0:=s0';replace s1:=s1';replace s2:=s2';clear a0' a1' b0' b1' r0' r1' r2' f0' f1' f2' s0' s1' s2' ne KP TN T1 T2 SA SB KA KB CW hlt hn
   go_wp2_with fail
   go_loopw [54] (fun v wr=>∃ n:Nat,v=.int .i64 n∧n≤ka.length∧Hid (Kp (fun k=>(Value.slice g2 ka.length d2).ownBlock=some k) wo wr)∧Hid (TR wr (w.heap.size+3) (.slice g2 ka.length d2) (zn c n ka kb))∧Hid (∀ j,j < n→(Flow.both c (ka.getD j none_) (kb.getD j none_)).kind≠0)) (fun v _=>ka.length - (intOf v).toNat)
   case atStart=>exact ⟨0,rfl,Nat.zero_le _,Kp.refl _ _,T2o,fun j h=>absurd h (by omega)⟩
   case round =>
    obtain ⟨n,rfl,hn,KP,TN,hall⟩:=hrel;have ne:∀ k,(w.heap.size+3≤k→w2.heap.size≤k)→¬ (Value.slice g2 ka.length d2).ownBlock=some k:=fun k hk e=>by have:=q2.out k e;omega
    have a1':=KP.out.cell a1 (ne _ (by omega))
    have b1':=KP.out.cell b1 (ne _ (by omega))
    have r0':=KP.out.cell r0 (ne _ (by omega))
    have r1':=KP.out.cell r1 (ne _ (by omega))
    have r2':=KP.out.cell r2 (ne _ (by omega))
    have f0':=KP.out.frz f0 (cell_lt r0) (ne _ (by omega))
    have f1':=KP.out.frz f1 (cell_lt r0) (ne _ (by omega))
    have f2':=KP.out.frz f2 (cell_lt r0) (ne _ (by omega))
    have s0':=KP.out.cell s0 (ne _ (by omega))
    have s1':=KP.out.cell s1 (ne _ (by omega))
    have s2':=KP.out.cell s2 (ne _ (by omega))
    have hszo:=KP.out.size;have lro:=cell_lt r0';have hbR0:Below w.heap.size w wr:=hbo.trans (KP.out.below hbo.size (fun k e=>by have:=q2.out k e;omega))
    by_cases hlt:n < ka.length
    ·clear a0 a1 b0 b1 r0 r1 r2 f0 f1 f2 s0 s1 s2;obtain ⟨pa,oa,pcap,e1,_,_,lpa,npa,hca⟩:=KA2.out.cells (by omega)
     obtain ⟨pb,ob,pcap2,e2,_,_,lpb,npb,hcb⟩:=KB2.out.cells (by rw [← hkl'.out];omega)
     simp only [Value.slice.injEq,true_and] at e1;obtain ⟨rfl,rfl⟩:=e1;rw [← hkl'.out] at e2;simp only [Value.slice.injEq,true_and] at e2;obtain ⟨rfl,rfl⟩:=e2;obtain ⟨z0,z1⟩:=hca n hlt;obtain ⟨y0,y1⟩:=hcb n (by rw [← hkl'.out];exact hlt)
     obtain ⟨og,dcap,e3,_,_,k3,k4,hcs⟩:=TN.out.form (by rw [zn_len];omega)
     rw [zn_len] at e3;simp only [Value.slice.injEq,true_and] at e3;obtain ⟨rfl,rfl⟩:=e3;obtain ⟨x0,x1,x2,x3⟩:=hcs n (by rw [zn_len];exact hlt)
     have hq:=q2.out og rfl;have npa':¬ og=pa:=fun e=>by omega
     have npb':¬ og=pb:=fun e=>by omega
     have npa2:¬ pa=og:=fun e=>by omega
     have npb2:¬ pb=og:=fun e=>by omega
     have no1:¬ og=w.heap.size:=by omega
     have no2:¬ og=w.heap.size+1:=by omega
     have no3:¬ og=w2.heap.size:=by omega
     have no4:¬ w.heap.size=og:=by omega
     have no5:¬ w.heap.size+1=og:=by omega
     have no6:¬ w2.heap.size=og:=by omega
     replace z0:=KP.out.cell z0 (fun e=>npa' (by simpa [Value.ownBlock] using e))
     replace z1:=KP.out.cell z1 (fun e=>npa' (by simpa [Value.ownBlock] using e))
     replace y0:=KP.out.cell y0 (fun e=>npb' (by simpa [Value.ownBlock] using e))
     replace y1:=KP.out.cell y1 (fun e=>npb' (by simpa [Value.ownBlock] using e))
     obtain ⟨⟨xk,xc⟩,hA⟩:∃ x,Hid (ka.getD n none_=x):=⟨_,Lib.hid rfl⟩;obtain ⟨⟨yk,yc⟩,hB⟩:∃ x,Hid (kb.getD n none_=x):=⟨_,Lib.hid rfl⟩;obtain ⟨⟨uk,uc⟩,hU⟩:∃ x,Hid ((zn c n ka kb).getD n none_=x):=⟨_,Lib.hid rfl⟩;rw [hA.out] at z0 z1;rw [hB.out] at y0 y1;rw [hU.out] at x0 x1;simp only at z0 z1 y0 y1 x0 x1;obtain ⟨⟨rk,rc⟩,hR⟩:∃ x,Hid (Flow.both c ⟨xk,xc⟩ ⟨yk,yc⟩=x):=⟨_,Lib.hid rfl⟩
     have hRt:TOk ⟨rk,rc⟩:=by
      rw [← hR.out,← hA.out,← hB.out];exact tok_both hm (Chk.getD_wf HW2.out n) (Chk.getD_wf HW4.out n) (TsOk.getD (oks.out.2.2.1) n) (TsOk.getD (oks.out.2.2.2) n)
     have i1:(n:Int) < ka.length:=by omega
     have hbR:Below w.heap.size w wr:=hbR0;have CR:=Lib.hid (HC.out.next hbR);clear hca hcb hcs
     go_wp2_with fail
     refine Drawn.hd (fun w'=>(w'.cell? ⟨w2.heap.size,1,none⟩=some (.slice (some ⟨og,0,none⟩) ka.length d2)∧w'.cell? ⟨w.heap.size,1,none⟩=some (.slice (some ⟨pa,oa,none⟩) ka.length n2)∧w'.cell? ⟨w.heap.size+1,1,none⟩=some (.slice (some ⟨pb,ob,none⟩) ka.length n4))∧(w'.cell? ⟨pa,oa+n*2,none⟩=some (.int .i64 xk)∧w'.cell? ⟨pa,oa+n*2+1,none⟩=some (.int .i64 xc))∧w'.cell? ⟨pb,ob+n*2,none⟩=some (.int .i64 yk)∧w'.cell? ⟨pb,ob+n*2+1,none⟩=some (.int .i64 yc)) (hS:=by (try dsimp only);exact ⟨⟨s1',a1',b1'⟩,⟨z0,z1⟩,y0,y1⟩) (h:=fun hHeld=>?_)
     refine dT 0 57 ?_;refine dT 1 58 ?_;refine dT 2 59 ?_;refine dT 3 60 ?_;refine dT 4 61 ?_;refine dT 5 62 ?_;refine dT 6 63 ?_;refine dT 7 64 ?_;refine dT 8 65 ?_;refine dT 9 66 ?_;refine dT 10 67 ?_;refine dT 11 68 ?_;refine dT 12 69 ?_;refine dT 13 70 ?_;refine Drawn.cl 14 (fun K hK=>?_);go_simp
     go_at_call 194
     refine (both (CR.out.next (by exact Rd.byB)) hwf ⟨xk,xc⟩ ⟨yk,yc⟩).mono ?_
     rintro e w4 ⟨rfl,hb4⟩;rw [hR.out];have hb4r:Below wr.heap.size wr w4:=Below.trans (by exact Rd.byB) (hb4.mono Rd.byL)
     have t0:=kept hb4r (cell_lt s1') s1';have t1:=kept hb4r (cell_lt a1') a1';have t2:=kept hb4r (cell_lt b1') b1';have t3:=kept hb4r (cell_lt z0) z0;have t4:=kept hb4r (cell_lt z1) z1;have t5:=kept hb4r (cell_lt y0) y0;have t6:=kept hb4r (cell_lt y1) y1;have t7:=kept hb4r k4 x0;have t8:=kept hb4r k4 x1;have t9:=keptf hb4r k4 x2;have t10:=keptf hb4r k4 x3
     go_wp2_with fail
     refine Drawn.bk hK (hS:=by (try dsimp only);exact ⟨⟨t0,t1,t2⟩,⟨t3,t4⟩,t5,t6⟩) (h:=fun hHeld=>?_)
     clear hK K;refine dT 15 72 ?_;refine Drawn.cl 16 (fun K hK=>?_);go_simp;refine Drawn.bk hK (hS:=by (try dsimp only);refine ⟨⟨?_,?_,?_⟩,⟨?_,?_⟩,?_,?_⟩ <;> go_simp) (h:=fun hHeld=>?_)
     clear hK K;refine dN ?_
     have TN2:Hid (TR ((w4.setCell ⟨og,n*2,none⟩ (.int .i64 rk)).setCell ⟨og,n*2+1,none⟩ (.int .i64 rc)) (w.heap.size+3) (.slice (some ⟨og,0,none⟩) ka.length d2) (zn c (n+1) ka kb)):=by
      show TR _ _ _ _
      rw [zn_succ n hlt,hA.out,hB.out,hR.out];have h:=TR.set (l:=zn c n ka kb) (by rw [zn_len];exact TN.out.below hb4r) (i:=n) (by rw [zn_len];exact hlt) hRt
      rw [zn_len] at h;exact h
     have KP2:Hid (Kp (fun k=>(Value.slice (some ⟨og,0,none⟩) ka.length d2).ownBlock=some k) wo ((w4.setCell ⟨og,n*2,none⟩ (.int .i64 rk)).setCell ⟨og,n*2+1,none⟩ (.int .i64 rc))):=((kpb2 KP.out hb4r).setCell (p:=⟨og,n*2,none⟩) (.inl rfl) _).setCell (p:=⟨og,n*2+1,none⟩) (.inl rfl) _;have hbF:Below w.heap.size w ((w4.setCell ⟨og,n*2,none⟩ (.int .i64 rk)).setCell ⟨og,n*2+1,none⟩ (.int .i64 rc)):=hbo.trans (KP2.out.below hbo.size (fun k e=>by have:=q2.out k e;omega))
     have nrg:¬ w.heap.size+1+1=og:=by omega
     have ngr:¬ og=w.heap.size+1+1:=by omega
     have u0:=kept hb4r (cell_lt r0') r0';have u1:=kept hb4r (cell_lt r1') r1';have u2:=kept hb4r (cell_lt r2') r2';have v0:=keptf hb4r (cell_lt r0') f0';have v1:=keptf hb4r (cell_lt r0') f1';have v2:=keptf hb4r (cell_lt r0') f2'
     by_cases hk0:rk=0
     ·subst hk0
      go_wp2
      refine bodyPost_ret (v:=.agg #[.slice none 0 0,.slice none 0 0,.bool true]) (by simp [results,Try.results145,go_sem] <;> go_simp) rfl ?_
      refine togBad ?_ (by exact Rd.byB)
      rw [hrow.out,if_pos (any_zip hkl'.out hlt (by rw [hA.out,hB.out,hR.out]))]
     ·have hk0b:(rk==0)=false:=by simpa using hk0
      go_wp2
      refine ⟨⟨n+1,by simp,hlt,KP2,TN2,fun j hj=>?_⟩,by simp only [intOf];omega⟩
      by_cases hj2:j < n
      ·exact hall.out j hj2
      ·obtain rfl:j=n:=by omega
       rw [hA.out,hB.out,hR.out];exact hk0
    ·obtain rfl:n=ka.length:=by omega
     have hz:(zip c ka kb).any (fun x=>decide (x.kind=0))=false:=no_zip hkl'.out hall.out;have hres:Hid (res=⟨zip c sa sb,zip c ka kb,false⟩):=by show _=_;rw [hrow.out,if_neg (by rw [hz];simp)]
     clear a0 a1 b0 b1 r0 r1 r2 f0 f1 f2 s0 s1 s2;have nrs:¬ w.heap.size+1+1=w2.heap.size:=by omega
     have nsr:¬ w2.heap.size=w.heap.size+1+1:=by omega
     go_wp2
     refine bodyPost_ret (v:=.agg #[.slice g1 sa.length d1,.slice g2 ka.length d2,.bool false]) (by simp [results,Try.results145,go_sem] <;> go_simp) rfl ?_
     have KS:∀ (W:World) (j:Nat) (u:Value),Kp (fun k=>k=w.heap.size+1+1) wr W→Kp (fun k=>k=w.heap.size+1+1) wr (W.setCell ⟨w.heap.size+1+1,j,none⟩ u):=fun W j u K=>K.setCell (p:=⟨w.heap.size+1+1,j,none⟩) (.inl rfl) u;have KSS:=KS _ 2 (.bool false) (KS _ 1 (.slice g2 ka.length d2) (KS _ 0 (.slice g1 sa.length d1) (Kp.refl _ wr)));rw [hres.out]
     have TA:TR wr (w.heap.size+3) (.slice g1 sa.length d1) (zip c sa sb):=by
      have h:=TF.out.keep KP.out (fun g hg e=>N12.out g hg e);rw [zn_all hsl'.out] at h;exact h
     have TB:TR wr (w.heap.size+3) (.slice g2 ka.length d2) (zip c ka kb):=by
      have h:=TN.out;rw [zn_all hkl'.out] at h;exact h
     refine ⟨_,rfl,⟨_,_,rfl,(TA.keep KSS (fun g hg e=>?_)).ts (fun g hg e=>?_),(TB.keep KSS (fun g hg e=>?_)).ts (fun g hg e=>?_)⟩,hbR0.trans (KSS.below hbR0.size (fun k e=>by omega))⟩
     ·have:=(TA.lt hg).1;omega
     ·have:=(TA.lt hg).1;omega
     ·have:=(TB.lt hg).1;omega
     ·have:=(TB.lt hg).1;omega
theorem together (hm:Hier.may c=true) (hc:Cs w vc c) (ha:VSt w X va a) (hb:VSt w X2 vb b) (oa:StOk c.length nl ns a) (ob:StOk c.length nl ns b) (hnl:nl≤1000) (hns:ns≤1000):Calls Try.prog 145 #[vc,va,vb] w (TogR w (Flow.together c a b)):=by
 by_cases h:a.broken=true∨b.broken=true∨a.stack.length≠b.stack.length
 ·exact tog1 hm hc ha hb h
 ·have h1:a.broken=false:=by
                                     cases h':a.broken;· rfl
                                     · exact absurd (.inl h') h
  have h2:b.broken=false:=by
                                     cases h':b.broken;· rfl
                                     · exact absurd (.inr (.inl h')) h
  obtain ⟨a1,a2,a3,a4,a5⟩:=oa.2 h1;obtain ⟨b1,b2,b3,b4,b5⟩:=ob.2 h2;exact tog2 hm hc ha hb h1 h2 (by omega) (Decidable.byContradiction fun e=>h (.inr (.inr e))) a3 a4 b3 b4 (by omega) (by omega)
end
end Sck
namespace Sck
open Num Rd D Mem Hpw Flow HierW FormW
theorem info_i:(Try.prog.info? 3).map (fun i=>(i.zero,i.size,i.bytes))=some (some (.int .i64 0),1,8):=by kernel_rfl
theorem news_i {W:World}{l:List Value}{T:TypeId}{b:Nat}(hb:b=W.heap.size):∀ j u,l[j]? = some u→(W.alloc (.cells l.toArray T)).cell? ((⟨b,0,none⟩:Addr).add j)=some u:=fun j u hj=>by
 subst hb;have hadd:(⟨W.heap.size,0,none⟩:Addr).add j=⟨W.heap.size,j,none⟩:=by unfold Addr.add;split <;> simp_all
 rw [hadd,World.cell?_alloc_new]
 simpa using hj
theorem wcells_append (l m:List Nat):wcells (l++m)=wcells l++wcells m:=by unfold wcells;rw [List.map_append]
section
variable {E:FE}{w w':World}{vw:Value}{R:Flow.Run}{nl ns len:Nat}{v:Value}{s:State}
def LeadR (E:FE) (vw:Value) (w:World) (R:Flow.Run) (e:Ending) (w':World):Prop :=
 e=.returned (.tuple #[])∧∃ vw',Fw E w' vw' R∧Kp (zone E vw) w w'∧∀ k,zone E vw' k→zone E vw k∨w.heap.size≤k
theorem zlt (F:Fw E w vw R):∀ k,zone E vw k→k < w.heap.size:=fun k hk=>(zone_lo F hk).2
set_option maxRecDepth 100000 in
theorem lead0 (F:Fw E w vw R) (hv:VSt w (zone E vw) v s) (a:Nat) (ha:¬ a < R.states.length):Calls Try.prog 93 #[.pointer (some ⟨E.fb,0,none⟩),.int .i64 a,v] w (LeadR E vw w (Flow.lead E.f.classes R a s)):=by
 have e:Flow.lead E.f.classes R a s=R:=by unfold Flow.lead;rw [if_neg ha]
 rw [e];obtain ⟨x,y,rfl,t1,t2⟩:=hv;obtain ⟨c1,n1,rfl,_⟩:=t1.len;obtain ⟨c2,n2,rfl,_⟩:=t2.len;have HF:=Lib.hid F;have l1:=(F.fl 1 (by simp)).1
 have hfb:=zlt F E.fb (.inl rfl);have hfb1:E.fb < w.heap.size+1:=by omega
 simp only [List.getElem_cons_zero,List.getElem_cons_succ] at l1;have hge:(R.states.length:Int)≤a:=by omega
 clear F
 go_enter Try.func93,Try.ntmps93
 go_wp2
 ((try simp only [Exit.inBlock,Exit.then]);refine bodyPost_ret (results_none rfl _ _ _) rfl ?_)
 exact ⟨rfl,vw,HF.out.below (by exact Rd.byB),Kp.of_below (by exact Rd.byB) (Nat.le_refl _),fun k hk=>.inl hk⟩
set_option maxRecDepth 100000 in
theorem lead1 (F:Fw E w vw R) (hv:VSt w (zone E vw) v s) (h1:s.slots.length≤1000) (h2:s.stack.length≤1000) (a:Nat) (ha:a < R.states.length) (hn:R.states.getD a none=none) (hwl:R.work.length≤100000000):Calls Try.prog 93 #[.pointer (some ⟨E.fb,0,none⟩),.int .i64 a,v] w (LeadR E vw w (Flow.lead E.f.classes R a s)):=by
 have e:Flow.lead E.f.classes R a s=⟨R.states.set a (some s),R.work++[a],R.bad⟩:=by unfold Flow.lead;rw [if_pos ha,hn]
 rw [e];obtain ⟨io,hi',hy0,hy1,hy2⟩:=info_parts info_i;have HV:=Lib.hid hv;obtain ⟨x,y,rfl,t1,t2⟩:=hv;obtain ⟨c1,n1,rfl,_⟩:=t1.len;obtain ⟨c2,n2,rfl,_⟩:=t2.len;obtain ⟨sl,st,br⟩:=s;simp only at h1 h2 HV t1 t2;clear t1 t2;have HF:=Lib.hid F;have zl:=zlt F;have l1:=(F.fl 1 (by simp)).1
 have hfb:=zlt F E.fb (.inl rfl);have hsb:=zlt F E.sb (.inr (.inr (.inl rfl)));have hfb1:E.fb < w.heap.size+1:=by omega
 have hsb1:E.sb < w.heap.size+1:=by omega
 simp only [List.getElem_cons_zero,List.getElem_cons_succ] at l1;obtain ⟨v0,k0,fz0,p0⟩:=F.st a ha;rw [hn] at p0
 obtain rfl:v0=.pointer none:=p0
 have ha2:(a:Int) < R.states.length:=by omega
 have H1:=Lib.hid h1;have H2:=Lib.hid h2;have HWL:=Lib.hid hwl;have hap:=F.some_.2;have hne:=F.ne;have hn1:¬ E.sb=E.fb:=fun e=>hne.2.1 e.symm;have hn2:¬ E.fb=E.sb:=hne.2.1;obtain ⟨wa,wcap,evw⟩:=row_any F.wk;have EVW:=Lib.hid evw;clear F h1 h2 hwl hn e evw
 go_enter Try.func93,Try.ntmps93
 go_wp2_with fail
 refine (clone (HV.out.below (X':=fun _=>False) (by exact Rd.byB) (fun _ _ e=>e.elim)) (Nat.le_trans H1.out (by decide)) (Nat.le_trans H2.out (by decide))).mono ?_
 rintro e w2 ⟨vs,vk,rfl,R1,R2,N12,hb2⟩;obtain ⟨g1,d1,rfl⟩:=R1.any;obtain ⟨g2,d2,rfl⟩:=R2.any;replace R1:=Lib.hid R1;replace R2:=Lib.hid R2;simp only;have hb2w:Below w.heap.size w w2:=Below.trans (by exact Rd.byB) (hb2.mono Rd.byL)
 have l1':=kept hb2w hfb l1;have k0':=kept hb2w hsb k0;have fz0':=keptf hb2w hsb fz0;have hs2:=hb2.size;simp at hs2;have hfb2:E.fb < w2.heap.size:=by omega
 have hsb2:E.sb < w2.heap.size:=by omega
 go_upto_region 9 with (fail)
 have hbx:Below w.heap.size w (w2.alloc (.cells #[.slice g1 sl.length d1,.slice g2 st.length d2,.bool br] 157)):=hb2w.alloc hb2w.size _;have F3:=HF.out.below hbx;have nz:∀ k,w.heap.size≤k→¬ zone E vw k:=fun k h1 h2=>by have:=zl k h2;omega
 have hal:Below w2.heap.size w2 (w2.alloc (.cells #[.slice g1 sl.length d1,.slice g2 st.length d2,.bool br] 157)):=(Below.refl _ _).alloc (Nat.le_refl _) _
 have hP:PSt (w2.alloc (.cells #[.slice g1 sl.length d1,.slice g2 st.length d2,.bool br] 157)) (zone E vw) (.pointer (some ⟨w2.heap.size,0,none⟩)) (some ⟨sl,st,br⟩) :=
  ⟨w2.heap.size,_,_,rfl,nz _ (by omega),by go_simp,by go_simp,by go_simp,(R1.out.below hal).ts (fun g hg=>nz g (by have:=(R1.out.lt hg).1;simp at this;omega)),(R2.out.below hal).ts (fun g hg=>nz g (by have:=(R2.out.lt hg).1;simp at this;omega))⟩
 have F4:=F3.state ha hP;have K4:Kp (zone E vw) w ((w2.alloc (.cells #[.slice g1 sl.length d1,.slice g2 st.length d2,.bool br] 157)).setCell ⟨E.sb,a,none⟩ (.pointer (some ⟨w2.heap.size,0,none⟩))):=(Kp.of_below hbx (Nat.le_refl _)).setCell (p:=⟨E.sb,a,none⟩) (.inl (.inr (.inr (.inl rfl)))) _;clear F3 hP;rw [World.setCell_alloc_past _ _ _ _ hsb2] at F4 K4;have hB4:=F4.base;obtain ⟨W4,hW4⟩:∃ W4,W4=(w2.setCell ⟨E.sb,a,none⟩ (.pointer (some ⟨w2.heap.size,0,none⟩))).alloc (.cells #[.slice g1 sl.length d1,.slice g2 st.length d2,.bool br] 157):=⟨_,rfl⟩;rw [← hW4] at F4 K4 hB4 ⊢;clear hW4;have m2:=(F4.fl 2 (by simp)).1
 have n2':=(F4.fl 2 (by simp)).2
 simp only [List.getElem_cons_zero,List.getElem_cons_succ] at m2;rw [EVW.out] at m2;have hfb4:=cell_lt m2;have hfb5:E.fb < W4.heap.size+1:=by omega
 have hrow:Hid (W4.ownsRow E.B 3 1 (.slice wa R.work.length wcap) R.work.length (wcells R.work)):=by
  show World.ownsRow _ _ _ _ _ _ _
  rw [← EVW.out];exact F4.wk
 have hbig:R.work.length+1≤maxLen:=by have:=HWL.out;unfold maxLen;omega
 have hbig2:(R.work.length+1)*8≤140737488355328:=by have:=HWL.out;omega
 replace hbig:=Lib.hid hbig;replace hbig2:=Lib.hid hbig2;replace F4:=Lib.hid F4;replace K4:=Lib.hid K4
 go_wp2_with (at_builtin;refine wpList_append_lies _ rfl (.tmp 57) (.tmp 59) 61 rfl E.B 3 io (.int .i64 0) 1 8 Try.underlying61 hi' hy0 hy1 hy2 rfl (by decide) (.slice wa R.work.length wcap) R.work.length (wcells R.work) (by simp [Act.eval,Act.put]) (row_alloc hrow.out _) ⟨W4.heap.size,0,none⟩ 1 1 [.int .i64 a] (by simp [Act.eval,Act.put]) rfl (by exact news_i (by simp)) (by simp [Value.oneCell']) (by decide) hbig.out hbig2.out (by simp;omega) _ rfl ?_;intro g3 cap3 w5 hown3 hgrow3 hat3 hlt3;rw [← EVW.out] at hgrow3 hat3;have K5:Kp (fun k=>vw.ownBlock=some k) W4 w5:=(Kp.of_below (by exact Rd.byB) (Nat.le_refl _)).trans (Kp.of_grown (X:=fun k=>vw.ownBlock=some k) hgrow3 (fun k e=>e)) (fun y hy=>.inl hy);have nfw:¬ vw.ownBlock=some E.fb:=(fun e=>(F4.out.far _ e).1 rfl);have m3:w5.cell? ⟨E.fb,2,none⟩=some (.slice wa R.work.length wcap):=K5.cell m2 nfw;have n3':w5.frozen? ⟨E.fb,2,none⟩=false:=K5.frz n2' hfb4 nfw;have hat4:vw.ownBlock=some g3∨W4.heap.size≤g3:=(hat3.imp id (fun e=>by rw [e];simp));have HA:=Lib.hid (F4.out.work (l:=R.work++[a]) (vn:=.slice (some ⟨g3,0,none⟩) (R.work.length+1) cap3) K5 (by rw [List.length_append,wcells_append];exact hown3) (fun g hg=>by have e:g=g3:=(by simpa [Value.ownBlock,eq_comm] using hg);subst e;exact hat4));clear hown3 hgrow3 hat3 hat4 K5)
 first | go_end0 | ((try simp only [Exit.inBlock,Exit.then]);refine bodyPost_ret (results_none rfl _ _ _) rfl ?_)
 obtain ⟨A1,A2,A3⟩:=HA.out;exact ⟨rfl,_,A1,K4.out.trans A2 (fun y hy=>.inl hy),fun k hk=>(A3 k hk).imp id (fun e=>Nat.le_trans K4.out.size e)⟩
end
end Sck
end Go.Proofs.Ytncmhenfgbcihab
