/- Parts of the proof: Ph, Pi, Pj, Pk1, Pk2, Pk3, Pk4, Pk5. -/
import Derived.Test.YtncmhenfgbcihabGreatG11
import Derived.Test.YtncmhenfgbcihabGreatG06
set_option linter.unusedSimpArgs false
set_option linter.unusedVariables false
set_option maxHeartbeats 8000000
namespace Go.Proofs.YtncmhenfgbcihabGreat
open Go.RowKit
namespace Run
end Run
namespace Hpw
open Num Rd D Run Mem HierW
def oA (a:Run.Act Sf):Out Sf:=match a with
 | .go fr h=>.go fr h
 | .back v h=>.back v h
 | .thrown o h=>.thrown o h
 | .stop e h=>.stop e h
 | .call _ _ _ h=>.stop 6 h
section
variable {E:Ev}{w w' w1 w2:World}{L L' L1:Lay}{h h' h1 h2:Hp}{d:Nat}{P:PS}{m:Me}{fr fr' fr1:Sf}{vs vs1:Value}
theorem top_getD (h:fr.stk≠[]):fr.stk.getD (fr.stk.length - 1) Vl.nil=top fr.stk:=by
 unfold top
 rw [List.getLast?_eq_getElem?,List.getD_eq_getElem?_getD]
theorem anyNo (S:ST E w L P m d h fr vs) (hn:fr.stk=[]) :
  Calls Tryz.prog 105 #[.pointer (some ⟨P.cb,0,none⟩)] w fun e w'=>e=pan (stopV 6)∧Below w.heap.size w w':=by
 obtain ⟨a,cap,hvs⟩:=row_any S.stk
 have c10:=S.c10
 rw [hvs,hn] at c10
 have hcb:=S.cbw
 simp only [List.length_nil] at c10
 clear S hvs
 go_enter Tryz.func105,Tryz.ntmps105
 go_wp2_with (go_at_call 97;refine (mustF _).mono ?_;rintro e w2 ⟨rfl,rfl⟩)
 refine And.intro rfl ?_
 exact ⟨rfl,Rd.byB⟩
set_option maxRecDepth 100000 in
theorem anyOk (S:ST E w L P m d h fr vs) (hne:fr.stk≠[]) (hbig:fr.stk.length≤1000) :
  Calls Tryz.prog 105 #[.pointer (some ⟨P.cb,0,none⟩)] w fun e w'=>e=.returned (vl (top fr.stk))∧LftF E L P m d vs w w' h ⟨fr.loc,fr.stk.dropLast,fr.at_⟩:=by
 have hpos:0 < fr.stk.length:=List.length_pos_iff.2 hne
 obtain ⟨g,cap,rfl,k1,k2,k3,k4⟩:=row_form S.stk hpos
 have c10:=S.c10
 have f10:=S.fz 10 (by decide)
 have hcb:=S.cbw
 have hcb1:P.cb < w.heap.size+1:=by omega
 have hcb2:P.cb < w.heap.size+1+1:=by omega
 have g1:g < w.heap.size+1:=by omega
 have g2:g < w.heap.size+1+1:=by omega
 obtain ⟨⟨tk,tn⟩,ht⟩:∃ t,Hid (top fr.stk=t):=⟨_,Lib.hid rfl⟩
 have z0:=row_cell S.stk (vcells_get fr.stk (fr.stk.length - 1) (by omega)).1
 have z1:=row_cell S.stk (vcells_get fr.stk (fr.stk.length - 1) (by omega)).2
 rw [top_getD hne,ht.out] at z0 z1
 rw [ht.out]
 have HS:=Lib.hid S
 obtain ⟨n,hn⟩:∃ n,fr.stk.length=n+1:=⟨fr.stk.length - 1,by omega⟩
 rw [hn,Nat.add_sub_cancel] at z0 z1
 rw [hn] at c10
 have hnb:n+1≤1000000:=by omega
 have s1:IntKind.i64.wrap (((n+1:Nat):Int) - 1)=(n:Int):=by rw [Num.wrap_i64,wrap64_id (by unfold Ok;omega)];omega
 have k1':n+1≤cap:=by omega
 unfold vl
 clear S hne hbig
 go_enter Tryz.func105,Tryz.ntmps105
 go_wp2_with (go_at_call 97;refine (mustT _).mono ?_;rintro e w2 ⟨rfl,rfl⟩)
 refine bodyPost_ret (v:=.agg #[.int .i64 tk,.int .i64 tn]) (by simp [results,Tryz.results105,go_sem] <;> go_simp) rfl ?_
 have HT:w.ownsRow E.B 46 2 (.slice (some ⟨g,0,none⟩) n cap) fr.stk.dropLast.length (vcells fr.stk.dropLast):=by
  have h1:=HS.out.stk
  rw [hn] at h1
  have h2:=row_takeV h1 (k:=n) (by omega)
  rw [List.dropLast_eq_take,hn,List.length_take,hn,vcells_take _ _ (by omega)]
  rw [show min (n+1 - 1) (n+1)=n by omega]
  exact h2
 have A:=HS.out.setStack (w2:=w) (Kp.refl _ w) HT (fun _ e=>.inl e)
 exact ⟨rfl,A.below (by exact Rd.byB)⟩
theorem ST.fo_new (S:ST E w L P m d h fr vs){b:Nat}(hb:w.heap.size≤b):¬ fo E L P vs b:=fun hk=>by have:=(S.fo_lo hk).2;omega
theorem LftF.before (hb:Below w.heap.size w w1) (A:LftF E L P m d vs w1 w2 h fr):LftF E L P m d vs w w2 h fr:=by
 obtain ⟨L1,vs1,K,N,V,S⟩:=A
 have hs:=hb.size
 exact ⟨L1,vs1,(Kp.of_below (X:=fo E L P vs) hb (Nat.le_refl _)).trans K (fun y hy=>.inl hy),fun k hk=>(N k hk).imp id (fun q=>by omega),fun k hk=>(V k hk).imp id (fun q=>by omega),S⟩
theorem LftF.box (A:LftF E L P m d vs w w' h fr){b o:Nat}{v:Value}(hc:w.cell? ⟨b,o,none⟩=some v) (hb:¬ fo E L P vs b):w'.cell? ⟨b,o,none⟩=some v:=by
 obtain ⟨L1,vs1,K,N,V,S⟩:=A
 exact K.cell hc hb
theorem LftF.boxf (A:LftF E L P m d vs w w' h fr){b o:Nat}{x:Bool}(hc:w.frozen? ⟨b,o,none⟩=x) (hl:b < w.heap.size) (hb:¬ fo E L P vs b):w'.frozen? ⟨b,o,none⟩=x:=by
 obtain ⟨L1,vs1,K,N,V,S⟩:=A
 exact K.frz hc hl hb
theorem LftF.size (A:LftF E L P m d vs w w' h fr):w.heap.size≤w'.heap.size:=by
 obtain ⟨L1,vs1,K,N,V,S⟩:=A
 exact K.size
theorem ST.res (S:ST E w L P m d h fr vs){b:Nat}(h1:E.B≤b) (h2:¬ fo E L P vs b) (j:Nat) (x:Value):ST E (w.setCell ⟨b,j,none⟩ x) L P m d h fr vs:=by
 have K:Kp (fun k=>k=b) w (w.setCell ⟨b,j,none⟩ x):=Kp.setCell (Kp.refl (fun k=>k=b) w) (p:=⟨b,j,none⟩) (.inl rfl) x
 have no:∀ k,fo E L P vs k→¬ k=b:=fun k hk e=>h2 (e ▸ hk)
 exact ⟨S.H.res h1 (fun e=>h2 (.inl e)) j x,S.M.mono (K.below S.base (fun k e=>by subst e;exact h1)),S.blk.next K (no _ (.inr (.inl rfl))),S.loc.next K (no _ (.inr (.inr (.inl rfl)))),Nat.lt_of_lt_of_le S.lbw K.size,row_keep S.stk K (fun g hg e=>no g (.inr (.inr (.inr hg))) e),S.lo,S.far,S.ne⟩
theorem LftF.res2 (S:ST E w L P m d h' fr' vs) (hb:Below w.heap.size w w1) (A:LftF E L P m d vs w1 w2 h fr){b:Nat}(h1:w.heap.size≤b) (h2:b < w1.heap.size) (x y:Value):LftF E L P m d vs w ((w2.setCell ⟨b,0,none⟩ x).setCell ⟨b,1,none⟩ y) h fr:=by
 obtain ⟨L1,vs1,K,N,V,S2⟩:=A
 have hs:=hb.size
 have hEB:=S.base
 have nf:¬ fo E L1 P vs1 b:=fun hk=>by
  have hlo:∀ k,fo E L P vs k→k < w.heap.size:=fun k hk=>(S.fo_lo hk).2
  rcases hk with e | e | e | e
  ·rcases N b e with q | q
   ·have:=hlo b (.inl q);omega
   ·omega
  ·have:=hlo b (.inr (.inl e));omega
  ·have:=hlo b (.inr (.inr (.inl e)));omega
  ·rcases V b e with q | q
   ·have:=hlo b (.inr (.inr (.inr q)));omega
   ·omega
 exact ⟨L1,vs1,(((Kp.of_below (X:=fo E L P vs) hb (Nat.le_refl _)).trans K (fun y hy=>.inl hy)).setCell (p:=⟨b,0,none⟩) (.inr h1) x).setCell (p:=⟨b,1,none⟩) (.inr h1) y,fun k hk=>(N k hk).imp id (fun q=>by omega),fun k hk=>(V k hk).imp id (fun q=>by omega),(S2.res (by omega) nf 0 x).res (by omega) nf 1 y⟩
theorem takeNo (S:ST E w L P m d h fr vs) (hn:fr.stk=[]) (k:Int) :
  Calls Tryz.prog 107 #[.pointer (some ⟨P.cb,0,none⟩),.int .i64 k] w fun e w'=>e=pan (stopV 6)∧Below w.heap.size w w':=by
 have HS:=Lib.hid S
 clear S
 go_enter Tryz.func107,Tryz.ntmps107
 go_wp2_with (go_at_call 105;refine (anyNo (HS.out.below (by exact Rd.byB)) hn).mono ?_;rintro e w2 ⟨rfl,hb2⟩;unfold pan)
 refine And.intro rfl ?_
 exact ⟨rfl,Below.trans (by exact Rd.byB) (hb2.mono Rd.byL)⟩
theorem takeBad (S:ST E w L P m d h fr vs) (hne:fr.stk≠[]) (hbig:fr.stk.length≤1000) (k:Int) (hk:(top fr.stk).kind≠k) :
  Calls Tryz.prog 107 #[.pointer (some ⟨P.cb,0,none⟩),.int .i64 k] w fun e w'=>e=pan (stopV 6)∧LftF E L P m d vs w w' h ⟨fr.loc,fr.stk.dropLast,fr.at_⟩:=by
 have HS:=Lib.hid S
 obtain ⟨⟨tk,tn⟩,ht⟩:∃ t,Hid (top fr.stk=t):=⟨_,Lib.hid rfl⟩
 rw [ht.out] at hk
 simp only at hk
 have qb:(tk==k)=false:=by simpa using hk
 clear S hk
 go_enter Tryz.func107,Tryz.ntmps107
 go_wp2_with (first | (go_at_call 105;refine (anyOk (HS.out.below (by exact Rd.byB)) hne hbig).mono ?_;rw [ht.out];unfold vl;rintro e w2 ⟨rfl,A⟩;replace A:=Lib.hid (LftF.before (w:=w) (by exact Rd.byB) A)) | (go_at_call 97;refine (mustF _).mono ?_;rintro e w3 ⟨rfl,rfl⟩))
 refine And.intro rfl ?_
 exact ⟨rfl,A.out.below (by exact Rd.byB)⟩
theorem takeOk (S:ST E w L P m d h fr vs) (hne:fr.stk≠[]) (hbig:fr.stk.length≤1000) (k:Int) (hk:(top fr.stk).kind=k) :
  Calls Tryz.prog 107 #[.pointer (some ⟨P.cb,0,none⟩),.int .i64 k] w fun e w'=>e=.returned (vl (top fr.stk))∧LftF E L P m d vs w w' h ⟨fr.loc,fr.stk.dropLast,fr.at_⟩:=by
 have HS:=Lib.hid S
 obtain ⟨⟨tk,tn⟩,ht⟩:∃ t,Hid (top fr.stk=t):=⟨_,Lib.hid rfl⟩
 rw [ht.out] at hk ⊢
 simp only at hk
 subst hk
 have nf:=HS.out.fo_new (Nat.le_refl _)
 clear S
 unfold vl
 go_enter Tryz.func107,Tryz.ntmps107
 go_wp2_with (first | (go_at_call 105;refine (anyOk (HS.out.below (by exact Rd.byB)) hne hbig).mono ?_;rw [ht.out];unfold vl;rintro e w2 ⟨rfl,A⟩;have y0:=A.box (b:=w.heap.size) (o:=0) (v:=.int .i64 0) (by go_simp) nf;have y1:=A.box (b:=w.heap.size) (o:=1) (v:=.int .i64 0) (by go_simp) nf;have y2:=A.boxf (b:=w.heap.size) (o:=0) (x:=false) (by go_simp) (by simp) nf;have y3:=A.boxf (b:=w.heap.size) (o:=1) (x:=false) (by go_simp) (by simp) nf;have sz:=A.size;have sz2:w.heap.size < w2.heap.size:=(by simp at sz;omega);clear sz;replace A:=Lib.hid A) | (go_at_call 97;refine (mustT _).mono ?_;rintro e w3 ⟨rfl,rfl⟩))
 refine bodyPost_ret (v:=.agg #[.int .i64 tk,.int .i64 tn]) (by simp [results,Tryz.results107,go_sem] <;> go_simp) rfl ?_
 refine ⟨rfl,?_⟩
 exact (LftF.res2 HS.out (by exact Rd.byB) A.out (Nat.le_refl _) (by simp) _ _).below (by exact Rd.byB)
end
end Hpw
namespace Hpw
open Num Rd D Run Mem HierW
def PutR (E:Ev) (L:Lay) (P:PS) (m:Me) (d:Nat) (vs:Value) (fr:Sf) (h:Hp) (x:Vl) (w:World) (e:Ending) (w':World):Prop :=
 ((size (fr.stk++[x]):Int)≤m.stack∧e=.returned (.tuple #[])∧LftF E L P m d vs w w' h ⟨fr.loc,fr.stk++[x],fr.at_⟩)∨(¬ (size (fr.stk++[x]):Int)≤m.stack∧e=pan (stopV 6)∧LftS E L P d vs w w' h)
section
variable {E:Ev}{w w' w1 w2:World}{L L' L1:Lay}{h h' h1 h2:Hp}{d:Nat}{P:PS}{m:Me}{fr fr' fr1:Sf}{vs vs1:Value}
set_option maxRecDepth 100000 in
theorem put (S:ST E w L P m d h fr vs) (x:Vl) (hbig:fr.stk.length≤1000) :
  Calls Tryz.prog 111 #[.pointer (some ⟨P.cb,0,none⟩),vl x] w (PutR E L P m d vs fr h x w):=by
 obtain ⟨io,hi',hy0,hy1,hy2⟩:=info_parts info_valP
 obtain ⟨a,cap,rfl⟩:=row_any S.stk
 have c10:=S.c10
 have f10:=S.fz 10 (by decide)
 have hcb:=S.cbw
 have hcb1:P.cb < w.heap.size+1:=by omega
 have HS:=Lib.hid S
 have hB0:=S.base
 have hst:Hid (w.ownsRow E.B 46 2 (.slice a fr.stk.length cap) fr.stk.length (vcells fr.stk)):=S.stk
 obtain ⟨xk,xn⟩:=x
 obtain ⟨Sz,hSz⟩:∃ Sz:Nat,Hid (size (fr.stk++[⟨xk,xn⟩])=Sz):=⟨_,Lib.hid rfl⟩
 have hSb:Sz≤2002:=by have:=size_bound (fr.stk++[⟨xk,xn⟩]);rw [hSz.out] at this;simp at this;omega
 obtain ⟨p,hp⟩:∃ p,decide ((Sz:Int)≤m.stack)=p:=⟨_,rfl⟩
 unfold vl
 clear S
 go_enter Tryz.func111,Tryz.ntmps111
 go_wp2
 go_region_law ((refine step_append_lies _ rfl (.tmp 11) (.tmp 13) 41 rfl E.B 46 io (.agg #[.int .i64 0,.int .i64 0]) 2 16 Tryz.underlying41 hi' hy0 hy1 hy2 rfl (by decide) (.slice a fr.stk.length cap) fr.stk.length (vcells fr.stk) (by simp [Act.eval,Act.put]) (by exact row_drew ((hst.out.alloc _).alloc _)) ⟨w.heap.size+1,0,none⟩ 1 1 [.int .i64 xk,.int .i64 xn] (by simp [Act.eval,Act.put]) rfl (by exact news_of (by simp)) (by simp [Value.oneCell']) (by decide) (by unfold maxLen;omega) (by omega) (by simp;omega) _ rfl ?_;intro g2 cap2 w3 hown3 hgrow3 hat3 hlt3;have hK3:Kp (fun k=>(Value.slice a fr.stk.length cap).ownBlock=some k) w w3:=(Kp.of_below (by exact Rd.byB) (Nat.le_refl _)).trans (Kp.of_grown (X:=fun k=>(Value.slice a fr.stk.length cap).ownBlock=some k) hgrow3 (fun k e=>e)) (fun y hy=>.inl hy);have q1:w3.cell? ⟨P.cb,10,none⟩=some (.slice a fr.stk.length cap):=hK3.cell c10 (fun e=>HS.out.ne.2.1 e);have q2:w3.frozen? ⟨P.cb,10,none⟩=false:=hK3.frz f10 hcb (fun e=>HS.out.ne.2.1 e);have hat4:(Value.slice a fr.stk.length cap).ownBlock=some g2∨w.heap.size≤g2:=(hat3.imp id (fun e=>by rw [e];simp;omega));have HN:∀ g,(Value.slice (some ⟨g2,0,none⟩) (fr.stk.length+1) cap2).ownBlock=some g→(Value.slice a fr.stk.length cap).ownBlock=some g∨w.heap.size≤g:=(fun g hg=>by have e:g=g2:=(by simpa [Value.ownBlock,eq_comm] using hg);subst e;exact hat4);have HA:=Lib.hid (HS.out.setStackE (v2:=.slice (some ⟨g2,0,none⟩) (fr.stk.length+1) cap2) (st:=fr.stk++[⟨xk,xn⟩]) hK3 (by rw [List.length_append,vcells_append];exact hown3) HN);replace HN:=Lib.hid HN;clear hown3 hgrow3 hat3 hat4 hK3))
 all_goals
  go_wp2_with fail
  obtain ⟨KW,SW⟩:=HA.out
  generalize w3.setCell ⟨P.cb,10,none⟩ (.slice (some ⟨g2,0,none⟩) (fr.stk.length+1) cap2)=W at KW SW ⊢
  clear HA q1 q2 c10 f10 hst
  obtain ⟨l,hl⟩:∃ l,Hid (fr.stk++[⟨xk,xn⟩]=l):=⟨_,Lib.hid rfl⟩
  have hll:l.length=fr.stk.length+1:=by rw [← hl.out];simp
  have e4:=SW.c4
  have hcbW:=SW.cbw
  have hrow:∀ k (hk:k < l.length),∃ y,Hid (l[k]=y)∧W.cell? ⟨g2,k*2,none⟩=some (.int .i64 y.kind)∧W.cell? ⟨g2,k*2+1,none⟩=some (.int .i64 y.n):=fun k hk=>by
   have hs:=SW.stk
   simp only [hl.out,hll] at hs
   refine ⟨l[k],Lib.hid rfl,?_,?_⟩
   ·have:=row_cell hs (vcells_get l k hk).1
    rw [List.getD_eq_getElem?_getD,List.getElem?_eq_getElem hk] at this
    exact this
   ·have:=row_cell hs (vcells_get l k hk).2
    rw [List.getD_eq_getElem?_getD,List.getElem?_eq_getElem hk] at this
    exact this
  have hcapb:fr.stk.length+1≤cap2:=by
   have hs:=SW.stk
   simp only [hl.out,hll] at hs
   obtain ⟨g,cp,e,h1,_⟩:=row_form hs (by omega)
   simp only [Value.slice.injEq] at e
   omega
  have hLF:Hid (∀ wr,Below W.heap.size W wr→LftF E L P m d (.slice a fr.stk.length cap) w wr h ⟨fr.loc,fr.stk++[⟨xk,xn⟩],fr.at_⟩):=fun wr hb=>LftF.below ⟨L,_,KW,same_own,HN.out,SW⟩ hb
  rw [hl.out] at hSz hLF
  have hszl:Hid (size (l.take 0)=0):=by show _=_;simp [size]
  replace hll:=Lib.hid hll
  clear KW SW HN
  go_loopw [4,22] (fun n i wr=>∃ k s:Nat,k≤fr.stk.length+1∧i=.int .i64 k∧n=.int .i64 s∧Hid (size (l.take k)=s)∧s≤2002∧Below W.heap.size W wr) (fun _ i _=>fr.stk.length+1 - (intOf i).toNat)
  case atStart=>exact ⟨0,0,Nat.zero_le _,rfl,rfl,hszl,by omega,Below.refl _ _⟩
  case round =>
   obtain ⟨k,s,hk,rfl,rfl,hs,hs2,hb⟩:=hrel
   by_cases hlt:k < fr.stk.length+1
   ·obtain ⟨y,hy,z0,z1⟩:=hrow k (by rw [hll.out];exact hlt)
    have g2W:=cell_lt z0
    have z0':=kept hb g2W z0
    have z1':=kept hb g2W z1
    have hk2:(k:Int) < fr.stk.length+1:=by omega
    have hsz:=size_takeP l k (by rw [hll.out];exact hlt)
    rw [hy.out,hs.out] at hsz
    have hbd:=size_bound (l.take (k+1))
    rw [hsz,List.length_take] at hbd
    have hw2:=width_le y
    have hbs:s+width y≤2002:=by omega
    have hsz':=Lib.hid hsz
    have HB:=Lib.hid hb
    have hws:=hb.size
    clear hrow hsz hbd z0 z1 hb
    go_wp2_with (go_at_call 53;refine (slotsP y _).mono ?_;rintro e w5 ⟨rfl,hb5⟩;have HB5:=Lib.hid (HB.out.trans (Below.trans (by exact Rd.byB) (hb5.mono (by have:=HB.out.size;simp <;> omega)):Below W.heap.size _ w5));clear hb5)
    go_roundw
    case rel=>exact ⟨k+1,s+width y,by omega,by go_num,by go_num,hsz',hbs,HB5.out⟩
    case measure=>simp [intOf];omega
   ·obtain rfl:k=fr.stk.length+1:=by omega
    have hss:s=Sz:=by
     rw [← hs.out,List.take_of_length_le (by rw [hll.out];exact Nat.le_refl _)]
     exact hSz.out
    subst hss
    have e4':=kept hb hcbW e4
    have HB:=Lib.hid hb
    clear hrow hb
    have hf:=Lib.hid (hLF.out _ HB.out)
    cases p
    ·go_wp2_with (go_at_call 97;refine (mustF _).mono ?_;rintro e w6 ⟨rfl,rfl⟩)
     refine And.intro rfl ?_
     exact .inr ⟨by rw [hl.out,hSz.out];simpa using hp,rfl,hf.out.stop⟩
    ·go_wp2_with (go_at_call 97;refine (mustT _).mono ?_;rintro e w6 ⟨rfl,rfl⟩)
     go_end0
     exact .inl ⟨by rw [hl.out,hSz.out];simpa using hp,rfl,by rw [hl.out];exact hf.out⟩
end
end Hpw
namespace Hpw
open Num Rd D Run Mem HierW
structure Gr (E:Ev) (L:Lay) (P:PS) (vs:Value) (w:World) (L1:Lay) (vs1:Value) (w1:World):Prop where
 kp:Kp (fo E L P vs) w w1
 ow:∀ k,own E L1 k→own E L k∨w.heap.size≤k
 st:∀ k,vs1.ownBlock=some k→vs.ownBlock=some k∨w.heap.size≤k
section
variable {E:Ev}{w w' w0 w1 w2 w3 wc:World}{L L' L1 L2:Lay}{h h' h1 h2:Hp}{d:Nat}{P:PS}{m:Me}{fr fr' fr1:Sf}{vs vs1 vs2:Value}
theorem LftF.opn (A:LftF E L P m d vs w w' h fr):∃ L1 vs1,Gr E L P vs w L1 vs1 w'∧ST E w' L1 P m d h fr vs1:=by
 obtain ⟨L1,vs1,K,N,V,S⟩:=A
 exact ⟨L1,vs1,⟨K,N,V⟩,S⟩
theorem Gr.lft (G:Gr E L P vs w L1 vs1 w') (S:ST E w' L1 P m d h fr vs1):LftF E L P m d vs w w' h fr:=⟨L1,vs1,G.kp,G.ow,G.st,S⟩
theorem Gr.fo (G:Gr E L P vs w L1 vs1 w1){k:Nat}(hk:fo E L1 P vs1 k):fo E L P vs k∨w.heap.size≤k:=by
 rcases hk with e | e | e | e
 ·exact (G.ow k e).imp .inl id
 ·exact .inl (.inr (.inl e))
 ·exact .inl (.inr (.inr (.inl e)))
 ·exact (G.st k e).imp (fun q=>.inr (.inr (.inr q))) id
theorem Gr.nf (G:Gr E L P vs w L1 vs1 w1){b:Nat}(hb:b < w.heap.size) (nf:¬ Hpw.fo E L P vs b):¬ Hpw.fo E L1 P vs1 b:=fun hk=>by
 rcases G.fo hk with q | q
 ·exact nf q
 ·omega
theorem Gr.trans (G:Gr E L P vs w L1 vs1 w1) (G2:Gr E L1 P vs1 w1 L2 vs2 w2):Gr E L P vs w L2 vs2 w2:=by
 have hs:=G.kp.size
 exact ⟨G.kp.trans G2.kp (fun y hy=>G.fo hy),fun k hk=>(G2.ow k hk).elim (G.ow k) (fun q=>.inr (by omega)),fun k hk=>(G2.st k hk).elim (G.st k) (fun q=>.inr (by omega))⟩
theorem Gr.of_below (hb:Below w.heap.size w w1):Gr E L P vs w L vs w1:=⟨Kp.of_below hb (Nat.le_refl _),fun _ h=>.inl h,fun _ h=>.inl h⟩
theorem Gr.of_heap (A:Lft E L d w w1 h') (S:ST E w L P m d h fr vs):∃ L1,Gr E L P vs w L1 vs w1∧ST E w1 L1 P m d h' fr vs:=by
 obtain ⟨L',K,N,H⟩:=A
 exact ⟨L',⟨K.mono (fun k hk=>.inl hk),N,fun _ h=>.inl h⟩,S.heap K N H⟩
theorem Gr.cell (G:Gr E L P vs w L1 vs1 w1){b o:Nat}{v:Value}(nf:¬ Hpw.fo E L P vs b) (hc:w.cell? ⟨b,o,none⟩=some v):w1.cell? ⟨b,o,none⟩=some v:=G.kp.cell hc nf
theorem Gr.frz (G:Gr E L P vs w L1 vs1 w1){b o:Nat}{x:Bool}(nf:¬ Hpw.fo E L P vs b) (hl:b < w.heap.size) (hc:w.frozen? ⟨b,o,none⟩=x):w1.frozen? ⟨b,o,none⟩=x:=G.kp.frz hc hl nf
theorem Gr.comp (G:Gr E L P vs w L1 vs1 w1) (B:LftF E L1 P m d vs1 w1 w2 h fr):LftF E L P m d vs w w2 h fr:=by
 obtain ⟨L2,vs2,G2,S2⟩:=B.opn
 exact (G.trans G2).lft S2
theorem Gr.compS (G:Gr E L P vs w L1 vs1 w1) (B:LftS E L1 P d vs1 w1 w2 h):LftS E L P d vs w w2 h:=by
 obtain ⟨L2,K2,N2,H2⟩:=B
 have hs:=G.kp.size
 exact ⟨L2,G.kp.trans K2 (fun y hy=>G.fo hy),fun k hk=>(N2 k hk).elim (G.ow k) (fun q=>.inr (by omega)),H2⟩
theorem plr_yes {st:List Vl}{x:Vl}{U:Value}(q:(size (st++[x]):Int)≤m.stack) (B:LftF E L1 P m d vs1 w1 w2 h ⟨fr.loc,st++[x],fr.at_⟩) (G:Gr E L P vs w L1 vs1 w1):PlR E L P m d vs fr U w (oA (push m fr st x h)) (.returned U) w2:=by
 unfold push
 rw [if_pos q]
 exact ⟨rfl,G.comp B⟩
theorem plr_no {st:List Vl}{x:Vl}{U:Value}(q:¬ (size (st++[x]):Int)≤m.stack) (B:LftS E L1 P d vs1 w1 w2 h) (G:Gr E L P vs w L1 vs1 w1):PlR E L P m d vs fr U w (oA (push m fr st x h)) (pan (stopV 6)) w2:=by
 unfold push
 rw [if_neg q]
 exact ⟨Pan.one _,G.compS B⟩
theorem plr_stuck {U:Value}(G:Gr E L P vs w L1 vs1 w1) (S:ST E w1 L1 P m d h fr1 vs1):PlR E L P m d vs fr U w (.stop 6 h) (pan (stopV 6)) w1:=⟨Pan.one _,(G.lft S).stop⟩
theorem plr_thrown {U:Value}{o:Nat}{st:List Vl}(G:Gr E L P vs w L1 vs1 w1) (S:ST E w1 L1 P m d h ⟨fr.loc,st,fr.at_⟩ vs1):PlR E L P m d vs fr U w (.thrown o h) (pan (thrownV o)) w1:=⟨Pan.one _,st,G.lft S⟩
theorem plr_stop {U:Value}{c:Int}(G:Gr E L P vs w L1 vs1 w1) (S:ST E w1 L1 P m d h fr1 vs1):PlR E L P m d vs fr U w (.stop c h) (pan (stopV c)) w1:=⟨Pan.one _,(G.lft S).stop⟩
theorem plr_go {U:Value}{st l:List Vl}{a:Nat}(G:Gr E L P vs w L1 vs1 w1) (S:ST E w1 L1 P m d h ⟨l,st,fr.at_⟩ vs1):PlR E L P m d vs fr U w (.go ⟨l,st,a⟩ h) (.returned U) w1:=⟨rfl,G.lft S⟩
theorem valueP (k n:Int) (w:World):Calls Tryz.prog 156 #[.int .i64 k,.int .i64 n] w fun e w'=>e=.returned (.agg #[.int .i64 k,.int .i64 n])∧Below w.heap.size w w':=by
 go_enter Tryz.func156,Tryz.ntmps156
 go_wp2
 refine bodyPost_ret (v:=.agg #[.int .i64 k,.int .i64 n]) (by simp [results,Tryz.results156,go_sem] <;> go_simp) rfl ?_
 exact ⟨rfl,Rd.byB⟩
end
end Hpw
namespace Hpw
open Num Rd D Run Mem HierW
section
variable {E:Ev}{w w' w1 w2:World}{L L' L1:Lay}{h h' h1 h2:Hp}{d:Nat}{P:PS}{m:Me}{fr fr' fr1:Sf}{vs vs1:Value}
set_option maxRecDepth 100000 in
theorem pl1 (S:ST E w L P m d h fr vs) (hbig:fr.stk.length≤1000) (a b c n:Int) (args:List Int) (aa:Option Addr) (an acap:Nat)  :
  Calls Tryz.prog 110 #[.pointer (some ⟨P.cb,0,none⟩),.agg #[.int .i64 1,.int .i64 a,.int .i64 b,.int .i64 c,.int .i64 n,.slice aa an acap]] w (PlR E L P m d vs fr (.tuple #[]) w (oA (sstep E.f E.input m ⟨1,a,b,c,n,args⟩ fr h))):=by
 rw [st1]
 have HS:=Lib.hid S
 have hcb:=S.cbw
 have hcb1:P.cb < w.heap.size+1:=by omega
 have nf:=S.fo_new (Nat.le_refl _)
 clear S
 go_enter Tryz.func110,Tryz.ntmps110
 go_wp2_with (go_at_call 156;refine (valueP _ _ _).mono ?_;rintro e w2 ⟨rfl,hb2⟩;have HB2:=Lib.hid (show Below w.heap.size w w2 from Below.trans (by exact Rd.byB) (hb2.mono Rd.byL));clear hb2)
 refine (put (HS.out.below HB2.out) ⟨1,n⟩ (by first | omega | (simp only [List.length_dropLast];omega))).mono ?_
 rintro e w9 (⟨q,rfl,A⟩ | ⟨q,rfl,A⟩)
 ·go_wp2_with fail
  go_end0
  exact plr_yes q A (Gr.of_below HB2.out)
 ·unfold pan
  refine And.intro rfl ?_
  exact plr_no q A (Gr.of_below HB2.out)
set_option maxRecDepth 100000 in
theorem pl2 (S:ST E w L P m d h fr vs) (hbig:fr.stk.length≤1000) (a b c n:Int) (args:List Int) (aa:Option Addr) (an acap:Nat)  :
  Calls Tryz.prog 110 #[.pointer (some ⟨P.cb,0,none⟩),.agg #[.int .i64 2,.int .i64 a,.int .i64 b,.int .i64 c,.int .i64 n,.slice aa an acap]] w (PlR E L P m d vs fr (.tuple #[]) w (oA (sstep E.f E.input m ⟨2,a,b,c,n,args⟩ fr h))):=by
 rw [st2]
 have HS:=Lib.hid S
 have hcb:=S.cbw
 have hcb1:P.cb < w.heap.size+1:=by omega
 have nf:=S.fo_new (Nat.le_refl _)
 clear S
 go_enter Tryz.func110,Tryz.ntmps110
 go_wp2_with (go_at_call 156;refine (valueP _ _ _).mono ?_;rintro e w2 ⟨rfl,hb2⟩;have HB2:=Lib.hid (show Below w.heap.size w w2 from Below.trans (by exact Rd.byB) (hb2.mono Rd.byL));clear hb2)
 refine (put (HS.out.below HB2.out) ⟨2,n⟩ (by first | omega | (simp only [List.length_dropLast];omega))).mono ?_
 rintro e w9 (⟨q,rfl,A⟩ | ⟨q,rfl,A⟩)
 ·go_wp2_with fail
  go_end0
  exact plr_yes q A (Gr.of_below HB2.out)
 ·unfold pan
  refine And.intro rfl ?_
  exact plr_no q A (Gr.of_below HB2.out)
set_option maxRecDepth 100000 in
theorem pl3 (S:ST E w L P m d h fr vs) (hbig:fr.stk.length≤1000) (a b c n:Int) (args:List Int) (aa:Option Addr) (an acap:Nat)  :
  Calls Tryz.prog 110 #[.pointer (some ⟨P.cb,0,none⟩),.agg #[.int .i64 3,.int .i64 a,.int .i64 b,.int .i64 c,.int .i64 n,.slice aa an acap]] w (PlR E L P m d vs fr (.tuple #[]) w (oA (sstep E.f E.input m ⟨3,a,b,c,n,args⟩ fr h))):=by
 rw [st3]
 have HS:=Lib.hid S
 have hcb:=S.cbw
 have hcb1:P.cb < w.heap.size+1:=by omega
 have nf:=S.fo_new (Nat.le_refl _)
 clear S
 go_enter Tryz.func110,Tryz.ntmps110
 go_wp2_with (go_at_call 156;refine (valueP _ _ _).mono ?_;rintro e w2 ⟨rfl,hb2⟩;have HB2:=Lib.hid (show Below w.heap.size w w2 from Below.trans (by exact Rd.byB) (hb2.mono Rd.byL));clear hb2)
 refine (put (HS.out.below HB2.out) ⟨3,-1⟩ (by first | omega | (simp only [List.length_dropLast];omega))).mono ?_
 rintro e w9 (⟨q,rfl,A⟩ | ⟨q,rfl,A⟩)
 ·go_wp2_with fail
  go_end0
  exact plr_yes q A (Gr.of_below HB2.out)
 ·unfold pan
  refine And.intro rfl ?_
  exact plr_no q A (Gr.of_below HB2.out)
set_option maxRecDepth 100000 in
theorem pl8n (S:ST E w L P m d h fr vs) (hbig:fr.stk.length≤1000) (a b c n:Int) (args:List Int) (aa:Option Addr) (an acap:Nat) (hn:fr.stk=[]) :
  Calls Tryz.prog 110 #[.pointer (some ⟨P.cb,0,none⟩),.agg #[.int .i64 8,.int .i64 a,.int .i64 b,.int .i64 c,.int .i64 n,.slice aa an acap]] w (PlR E L P m d vs fr (.tuple #[]) w (oA (sstep E.f E.input m ⟨8,a,b,c,n,args⟩ fr h))):=by
 rw [st8n hn]
 have HS:=Lib.hid S
 have hcb:=S.cbw
 have hcb1:P.cb < w.heap.size+1:=by omega
 have nf:=S.fo_new (Nat.le_refl _)
 clear S
 go_enter Tryz.func110,Tryz.ntmps110
 go_wp2_with (go_at_call 107;refine (takeNo (HS.out.below (by exact Rd.byB)) hn _).mono ?_;rintro e w2 ⟨rfl,hb2⟩;have HB2:=Lib.hid (show Below w.heap.size w w2 from Below.trans (by exact Rd.byB) (hb2.mono Rd.byL));clear hb2;unfold pan)
 refine And.intro rfl ?_
 exact plr_stuck (Gr.of_below HB2.out) (HS.out.below HB2.out)
set_option maxRecDepth 100000 in
theorem pl8b (S:ST E w L P m d h fr vs) (hbig:fr.stk.length≤1000) (a b c n:Int) (args:List Int) (aa:Option Addr) (an acap:Nat) (hn:fr.stk≠[]) (hk:(top fr.stk).kind≠1) :
  Calls Tryz.prog 110 #[.pointer (some ⟨P.cb,0,none⟩),.agg #[.int .i64 8,.int .i64 a,.int .i64 b,.int .i64 c,.int .i64 n,.slice aa an acap]] w (PlR E L P m d vs fr (.tuple #[]) w (oA (sstep E.f E.input m ⟨8,a,b,c,n,args⟩ fr h))):=by
 rw [st8 hn]
 unfold kindly
 rw [if_neg hk]
 have HS:=Lib.hid S
 have hcb:=S.cbw
 have hcb1:P.cb < w.heap.size+1:=by omega
 have nf:=S.fo_new (Nat.le_refl _)
 clear S
 go_enter Tryz.func110,Tryz.ntmps110
 go_wp2_with (go_at_call 107;refine (takeBad (HS.out.below (by exact Rd.byB)) hn hbig _ hk).mono ?_;rintro e w2 ⟨rfl,A⟩;obtain ⟨L2,v2,G2,S2⟩:=(LftF.before (w:=w) (by exact Rd.byB) A).opn;unfold pan)
 refine And.intro rfl ?_
 exact plr_stuck G2 S2
set_option maxRecDepth 100000 in
theorem pl8o (S:ST E w L P m d h fr vs) (hbig:fr.stk.length≤1000) (a b c n:Int) (args:List Int) (aa:Option Addr) (an acap:Nat) (hn:fr.stk≠[]) (hk:(top fr.stk).kind=1) :
  Calls Tryz.prog 110 #[.pointer (some ⟨P.cb,0,none⟩),.agg #[.int .i64 8,.int .i64 a,.int .i64 b,.int .i64 c,.int .i64 n,.slice aa an acap]] w (PlR E L P m d vs fr (.tuple #[]) w (oA (sstep E.f E.input m ⟨8,a,b,c,n,args⟩ fr h))):=by
 rw [st8 hn]
 unfold kindly
 rw [if_pos hk]
 have HS:=Lib.hid S
 have hcb:=S.cbw
 have hcb1:P.cb < w.heap.size+1:=by omega
 have nf:=S.fo_new (Nat.le_refl _)
 obtain ⟨⟨tk,tn⟩,ht⟩:∃ t,Hid (top fr.stk=t):=⟨_,Lib.hid rfl⟩
 rw [ht.out] at hk ⊢
 simp only at hk ⊢
 subst hk
 have hfl:=fieldN
 clear S
 go_enter Tryz.func110,Tryz.ntmps110
 go_wp2_with (first | (go_at_call 107;refine (takeOk (HS.out.below (by exact Rd.byB)) hn hbig _ (by rw [ht.out])).mono ?_;rw [ht.out];unfold vl;rintro e w2 ⟨rfl,A⟩;obtain ⟨L2,v2,G2,S2⟩:=(LftF.before (w:=w) (by exact Rd.byB) A).opn;replace G2:=Lib.hid G2;replace S2:=Lib.hid S2;clear A) | (go_at_call 156;refine (valueP _ _ _).mono ?_;rintro e w3 ⟨rfl,hb3⟩;have HB3:=Lib.hid (show Below w2.heap.size w2 w3 from hb3);clear hb3))
 refine (put (S2.out.below HB3.out) ⟨2,tn⟩ (by first | omega | (simp only [List.length_dropLast];omega))).mono ?_
 rintro e w9 (⟨q,rfl,A⟩ | ⟨q,rfl,A⟩)
 ·go_wp2_with fail
  go_end0
  exact plr_yes q A (G2.out.trans (Gr.of_below HB3.out))
 ·unfold pan
  refine And.intro rfl ?_
  exact plr_no q A (G2.out.trans (Gr.of_below HB3.out))
set_option maxRecDepth 100000 in
theorem pl9n (S:ST E w L P m d h fr vs) (hbig:fr.stk.length≤1000) (a b c n:Int) (args:List Int) (aa:Option Addr) (an acap:Nat) (hn:fr.stk=[]) :
  Calls Tryz.prog 110 #[.pointer (some ⟨P.cb,0,none⟩),.agg #[.int .i64 9,.int .i64 a,.int .i64 b,.int .i64 c,.int .i64 n,.slice aa an acap]] w (PlR E L P m d vs fr (.tuple #[]) w (oA (sstep E.f E.input m ⟨9,a,b,c,n,args⟩ fr h))):=by
 rw [st9n hn]
 have HS:=Lib.hid S
 have hcb:=S.cbw
 have hcb1:P.cb < w.heap.size+1:=by omega
 have nf:=S.fo_new (Nat.le_refl _)
 clear S
 go_enter Tryz.func110,Tryz.ntmps110
 go_wp2_with (go_at_call 107;refine (takeNo (HS.out.below (by exact Rd.byB)) hn _).mono ?_;rintro e w2 ⟨rfl,hb2⟩;have HB2:=Lib.hid (show Below w.heap.size w w2 from Below.trans (by exact Rd.byB) (hb2.mono Rd.byL));clear hb2;unfold pan)
 refine And.intro rfl ?_
 exact plr_stuck (Gr.of_below HB2.out) (HS.out.below HB2.out)
set_option maxRecDepth 100000 in
theorem pl9b (S:ST E w L P m d h fr vs) (hbig:fr.stk.length≤1000) (a b c n:Int) (args:List Int) (aa:Option Addr) (an acap:Nat) (hn:fr.stk≠[]) (hk:(top fr.stk).kind≠2) :
  Calls Tryz.prog 110 #[.pointer (some ⟨P.cb,0,none⟩),.agg #[.int .i64 9,.int .i64 a,.int .i64 b,.int .i64 c,.int .i64 n,.slice aa an acap]] w (PlR E L P m d vs fr (.tuple #[]) w (oA (sstep E.f E.input m ⟨9,a,b,c,n,args⟩ fr h))):=by
 rw [st9 hn]
 unfold kindly
 rw [if_neg hk]
 have HS:=Lib.hid S
 have hcb:=S.cbw
 have hcb1:P.cb < w.heap.size+1:=by omega
 have nf:=S.fo_new (Nat.le_refl _)
 clear S
 go_enter Tryz.func110,Tryz.ntmps110
 go_wp2_with (go_at_call 107;refine (takeBad (HS.out.below (by exact Rd.byB)) hn hbig _ hk).mono ?_;rintro e w2 ⟨rfl,A⟩;obtain ⟨L2,v2,G2,S2⟩:=(LftF.before (w:=w) (by exact Rd.byB) A).opn;unfold pan)
 refine And.intro rfl ?_
 exact plr_stuck G2 S2
set_option maxRecDepth 100000 in
theorem pl9o (S:ST E w L P m d h fr vs) (hbig:fr.stk.length≤1000) (a b c n:Int) (args:List Int) (aa:Option Addr) (an acap:Nat) (hn:fr.stk≠[]) (hk:(top fr.stk).kind=2) :
  Calls Tryz.prog 110 #[.pointer (some ⟨P.cb,0,none⟩),.agg #[.int .i64 9,.int .i64 a,.int .i64 b,.int .i64 c,.int .i64 n,.slice aa an acap]] w (PlR E L P m d vs fr (.tuple #[]) w (oA (sstep E.f E.input m ⟨9,a,b,c,n,args⟩ fr h))):=by
 rw [st9 hn]
 unfold kindly
 rw [if_pos hk]
 have HS:=Lib.hid S
 have hcb:=S.cbw
 have hcb1:P.cb < w.heap.size+1:=by omega
 have nf:=S.fo_new (Nat.le_refl _)
 obtain ⟨⟨tk,tn⟩,ht⟩:∃ t,Hid (top fr.stk=t):=⟨_,Lib.hid rfl⟩
 rw [ht.out] at hk ⊢
 simp only at hk ⊢
 subst hk
 have hfl:=fieldN
 clear S
 go_enter Tryz.func110,Tryz.ntmps110
 go_wp2_with (first | (go_at_call 107;refine (takeOk (HS.out.below (by exact Rd.byB)) hn hbig _ (by rw [ht.out])).mono ?_;rw [ht.out];unfold vl;rintro e w2 ⟨rfl,A⟩;obtain ⟨L2,v2,G2,S2⟩:=(LftF.before (w:=w) (by exact Rd.byB) A).opn;replace G2:=Lib.hid G2;replace S2:=Lib.hid S2;clear A) | (go_at_call 161;refine (NumW.narrow _ _).mono ?_;rintro e w4 ⟨rfl,rfl⟩) | (go_at_call 156;refine (valueP _ _ _).mono ?_;rintro e w3 ⟨rfl,hb3⟩;have HB3:=Lib.hid (show Below w2.heap.size w2 w3 from hb3);clear hb3))
 refine (put (S2.out.below HB3.out) ⟨1,wrap32 tn⟩ (by first | omega | (simp only [List.length_dropLast];omega))).mono ?_
 rintro e w9 (⟨q,rfl,A⟩ | ⟨q,rfl,A⟩)
 ·go_wp2_with fail
  go_end0
  exact plr_yes q A (G2.out.trans (Gr.of_below HB3.out))
 ·unfold pan
  refine And.intro rfl ?_
  exact plr_no q A (G2.out.trans (Gr.of_below HB3.out))
set_option maxRecDepth 100000 in
theorem pl22n (S:ST E w L P m d h fr vs) (hbig:fr.stk.length≤1000) (a b c n:Int) (args:List Int) (aa:Option Addr) (an acap:Nat) (hn:fr.stk=[]) :
  Calls Tryz.prog 110 #[.pointer (some ⟨P.cb,0,none⟩),.agg #[.int .i64 22,.int .i64 a,.int .i64 b,.int .i64 c,.int .i64 n,.slice aa an acap]] w (PlR E L P m d vs fr (.tuple #[]) w (oA (sstep E.f E.input m ⟨22,a,b,c,n,args⟩ fr h))):=by
 rw [st22n hn]
 have HS:=Lib.hid S
 have hcb:=S.cbw
 have hcb1:P.cb < w.heap.size+1:=by omega
 have nf:=S.fo_new (Nat.le_refl _)
 clear S
 go_enter Tryz.func110,Tryz.ntmps110
 go_wp2_with (go_at_call 105;refine (anyNo (HS.out.below (by exact Rd.byB)) hn).mono ?_;rintro e w2 ⟨rfl,hb2⟩;have HB2:=Lib.hid (show Below w.heap.size w w2 from Below.trans (by exact Rd.byB) (hb2.mono Rd.byL));clear hb2;unfold pan)
 refine And.intro rfl ?_
 exact plr_stuck (Gr.of_below HB2.out) (HS.out.below HB2.out)
set_option maxRecDepth 100000 in
theorem pl22o (S:ST E w L P m d h fr vs) (hbig:fr.stk.length≤1000) (a b c n:Int) (args:List Int) (aa:Option Addr) (an acap:Nat) (hn:fr.stk≠[]) :
  Calls Tryz.prog 110 #[.pointer (some ⟨P.cb,0,none⟩),.agg #[.int .i64 22,.int .i64 a,.int .i64 b,.int .i64 c,.int .i64 n,.slice aa an acap]] w (PlR E L P m d vs fr (.tuple #[]) w (oA (sstep E.f E.input m ⟨22,a,b,c,n,args⟩ fr h))):=by
 rw [st22 hn]
 have HS:=Lib.hid S
 have hcb:=S.cbw
 have hcb1:P.cb < w.heap.size+1:=by omega
 have nf:=S.fo_new (Nat.le_refl _)
 clear S
 go_enter Tryz.func110,Tryz.ntmps110
 go_wp2_with (go_at_call 105;refine (anyOk (HS.out.below (by exact Rd.byB)) hn hbig).mono ?_;unfold vl;rintro e w2 ⟨rfl,A⟩;obtain ⟨L2,v2,G2,S2⟩:=(LftF.before (w:=w) (by exact Rd.byB) A).opn;replace G2:=Lib.hid G2;replace S2:=Lib.hid S2;clear A)
 go_end0
 exact plr_go G2.out S2.out
end
end Hpw
namespace Hpw
open Num Rd D Run Mem HierW
section
variable {E:Ev}{w w' w1 w2:World}{L L' L1:Lay}{h h' h1 h2:Hp}{d:Nat}{P:PS}{m:Me}{fr fr' fr1:Sf}{vs vs1:Value}
set_option maxRecDepth 100000 in
theorem pl4b (S:ST E w L P m d h fr vs) (hbig:fr.stk.length≤1000) (a b c n:Int) (args:List Int) (aa:Option Addr) (an acap:Nat) (ha0:0≤a) (ha1:a.toNat < fr.loc.length) (hlb:fr.loc.length≤1000) (hk:(fr.loc.getD a.toNat Vl.nil).kind≠b) :
  Calls Tryz.prog 110 #[.pointer (some ⟨P.cb,0,none⟩),.agg #[.int .i64 4,.int .i64 a,.int .i64 b,.int .i64 c,.int .i64 n,.slice aa an acap]] w (PlR E L P m d vs fr (.tuple #[]) w (oA (sstep E.f E.input m ⟨4,a,b,c,n,args⟩ fr h))):=by
 rw [st4]
 unfold kindly
 rw [if_neg hk]
 have HS:=Lib.hid S
 have hcb:=S.cbw
 have hcb1:P.cb < w.heap.size+1:=by omega
 have nf:=S.fo_new (Nat.le_refl _)
 have c9:=S.c9
 obtain ⟨a,rfl⟩:=Int.eq_ofNat_of_zero_le ha0
 have ha:a < fr.loc.length:=by omega
 obtain ⟨⟨tk,tn⟩,ht⟩:∃ t,Hid (fr.loc.getD a Vl.nil=t):=⟨_,Lib.hid rfl⟩
 rw [Int.toNat_natCast,ht.out] at hk
 simp only at hk
 clear S
 go_enter Tryz.func110,Tryz.ntmps110
 go_wp2_with fail
 refine Drawn.hd (fun w'=>w'.cell? ⟨P.cb,9,none⟩=some (.slice (some ⟨P.lb,0,none⟩) fr.loc.length fr.loc.length)∧w'.cell? ⟨w.heap.size,1,none⟩=some (.int .i64 a)∧w'.cell? ⟨w.heap.size,2,none⟩=some (.int .i64 b)) (h:=fun hHeld=>?_)
 refine Drawn.T 0 (some 35) (h:=?_)
 refine Drawn.T 1 (some 36) (h:=?_)
 refine Drawn.T 2 (some 37) (h:=?_)
 refine Drawn.T 3 (some 38) (h:=?_)
 refine Drawn.T 4 (some 39) (h:=?_)
 refine Drawn.T 5 (some 40) (h:=?_)
 refine Drawn.T 6 (some 41) (h:=?_)
 refine Drawn.T 7 (some 42) (h:=?_)
 refine Drawn.T 8 (some 43) (h:=?_)
 refine Drawn.cl 9 (fun K hK=>?_)
 go_simp
 go_at_call 157
 refine (loadStuck (HS.out.below (by exact Rd.byB)).loc a ⟨tk,tn⟩ ht.out ha hlb b hk).mono ?_
 rintro e w2 ⟨rfl,hb⟩
 have HB2:Below w.heap.size w w2:=Below.trans (by exact Rd.byB) (hb.mono Rd.byL)
 unfold pan
 refine And.intro rfl ?_
 exact plr_stuck (Gr.of_below HB2) (HS.out.below HB2)
set_option maxRecDepth 100000 in
theorem pl4o (S:ST E w L P m d h fr vs) (hbig:fr.stk.length≤1000) (a b c n:Int) (args:List Int) (aa:Option Addr) (an acap:Nat) (ha0:0≤a) (ha1:a.toNat < fr.loc.length) (hlb:fr.loc.length≤1000) (hk:(fr.loc.getD a.toNat Vl.nil).kind=b) :
  Calls Tryz.prog 110 #[.pointer (some ⟨P.cb,0,none⟩),.agg #[.int .i64 4,.int .i64 a,.int .i64 b,.int .i64 c,.int .i64 n,.slice aa an acap]] w (PlR E L P m d vs fr (.tuple #[]) w (oA (sstep E.f E.input m ⟨4,a,b,c,n,args⟩ fr h))):=by
 rw [st4]
 unfold kindly
 rw [if_pos hk]
 have HS:=Lib.hid S
 have hcb:=S.cbw
 have hcb1:P.cb < w.heap.size+1:=by omega
 have nf:=S.fo_new (Nat.le_refl _)
 have c9:=S.c9
 obtain ⟨a,rfl⟩:=Int.eq_ofNat_of_zero_le ha0
 have ha:a < fr.loc.length:=by omega
 obtain ⟨⟨tk,tn⟩,ht⟩:∃ t,Hid (fr.loc.getD a Vl.nil=t):=⟨_,Lib.hid rfl⟩
 rw [Int.toNat_natCast,ht.out] at hk
 simp only at hk
 rw [Int.toNat_natCast,ht.out]
 subst hk
 clear S
 go_enter Tryz.func110,Tryz.ntmps110
 go_wp2_with fail
 refine Drawn.hd (fun w'=>w'.cell? ⟨P.cb,9,none⟩=some (.slice (some ⟨P.lb,0,none⟩) fr.loc.length fr.loc.length)∧w'.cell? ⟨w.heap.size,1,none⟩=some (.int .i64 a)∧w'.cell? ⟨w.heap.size,2,none⟩=some (.int .i64 tk)) (h:=fun hHeld=>?_)
 refine Drawn.T 0 (some 35) (h:=?_)
 refine Drawn.T 1 (some 36) (h:=?_)
 refine Drawn.T 2 (some 37) (h:=?_)
 refine Drawn.T 3 (some 38) (h:=?_)
 refine Drawn.T 4 (some 39) (h:=?_)
 refine Drawn.T 5 (some 40) (h:=?_)
 refine Drawn.T 6 (some 41) (h:=?_)
 refine Drawn.T 7 (some 42) (h:=?_)
 refine Drawn.T 8 (some 43) (h:=?_)
 refine Drawn.cl 9 (fun K hK=>?_)
 go_simp
 go_at_call 157
 refine (loadOk (HS.out.below (by exact Rd.byB)).loc a ⟨tk,tn⟩ ht.out ha hlb tk rfl).mono ?_
 rintro e w2 ⟨rfl,hb⟩
 have HB2:=Lib.hid (show Below w.heap.size w w2 from Below.trans (by exact Rd.byB) (hb.mono Rd.byL))
 have kk:∀ (b o:Nat) (u:Value),World.cell? _ ⟨b,o,none⟩=some u→w2.cell? ⟨b,o,none⟩=some u:=fun b o u hc=>kept hb (cell_lt hc) hc
 have y2_0:=kk P.cb 9 (.slice (some ⟨P.lb,0,none⟩) fr.loc.length fr.loc.length) (by go_simp)
 have y2_1:=kk (w.heap.size) 1 (.int .i64 a) (by go_simp)
 have y2_2:=kk (w.heap.size) 2 (.int .i64 tk) (by go_simp)
 clear kk
 clear hb
 go_wp2_with fail
 refine Drawn.bk hK (hS:=by (try dsimp only);exact ⟨y2_0,y2_1,y2_2⟩) (h:=fun hHeld=>?_)
 clear hK K
 refine Drawn.cl 10 (fun K hK=>?_)
 go_simp
 refine (put (HS.out.below HB2.out) ⟨tk,tn⟩ (by first | omega | (simp only [List.length_dropLast];omega))).mono ?_
 rintro e w9 (⟨q,rfl,A⟩ | ⟨q,rfl,A⟩)
 ·obtain ⟨L9,v9,G9,S9⟩:=A.opn
  have y9_0:w9.cell? ⟨P.cb,9,none⟩=some (.slice (some ⟨P.lb,0,none⟩) fr.loc.length fr.loc.length):=S9.c9
  have y9_1:=G9.cell (b:=w.heap.size) (o:=1) (v:=.int .i64 a) nf (by go_simp)
  have y9_2:=G9.cell (b:=w.heap.size) (o:=2) (v:=.int .i64 tk) nf (by go_simp)
  go_wp2_with fail
  refine Drawn.bk hK (hS:=by (try dsimp only);exact ⟨y9_0,y9_1,y9_2⟩) (h:=fun hHeld=>?_)
  clear hK K
  refine wpAnyH_done (by kernel_rfl) ?_ _
  go_wp2
  go_end0
  exact plr_yes q (G9.lft S9) (Gr.of_below HB2.out)
 ·unfold pan
  refine And.intro rfl ?_
  exact plr_no q A (Gr.of_below HB2.out)
set_option maxRecDepth 100000 in
theorem pl5n (S:ST E w L P m d h fr vs) (hbig:fr.stk.length≤1000) (a b c n:Int) (args:List Int) (aa:Option Addr) (an acap:Nat) (hn:fr.stk=[]) :
  Calls Tryz.prog 110 #[.pointer (some ⟨P.cb,0,none⟩),.agg #[.int .i64 5,.int .i64 a,.int .i64 b,.int .i64 c,.int .i64 n,.slice aa an acap]] w (PlR E L P m d vs fr (.tuple #[]) w (oA (sstep E.f E.input m ⟨5,a,b,c,n,args⟩ fr h))):=by
 rw [st5n hn]
 have HS:=Lib.hid S
 have hcb:=S.cbw
 have hcb1:P.cb < w.heap.size+1:=by omega
 have nf:=S.fo_new (Nat.le_refl _)
 have c9:=S.c9
 clear S
 go_enter Tryz.func110,Tryz.ntmps110
 go_wp2_with fail
 refine Drawn.hd (fun w'=>w'.cell? ⟨P.cb,9,none⟩=some (.slice (some ⟨P.lb,0,none⟩) fr.loc.length fr.loc.length)∧w'.cell? ⟨w.heap.size,1,none⟩=some (.int .i64 a)∧w'.cell? ⟨w.heap.size,2,none⟩=some (.int .i64 b)) (h:=fun hHeld=>?_)
 refine Drawn.T 0 (some 48) (h:=?_)
 refine Drawn.T 1 (some 49) (h:=?_)
 refine Drawn.T 2 (some 50) (h:=?_)
 refine Drawn.T 3 (some 51) (h:=?_)
 refine Drawn.T 4 (some 52) (h:=?_)
 refine Drawn.T 5 (some 53) (h:=?_)
 refine Drawn.T 6 (some 54) (h:=?_)
 refine Drawn.T 7 (some 55) (h:=?_)
 refine Drawn.T 8 (some 56) (h:=?_)
 refine Drawn.cl 9 (fun K hK=>?_)
 go_simp
 go_at_call 107
 refine (takeNo (HS.out.below (by exact Rd.byB)) hn _).mono ?_
 rintro e w2 ⟨rfl,hb⟩
 have HB2:Below w.heap.size w w2:=Below.trans (by exact Rd.byB) (hb.mono Rd.byL)
 unfold pan
 refine And.intro rfl ?_
 exact plr_stuck (Gr.of_below HB2) (HS.out.below HB2)
set_option maxRecDepth 100000 in
theorem pl5b (S:ST E w L P m d h fr vs) (hbig:fr.stk.length≤1000) (a b c n:Int) (args:List Int) (aa:Option Addr) (an acap:Nat) (hn:fr.stk≠[]) (hk:(top fr.stk).kind≠b) :
  Calls Tryz.prog 110 #[.pointer (some ⟨P.cb,0,none⟩),.agg #[.int .i64 5,.int .i64 a,.int .i64 b,.int .i64 c,.int .i64 n,.slice aa an acap]] w (PlR E L P m d vs fr (.tuple #[]) w (oA (sstep E.f E.input m ⟨5,a,b,c,n,args⟩ fr h))):=by
 rw [st5 hn]
 unfold kindly
 rw [if_neg hk]
 have HS:=Lib.hid S
 have hcb:=S.cbw
 have hcb1:P.cb < w.heap.size+1:=by omega
 have nf:=S.fo_new (Nat.le_refl _)
 have c9:=S.c9
 clear S
 go_enter Tryz.func110,Tryz.ntmps110
 go_wp2_with fail
 refine Drawn.hd (fun w'=>w'.cell? ⟨P.cb,9,none⟩=some (.slice (some ⟨P.lb,0,none⟩) fr.loc.length fr.loc.length)∧w'.cell? ⟨w.heap.size,1,none⟩=some (.int .i64 a)∧w'.cell? ⟨w.heap.size,2,none⟩=some (.int .i64 b)) (h:=fun hHeld=>?_)
 refine Drawn.T 0 (some 48) (h:=?_)
 refine Drawn.T 1 (some 49) (h:=?_)
 refine Drawn.T 2 (some 50) (h:=?_)
 refine Drawn.T 3 (some 51) (h:=?_)
 refine Drawn.T 4 (some 52) (h:=?_)
 refine Drawn.T 5 (some 53) (h:=?_)
 refine Drawn.T 6 (some 54) (h:=?_)
 refine Drawn.T 7 (some 55) (h:=?_)
 refine Drawn.T 8 (some 56) (h:=?_)
 refine Drawn.cl 9 (fun K hK=>?_)
 go_simp
 go_at_call 107
 refine (takeBad (HS.out.below (by exact Rd.byB)) hn hbig _ hk).mono ?_
 rintro e w2 ⟨rfl,A⟩
 obtain ⟨L2,v2,G2,S2⟩:=(LftF.before (w:=w) (by exact Rd.byB) A).opn
 unfold pan
 refine And.intro rfl ?_
 exact plr_stuck G2 S2
set_option maxRecDepth 100000 in
theorem pl5o (S:ST E w L P m d h fr vs) (hbig:fr.stk.length≤1000) (a b c n:Int) (args:List Int) (aa:Option Addr) (an acap:Nat) (hn:fr.stk≠[]) (hk:(top fr.stk).kind=b) (ha0:0≤a) (ha1:a.toNat+width (top fr.stk)≤fr.loc.length) (hP:Paired fr.loc) (hlb:fr.loc.length≤1000) :
  Calls Tryz.prog 110 #[.pointer (some ⟨P.cb,0,none⟩),.agg #[.int .i64 5,.int .i64 a,.int .i64 b,.int .i64 c,.int .i64 n,.slice aa an acap]] w (PlR E L P m d vs fr (.tuple #[]) w (oA (sstep E.f E.input m ⟨5,a,b,c,n,args⟩ fr h))):=by
 rw [st5 hn]
 unfold kindly
 rw [if_pos hk]
 have HS:=Lib.hid S
 have hcb:=S.cbw
 have hcb1:P.cb < w.heap.size+1:=by omega
 have nf:=S.fo_new (Nat.le_refl _)
 have c9:=S.c9
 obtain ⟨a,rfl⟩:=Int.eq_ofNat_of_zero_le ha0
 obtain ⟨⟨tk,tn⟩,ht⟩:∃ t,Hid (top fr.stk=t):=⟨_,Lib.hid rfl⟩
 rw [Int.toNat_natCast,ht.out] at ha1
 rw [ht.out] at hk ⊢
 simp only [Int.toNat_natCast] at hk ⊢
 subst hk
 have hPh:=Lib.hid hP
 clear hP
 clear S
 go_enter Tryz.func110,Tryz.ntmps110
 go_wp2_with fail
 refine Drawn.hd (fun w'=>w'.cell? ⟨P.cb,9,none⟩=some (.slice (some ⟨P.lb,0,none⟩) fr.loc.length fr.loc.length)∧w'.cell? ⟨w.heap.size,1,none⟩=some (.int .i64 a)∧w'.cell? ⟨w.heap.size,2,none⟩=some (.int .i64 tk)) (h:=fun hHeld=>?_)
 refine Drawn.T 0 (some 48) (h:=?_)
 refine Drawn.T 1 (some 49) (h:=?_)
 refine Drawn.T 2 (some 50) (h:=?_)
 refine Drawn.T 3 (some 51) (h:=?_)
 refine Drawn.T 4 (some 52) (h:=?_)
 refine Drawn.T 5 (some 53) (h:=?_)
 refine Drawn.T 6 (some 54) (h:=?_)
 refine Drawn.T 7 (some 55) (h:=?_)
 refine Drawn.T 8 (some 56) (h:=?_)
 refine Drawn.cl 9 (fun K hK=>?_)
 go_simp
 go_at_call 107
 refine (takeOk (HS.out.below (by exact Rd.byB)) hn hbig _ (by rw [ht.out])).mono ?_
 rw [ht.out]
 unfold vl
 rintro e w2 ⟨rfl,A⟩
 obtain ⟨L2,v2,G2,S2⟩:=A.opn
 have y2_0:w2.cell? ⟨P.cb,9,none⟩=some (.slice (some ⟨P.lb,0,none⟩) fr.loc.length fr.loc.length):=S2.c9
 have y2_1:=G2.cell (b:=w.heap.size) (o:=1) (v:=.int .i64 a) nf (by go_simp)
 have y2_2:=G2.cell (b:=w.heap.size) (o:=2) (v:=.int .i64 tk) nf (by go_simp)
 have nf2:=G2.nf (by simp) nf
 have GA:=Lib.hid ((Gr.of_below (E:=E) (L:=L) (P:=P) (vs:=vs) (w:=w) (by exact Rd.byB)).trans G2)
 replace S2:=Lib.hid S2
 have hcb2:=cell_lt y2_0
 clear A G2
 go_wp2_with fail
 refine Drawn.bk hK (hS:=by (try dsimp only);exact ⟨y2_0,y2_1,y2_2⟩) (h:=fun hHeld=>?_)
 clear hK K
 refine Drawn.cl 10 (fun K hK=>?_)
 go_simp
 go_at_call 52
 refine (storeP (l:=fr.loc) S2.out.loc S2.out.lbw hPh.out a ⟨tk,tn⟩ ha1 hlb).mono ?_
 rintro e w3 ⟨rfl,B3,K3⟩
 have A:=S2.out.setLoc (l:=Run.store fr.loc a ⟨tk,tn⟩) (store_len _ _ _) K3 B3
 obtain ⟨L3,v3,G3,S3⟩:=A.opn
 have hsl:(Run.store fr.loc a ⟨tk,tn⟩).length=fr.loc.length:=store_len _ _ _
 have y3_0:w3.cell? ⟨P.cb,9,none⟩=some (.slice (some ⟨P.lb,0,none⟩) fr.loc.length fr.loc.length):=by have:=S3.c9;simp only [hsl] at this;exact this
 have y3_1:=G3.cell (b:=w.heap.size) (o:=1) nf2 y2_1
 have y3_2:=G3.cell (b:=w.heap.size) (o:=2) nf2 y2_2
 have HF:=Lib.hid ((GA.out.trans G3).lft S3)
 clear A G3 hsl
 go_wp2_with fail
 refine Drawn.bk hK (hS:=by (try dsimp only);exact ⟨y3_0,y3_1,y3_2⟩) (h:=fun hHeld=>?_)
 clear hK K
 refine wpAnyH_done (by kernel_rfl) ?_ _
 go_wp2
 go_end0
 exact ⟨rfl,HF.out⟩
set_option maxRecDepth 100000 in
theorem pl14f (S:ST E w L P m d h fr vs) (hbig:fr.stk.length≤1000) (a b c n:Int) (args:List Int) (aa:Option Addr) (an acap:Nat) (q100:100≤h.objs.length) :
  Calls Tryz.prog 110 #[.pointer (some ⟨P.cb,0,none⟩),.agg #[.int .i64 14,.int .i64 a,.int .i64 b,.int .i64 c,.int .i64 n,.slice aa an acap]] w (PlR E L P m d vs fr (.tuple #[]) w (oA (sstep E.f E.input m ⟨14,a,b,c,n,args⟩ fr h))):=by
 rw [st14,show Run.new E.f.classes a h=.stop 4 h from by unfold Run.new;rw [if_pos q100]]
 have HS:=Lib.hid S
 have hcb:=S.cbw
 have hcb1:P.cb < w.heap.size+1:=by omega
 have nf:=S.fo_new (Nat.le_refl _)
 have c0:=S.c0
 clear S
 go_enter Tryz.func110,Tryz.ntmps110
 go_wp2_with fail
 refine Drawn.hd (fun w'=>w'.cell? ⟨P.cb,0,none⟩=some (.pointer (some ⟨E.hb,0,none⟩))∧w'.cell? ⟨w.heap.size,1,none⟩=some (.int .i64 a)) (h:=fun hHeld=>?_)
 refine Drawn.T 0 (some 102) (h:=?_)
 refine Drawn.T 1 (some 103) (h:=?_)
 refine Drawn.T 2 (some 104) (h:=?_)
 refine Drawn.T 3 (some 105) (h:=?_)
 refine Drawn.T 4 (some 106) (h:=?_)
 refine Drawn.T 5 (some 107) (h:=?_)
 refine Drawn.T 6 (some 108) (h:=?_)
 refine Drawn.cl 7 (fun K hK=>?_)
 go_simp
 go_at_call 163
 refine (newFull (HS.out.below (by exact Rd.byB)).H a q100).mono ?_
 rintro e w2 ⟨rfl,hb⟩
 have HB2:Below w.heap.size w w2:=Below.trans (by exact Rd.byB) (hb.mono Rd.byL)
 unfold pan
 refine And.intro rfl ?_
 exact plr_stop (Gr.of_below HB2) (HS.out.below HB2)
set_option maxRecDepth 100000 in
theorem pl14o (S:ST E w L P m d h fr vs) (hbig:fr.stk.length≤1000) (a b c n:Int) (args:List Int) (aa:Option Addr) (an acap:Nat) (hm:Hier.may E.f.classes=true) (q100:h.objs.length < 100) :
  Calls Tryz.prog 110 #[.pointer (some ⟨P.cb,0,none⟩),.agg #[.int .i64 14,.int .i64 a,.int .i64 b,.int .i64 c,.int .i64 n,.slice aa an acap]] w (PlR E L P m d vs fr (.tuple #[]) w (oA (sstep E.f E.input m ⟨14,a,b,c,n,args⟩ fr h))):=by
 rw [st14,show Run.new E.f.classes a h=.ok ⟨3,h.objs.length⟩ (more h ⟨a,fresh E.f.classes a⟩) from by unfold Run.new;rw [if_neg (by omega)];rfl]
 simp only [Res.act]
 have HS:=Lib.hid S
 have hcb:=S.cbw
 have hcb1:P.cb < w.heap.size+1:=by omega
 have nf:=S.fo_new (Nat.le_refl _)
 have c0:=S.c0
 clear S
 go_enter Tryz.func110,Tryz.ntmps110
 go_wp2_with fail
 refine Drawn.hd (fun w'=>w'.cell? ⟨P.cb,0,none⟩=some (.pointer (some ⟨E.hb,0,none⟩))∧w'.cell? ⟨w.heap.size,1,none⟩=some (.int .i64 a)) (h:=fun hHeld=>?_)
 refine Drawn.T 0 (some 102) (h:=?_)
 refine Drawn.T 1 (some 103) (h:=?_)
 refine Drawn.T 2 (some 104) (h:=?_)
 refine Drawn.T 3 (some 105) (h:=?_)
 refine Drawn.T 4 (some 106) (h:=?_)
 refine Drawn.T 5 (some 107) (h:=?_)
 refine Drawn.T 6 (some 108) (h:=?_)
 refine Drawn.cl 7 (fun K hK=>?_)
 go_simp
 go_at_call 163
 refine (newOk (HS.out.below (by exact Rd.byB)).H hm a q100).mono ?_
 rintro e w2 ⟨rfl,A⟩
 obtain ⟨L2,G2,S2⟩:=Gr.of_heap A (HS.out.below (by exact Rd.byB))
 have y2_0:w2.cell? ⟨P.cb,0,none⟩=some (.pointer (some ⟨E.hb,0,none⟩)):=S2.c0
 have y2_1:=G2.cell (b:=w.heap.size) (o:=1) (v:=.int .i64 a) nf (by go_simp)
 have nf2:=G2.nf (by simp) nf
 have GA:=Lib.hid ((Gr.of_below (E:=E) (L:=L) (P:=P) (vs:=vs) (w:=w) (by exact Rd.byB)).trans G2)
 replace S2:=Lib.hid S2
 clear A G2
 go_wp2_with fail
 refine Drawn.bk hK (hS:=by (try dsimp only);exact ⟨y2_0,y2_1⟩) (h:=fun hHeld=>?_)
 clear hK K
 refine Drawn.cl 8 (fun K hK=>?_)
 go_simp
 refine (put S2.out ⟨3,h.objs.length⟩ (by first | omega | (simp only [List.length_dropLast];omega))).mono ?_
 rintro e w9 (⟨q,rfl,A⟩ | ⟨q,rfl,A⟩)
 ·obtain ⟨L9,v9,G9,S9⟩:=A.opn
  have y9_0:w9.cell? ⟨P.cb,0,none⟩=some (.pointer (some ⟨E.hb,0,none⟩)):=S9.c0
  have y9_1:=G9.cell (b:=w.heap.size) (o:=1) (v:=.int .i64 a) nf2 (by go_simp)
  go_wp2_with fail
  refine Drawn.bk hK (hS:=by (try dsimp only);exact ⟨y9_0,y9_1⟩) (h:=fun hHeld=>?_)
  clear hK K
  refine wpAnyH_done (by kernel_rfl) ?_ _
  go_wp2
  go_end0
  exact plr_yes q (G9.lft S9) GA.out
 ·unfold pan
  refine And.intro rfl ?_
  exact plr_no q A GA.out
set_option maxRecDepth 100000 in
theorem pl25f (S:ST E w L P m d h fr vs) (hbig:fr.stk.length≤1000) (a b c n:Int) (args:List Int) (aa:Option Addr) (an acap:Nat) (q25:E.input.length≤h.used) :
  Calls Tryz.prog 110 #[.pointer (some ⟨P.cb,0,none⟩),.agg #[.int .i64 25,.int .i64 a,.int .i64 b,.int .i64 c,.int .i64 n,.slice aa an acap]] w (PlR E L P m d vs fr (.tuple #[]) w (oA (sstep E.f E.input m ⟨25,a,b,c,n,args⟩ fr h))):=by
 rw [st25,show Run.takeIn E.input h=.stop 3 h from by unfold Run.takeIn;rw [if_pos q25]]
 have HS:=Lib.hid S
 have hcb:=S.cbw
 have hcb1:P.cb < w.heap.size+1:=by omega
 have nf:=S.fo_new (Nat.le_refl _)
 have c0:=S.c0
 clear S
 go_enter Tryz.func110,Tryz.ntmps110
 go_wp2_with fail
 go_at_call 169
 refine (inStop (HS.out.below (by exact Rd.byB)).H q25).mono ?_
 rintro e w2 ⟨rfl,hb⟩
 have HB2:Below w.heap.size w w2:=Below.trans (by exact Rd.byB) (hb.mono Rd.byL)
 unfold pan
 refine And.intro rfl ?_
 exact plr_stop (Gr.of_below HB2) (HS.out.below HB2)
set_option maxRecDepth 100000 in
theorem pl25o (S:ST E w L P m d h fr vs) (hbig:fr.stk.length≤1000) (a b c n:Int) (args:List Int) (aa:Option Addr) (an acap:Nat) (hl:E.input.length≤1000) (q25:h.used < E.input.length) :
  Calls Tryz.prog 110 #[.pointer (some ⟨P.cb,0,none⟩),.agg #[.int .i64 25,.int .i64 a,.int .i64 b,.int .i64 c,.int .i64 n,.slice aa an acap]] w (PlR E L P m d vs fr (.tuple #[]) w (oA (sstep E.f E.input m ⟨25,a,b,c,n,args⟩ fr h))):=by
 rw [st25,show Run.takeIn E.input h=.ok ⟨2,E.input.getD h.used 0⟩ (used1 h) from by unfold Run.takeIn;rw [if_neg (by omega)];rfl]
 simp only [Res.act]
 have HS:=Lib.hid S
 have hcb:=S.cbw
 have hcb1:P.cb < w.heap.size+1:=by omega
 have nf:=S.fo_new (Nat.le_refl _)
 have c0:=S.c0
 obtain ⟨x,hx⟩:∃ x,Hid (E.input.getD h.used 0=x):=⟨_,Lib.hid rfl⟩
 rw [hx.out]
 clear S
 go_enter Tryz.func110,Tryz.ntmps110
 go_wp2_with fail
 go_at_call 169
 refine (inOk (HS.out.below (by exact Rd.byB)).H q25 hl).mono ?_
 rw [hx.out]
 unfold vval
 rintro e w2 ⟨rfl,H2,K2⟩
 obtain ⟨L2,G2,S2⟩:=Gr.of_heap ⟨L,K2,same_own,H2⟩ (HS.out.below (by exact Rd.byB))
 have GA:=Lib.hid ((Gr.of_below (E:=E) (L:=L) (P:=P) (vs:=vs) (w:=w) (by exact Rd.byB)).trans G2)
 replace S2:=Lib.hid S2
 clear H2 K2 G2
 go_wp2_with fail
 refine (put S2.out ⟨2,x⟩ (by first | omega | (simp only [List.length_dropLast];omega))).mono ?_
 rintro e w9 (⟨q,rfl,A⟩ | ⟨q,rfl,A⟩)
 ·go_wp2_with fail
  go_end0
  exact plr_yes q A GA.out
 ·unfold pan
  refine And.intro rfl ?_
  exact plr_no q A GA.out
end
end Hpw
namespace Hpw
open Num Rd D Run Mem HierW
section
variable {E:Ev}{w w' w1 w2:World}{L L' L1:Lay}{h h' h1 h2:Hp}{d:Nat}{P:PS}{m:Me}{fr fr' fr1:Sf}{vs vs1:Value}
set_option maxRecDepth 100000 in
theorem pl15n (S:ST E w L P m d h fr vs) (hbig:fr.stk.length≤1000) (a b c n:Int) (args:List Int) (aa:Option Addr) (an acap:Nat) (hn:fr.stk=[]) :
  Calls Tryz.prog 110 #[.pointer (some ⟨P.cb,0,none⟩),.agg #[.int .i64 15,.int .i64 a,.int .i64 b,.int .i64 c,.int .i64 n,.slice aa an acap]] w (PlR E L P m d vs fr (.tuple #[]) w (oA (sstep E.f E.input m ⟨15,a,b,c,n,args⟩ fr h))):=by
 rw [st15n hn]
 have HS:=Lib.hid S
 have hcb:=S.cbw
 have hcb1:P.cb < w.heap.size+1:=by omega
 have nf:=S.fo_new (Nat.le_refl _)
 clear S
 go_enter Tryz.func110,Tryz.ntmps110
 go_wp2_with (go_at_call 105;refine (anyNo (HS.out.below (by exact Rd.byB)) hn).mono ?_;rintro e w2 ⟨rfl,hb2⟩;have HB2:=Lib.hid (show Below w.heap.size w w2 from Below.trans (by exact Rd.byB) (hb2.mono Rd.byL));clear hb2;unfold pan)
 refine And.intro rfl ?_
 exact plr_stuck (Gr.of_below HB2.out) (HS.out.below HB2.out)
set_option maxRecDepth 100000 in
theorem pl15o (S:ST E w L P m d h fr vs) (hbig:fr.stk.length≤1000) (a b c n:Int) (args:List Int) (aa:Option Addr) (an acap:Nat) (hn:fr.stk≠[]) (hm:Hier.may E.f.classes=true) (hv:(top fr.stk).kind=3→(top fr.stk).n < h.objs.length) :
  Calls Tryz.prog 110 #[.pointer (some ⟨P.cb,0,none⟩),.agg #[.int .i64 15,.int .i64 a,.int .i64 b,.int .i64 c,.int .i64 n,.slice aa an acap]] w (PlR E L P m d vs fr (.tuple #[]) w (oA (sstep E.f E.input m ⟨15,a,b,c,n,args⟩ fr h))):=by
 rw [st15 hn]
 have HS:=Lib.hid S
 have hcb:=S.cbw
 have hcb1:P.cb < w.heap.size+1:=by omega
 have nf:=S.fo_new (Nat.le_refl _)
 have c0:=S.c0
 obtain ⟨⟨tk,tn⟩,ht⟩:∃ t,Hid (top fr.stk=t):=⟨_,Lib.hid rfl⟩
 rw [ht.out] at hv ⊢
 obtain ⟨r,hr⟩:∃ r,Hid (Run.get E.f.classes ⟨tk,tn⟩ a b h=r):=⟨_,Lib.hid rfl⟩
 rw [hr.out]
 have HV:=Lib.hid hv
 clear hv
 clear S
 go_enter Tryz.func110,Tryz.ntmps110
 go_wp2_with (go_at_call 105;refine (anyOk (HS.out.below (by exact Rd.byB)) hn hbig).mono ?_;rw [ht.out];unfold vl;rintro e w2 ⟨rfl,A⟩;obtain ⟨L2,v2,G2,S2⟩:=A.opn;have y2_0:w2.cell? ⟨P.cb,0,none⟩=some (.pointer (some ⟨E.hb,0,none⟩)):=S2.c0;have y2_1:=G2.cell (b:=w.heap.size) (o:=1) (v:=.int .i64 a) nf (by go_simp);have y2_2:=G2.cell (b:=w.heap.size) (o:=2) (v:=.int .i64 b) nf (by go_simp);have nf2:=G2.nf (by simp) nf;have nfb:=S2.fo_new (Nat.le_refl _);have hcb2:=S2.cbw;have GA:=Lib.hid ((Gr.of_below (E:=E) (L:=L) (P:=P) (vs:=vs) (w:=w) (by exact Rd.byB)).trans G2);replace S2:=Lib.hid S2;have hwl:w.heap.size < w2.heap.size:=(by have:=G2.kp.size;simp at this;omega);clear A G2)
 refine Drawn.hd (fun w'=>w'.cell? ⟨P.cb,0,none⟩=some (.pointer (some ⟨E.hb,0,none⟩))∧w'.cell? ⟨w2.heap.size,0,none⟩=some (.int .i64 tk)∧w'.cell? ⟨w2.heap.size,1,none⟩=some (.int .i64 tn)∧w'.cell? ⟨w.heap.size,1,none⟩=some (.int .i64 a)∧w'.cell? ⟨w.heap.size,2,none⟩=some (.int .i64 b)) (h:=fun hHeld=>?_)
 refine Drawn.T 0 (some 115) (h:=?_)
 refine Drawn.T 1 (some 116) (h:=?_)
 refine Drawn.T 2 (some 117) (h:=?_)
 refine Drawn.T 3 (some 118) (h:=?_)
 refine Drawn.T 4 (some 119) (h:=?_)
 refine Drawn.T 5 (some 120) (h:=?_)
 refine Drawn.T 6 (some 121) (h:=?_)
 refine Drawn.T 7 (some 122) (h:=?_)
 refine Drawn.T 8 (some 123) (h:=?_)
 refine Drawn.T 9 (some 124) (h:=?_)
 refine Drawn.cl 10 (fun K hK=>?_)
 go_simp
 go_at_call 164
 refine (getP (S2.out.below (by exact Rd.byB)).H hm ⟨tk,tn⟩ a b HV.out).mono ?_
 rw [hr.out]
 rintro e w3 hR
 cases r with
 | ok x h2 =>
  obtain ⟨xk,xn⟩:=x
  obtain ⟨rfl,A⟩:=hR
  unfold vval
  obtain ⟨L3,G3,S3⟩:=Gr.of_heap A (S2.out.below (by exact Rd.byB))
  have y3_0:w3.cell? ⟨P.cb,0,none⟩=some (.pointer (some ⟨E.hb,0,none⟩)):=S3.c0
  have y3_1:=G3.cell (b:=w2.heap.size) (o:=0) (v:=.int .i64 tk) nfb (by go_simp)
  have y3_2:=G3.cell (b:=w2.heap.size) (o:=1) (v:=.int .i64 tn) nfb (by go_simp)
  have y3_3:=G3.cell (b:=w.heap.size) (o:=1) (v:=.int .i64 a) nf2 (by go_simp)
  have y3_4:=G3.cell (b:=w.heap.size) (o:=2) (v:=.int .i64 b) nf2 (by go_simp)
  have nf3:=G3.nf (by simp;omega) nf2
  have nf3b:=G3.nf (by simp) nfb
  have GB:=Lib.hid ((GA.out.trans (Gr.of_below (by exact Rd.byB))).trans G3)
  replace S3:=Lib.hid S3
  clear A G3
  go_wp2_with fail
  refine Drawn.bk hK (hS:=by (try dsimp only);exact ⟨y3_0,y3_1,y3_2,y3_3,y3_4⟩) (h:=fun hHeld=>?_)
  clear hK K
  refine Drawn.cl 11 (fun K hK=>?_)
  go_simp
  refine (put S3.out ⟨xk,xn⟩ (by first | omega | (simp only [List.length_dropLast];omega))).mono ?_
  rintro e w9 (⟨q,rfl,A⟩ | ⟨q,rfl,A⟩)
  ·obtain ⟨L9,v9,G9,S9⟩:=A.opn
   have y9_0:w9.cell? ⟨P.cb,0,none⟩=some (.pointer (some ⟨E.hb,0,none⟩)):=S9.c0
   have y9_1:=G9.cell (b:=w2.heap.size) (o:=0) (v:=.int .i64 tk) nf3b (by go_simp)
   have y9_2:=G9.cell (b:=w2.heap.size) (o:=1) (v:=.int .i64 tn) nf3b (by go_simp)
   have y9_3:=G9.cell (b:=w.heap.size) (o:=1) (v:=.int .i64 a) nf3 (by go_simp)
   have y9_4:=G9.cell (b:=w.heap.size) (o:=2) (v:=.int .i64 b) nf3 (by go_simp)
   go_wp2_with fail
   refine Drawn.bk hK (hS:=by (try dsimp only);exact ⟨y9_0,y9_1,y9_2,y9_3,y9_4⟩) (h:=fun hHeld=>?_)
   clear hK K
   refine wpAnyH_done (by kernel_rfl) ?_ _
   go_wp2
   go_end0
   exact plr_yes q (G9.lft S9) GB.out
  ·unfold pan
   refine And.intro rfl ?_
   exact plr_no q A GB.out
 | thrown o h2 =>
  obtain ⟨rfl,A⟩:=hR
  obtain ⟨L3,G3,S3⟩:=Gr.of_heap A (S2.out.below (by exact Rd.byB))
  unfold pan
  refine And.intro rfl ?_
  exact plr_thrown ((GA.out.trans (Gr.of_below (by exact Rd.byB))).trans G3) S3
 | stop c2 h2 =>
  obtain ⟨rfl,A⟩:=hR
  obtain ⟨L3,G3,S3⟩:=Gr.of_heap A (S2.out.below (by exact Rd.byB))
  unfold pan
  refine And.intro rfl ?_
  exact plr_stop ((GA.out.trans (Gr.of_below (by exact Rd.byB))).trans G3) S3
set_option maxRecDepth 100000 in
theorem pl18n (S:ST E w L P m d h fr vs) (hbig:fr.stk.length≤1000) (a b c n:Int) (args:List Int) (aa:Option Addr) (an acap:Nat) (hn:fr.stk=[]) :
  Calls Tryz.prog 110 #[.pointer (some ⟨P.cb,0,none⟩),.agg #[.int .i64 18,.int .i64 a,.int .i64 b,.int .i64 c,.int .i64 n,.slice aa an acap]] w (PlR E L P m d vs fr (.tuple #[]) w (oA (sstep E.f E.input m ⟨18,a,b,c,n,args⟩ fr h))):=by
 rw [st18n hn]
 have HS:=Lib.hid S
 have hcb:=S.cbw
 have hcb1:P.cb < w.heap.size+1:=by omega
 have nf:=S.fo_new (Nat.le_refl _)
 clear S
 go_enter Tryz.func110,Tryz.ntmps110
 go_wp2_with (go_at_call 105;refine (anyNo (HS.out.below (by exact Rd.byB)) hn).mono ?_;rintro e w2 ⟨rfl,hb2⟩;have HB2:=Lib.hid (show Below w.heap.size w w2 from Below.trans (by exact Rd.byB) (hb2.mono Rd.byL));clear hb2;unfold pan)
 refine And.intro rfl ?_
 exact plr_stuck (Gr.of_below HB2.out) (HS.out.below HB2.out)
set_option maxRecDepth 100000 in
theorem pl18o (S:ST E w L P m d h fr vs) (hbig:fr.stk.length≤1000) (a b c n:Int) (args:List Int) (aa:Option Addr) (an acap:Nat) (hn:fr.stk≠[]) (hm:Hier.may E.f.classes=true) (hv:(top fr.stk).kind=3→(top fr.stk).n < h.objs.length) :
  Calls Tryz.prog 110 #[.pointer (some ⟨P.cb,0,none⟩),.agg #[.int .i64 18,.int .i64 a,.int .i64 b,.int .i64 c,.int .i64 n,.slice aa an acap]] w (PlR E L P m d vs fr (.tuple #[]) w (oA (sstep E.f E.input m ⟨18,a,b,c,n,args⟩ fr h))):=by
 rw [st18 hn]
 have HS:=Lib.hid S
 have hcb:=S.cbw
 have hcb1:P.cb < w.heap.size+1:=by omega
 have nf:=S.fo_new (Nat.le_refl _)
 have c0:=S.c0
 obtain ⟨⟨tk,tn⟩,ht⟩:∃ t,Hid (top fr.stk=t):=⟨_,Lib.hid rfl⟩
 rw [ht.out] at hv ⊢
 obtain ⟨r,hr⟩:∃ r,Hid (Run.isV E.f.classes ⟨tk,tn⟩ a h=r):=⟨_,Lib.hid rfl⟩
 rw [hr.out]
 have HV:=Lib.hid hv
 clear hv
 clear S
 go_enter Tryz.func110,Tryz.ntmps110
 go_wp2_with (go_at_call 105;refine (anyOk (HS.out.below (by exact Rd.byB)) hn hbig).mono ?_;rw [ht.out];unfold vl;rintro e w2 ⟨rfl,A⟩;obtain ⟨L2,v2,G2,S2⟩:=A.opn;have y2_0:w2.cell? ⟨P.cb,0,none⟩=some (.pointer (some ⟨E.hb,0,none⟩)):=S2.c0;have y2_1:=G2.cell (b:=w.heap.size) (o:=1) (v:=.int .i64 a) nf (by go_simp);have nf2:=G2.nf (by simp) nf;have nfb:=S2.fo_new (Nat.le_refl _);have hcb2:=S2.cbw;have GA:=Lib.hid ((Gr.of_below (E:=E) (L:=L) (P:=P) (vs:=vs) (w:=w) (by exact Rd.byB)).trans G2);replace S2:=Lib.hid S2;have hwl:w.heap.size < w2.heap.size:=(by have:=G2.kp.size;simp at this;omega);clear A G2)
 refine Drawn.hd (fun w'=>w'.cell? ⟨P.cb,0,none⟩=some (.pointer (some ⟨E.hb,0,none⟩))∧w'.cell? ⟨w2.heap.size,0,none⟩=some (.int .i64 tk)∧w'.cell? ⟨w2.heap.size,1,none⟩=some (.int .i64 tn)∧w'.cell? ⟨w.heap.size,1,none⟩=some (.int .i64 a)) (h:=fun hHeld=>?_)
 refine Drawn.T 0 (some 163) (h:=?_)
 refine Drawn.T 1 (some 164) (h:=?_)
 refine Drawn.T 2 (some 165) (h:=?_)
 refine Drawn.T 3 (some 166) (h:=?_)
 refine Drawn.T 4 (some 167) (h:=?_)
 refine Drawn.T 5 (some 168) (h:=?_)
 refine Drawn.T 6 (some 169) (h:=?_)
 refine Drawn.T 7 (some 170) (h:=?_)
 refine Drawn.cl 8 (fun K hK=>?_)
 go_simp
 go_at_call 167
 refine (isP (S2.out.below (by exact Rd.byB)).H hm ⟨tk,tn⟩ a HV.out).mono ?_
 rw [hr.out]
 rintro e w3 hR
 cases r with
 | ok x h2 =>
  obtain ⟨xk,xn⟩:=x
  obtain ⟨rfl,A⟩:=hR
  unfold vval
  obtain ⟨L3,G3,S3⟩:=Gr.of_heap A (S2.out.below (by exact Rd.byB))
  have y3_0:w3.cell? ⟨P.cb,0,none⟩=some (.pointer (some ⟨E.hb,0,none⟩)):=S3.c0
  have y3_1:=G3.cell (b:=w2.heap.size) (o:=0) (v:=.int .i64 tk) nfb (by go_simp)
  have y3_2:=G3.cell (b:=w2.heap.size) (o:=1) (v:=.int .i64 tn) nfb (by go_simp)
  have y3_3:=G3.cell (b:=w.heap.size) (o:=1) (v:=.int .i64 a) nf2 (by go_simp)
  have nf3:=G3.nf (by simp;omega) nf2
  have nf3b:=G3.nf (by simp) nfb
  have GB:=Lib.hid ((GA.out.trans (Gr.of_below (by exact Rd.byB))).trans G3)
  replace S3:=Lib.hid S3
  clear A G3
  go_wp2_with fail
  refine Drawn.bk hK (hS:=by (try dsimp only);exact ⟨y3_0,y3_1,y3_2,y3_3⟩) (h:=fun hHeld=>?_)
  clear hK K
  refine Drawn.cl 9 (fun K hK=>?_)
  go_simp
  refine (put S3.out ⟨xk,xn⟩ (by first | omega | (simp only [List.length_dropLast];omega))).mono ?_
  rintro e w9 (⟨q,rfl,A⟩ | ⟨q,rfl,A⟩)
  ·obtain ⟨L9,v9,G9,S9⟩:=A.opn
   have y9_0:w9.cell? ⟨P.cb,0,none⟩=some (.pointer (some ⟨E.hb,0,none⟩)):=S9.c0
   have y9_1:=G9.cell (b:=w2.heap.size) (o:=0) (v:=.int .i64 tk) nf3b (by go_simp)
   have y9_2:=G9.cell (b:=w2.heap.size) (o:=1) (v:=.int .i64 tn) nf3b (by go_simp)
   have y9_3:=G9.cell (b:=w.heap.size) (o:=1) (v:=.int .i64 a) nf3 (by go_simp)
   go_wp2_with fail
   refine Drawn.bk hK (hS:=by (try dsimp only);exact ⟨y9_0,y9_1,y9_2,y9_3⟩) (h:=fun hHeld=>?_)
   clear hK K
   refine wpAnyH_done (by kernel_rfl) ?_ _
   go_wp2
   go_end0
   exact plr_yes q (G9.lft S9) GB.out
  ·unfold pan
   refine And.intro rfl ?_
   exact plr_no q A GB.out
 | thrown o h2 =>
  obtain ⟨rfl,A⟩:=hR
  obtain ⟨L3,G3,S3⟩:=Gr.of_heap A (S2.out.below (by exact Rd.byB))
  unfold pan
  refine And.intro rfl ?_
  exact plr_thrown ((GA.out.trans (Gr.of_below (by exact Rd.byB))).trans G3) S3
 | stop c2 h2 =>
  obtain ⟨rfl,A⟩:=hR
  obtain ⟨L3,G3,S3⟩:=Gr.of_heap A (S2.out.below (by exact Rd.byB))
  unfold pan
  refine And.intro rfl ?_
  exact plr_stop ((GA.out.trans (Gr.of_below (by exact Rd.byB))).trans G3) S3
set_option maxRecDepth 100000 in
theorem pl17n (S:ST E w L P m d h fr vs) (hbig:fr.stk.length≤1000) (a b c n:Int) (args:List Int) (aa:Option Addr) (an acap:Nat) (hn:fr.stk=[]) :
  Calls Tryz.prog 110 #[.pointer (some ⟨P.cb,0,none⟩),.agg #[.int .i64 17,.int .i64 a,.int .i64 b,.int .i64 c,.int .i64 n,.slice aa an acap]] w (PlR E L P m d vs fr (.tuple #[]) w (oA (sstep E.f E.input m ⟨17,a,b,c,n,args⟩ fr h))):=by
 rw [st17n hn]
 have HS:=Lib.hid S
 have hcb:=S.cbw
 have hcb1:P.cb < w.heap.size+1:=by omega
 have nf:=S.fo_new (Nat.le_refl _)
 clear S
 go_enter Tryz.func110,Tryz.ntmps110
 go_wp2_with (go_at_call 105;refine (anyNo (HS.out.below (by exact Rd.byB)) hn).mono ?_;rintro e w2 ⟨rfl,hb2⟩;have HB2:=Lib.hid (show Below w.heap.size w w2 from Below.trans (by exact Rd.byB) (hb2.mono Rd.byL));clear hb2;unfold pan)
 refine And.intro rfl ?_
 exact plr_stuck (Gr.of_below HB2.out) (HS.out.below HB2.out)
set_option maxRecDepth 100000 in
theorem pl17o (S:ST E w L P m d h fr vs) (hbig:fr.stk.length≤1000) (a b c n:Int) (args:List Int) (aa:Option Addr) (an acap:Nat) (hn:fr.stk≠[]) (hm:Hier.may E.f.classes=true) (hv:(top fr.stk).kind=3→(top fr.stk).n < h.objs.length) :
  Calls Tryz.prog 110 #[.pointer (some ⟨P.cb,0,none⟩),.agg #[.int .i64 17,.int .i64 a,.int .i64 b,.int .i64 c,.int .i64 n,.slice aa an acap]] w (PlR E L P m d vs fr (.tuple #[]) w (oA (sstep E.f E.input m ⟨17,a,b,c,n,args⟩ fr h))):=by
 rw [st17 hn]
 have HS:=Lib.hid S
 have hcb:=S.cbw
 have hcb1:P.cb < w.heap.size+1:=by omega
 have nf:=S.fo_new (Nat.le_refl _)
 have c0:=S.c0
 obtain ⟨⟨tk,tn⟩,ht⟩:∃ t,Hid (top fr.stk=t):=⟨_,Lib.hid rfl⟩
 rw [ht.out] at hv ⊢
 obtain ⟨r,hr⟩:∃ r,Hid (Run.cast E.f.classes ⟨tk,tn⟩ a h=r):=⟨_,Lib.hid rfl⟩
 rw [hr.out]
 have HV:=Lib.hid hv
 clear hv
 clear S
 go_enter Tryz.func110,Tryz.ntmps110
 go_wp2_with (go_at_call 105;refine (anyOk (HS.out.below (by exact Rd.byB)) hn hbig).mono ?_;rw [ht.out];unfold vl;rintro e w2 ⟨rfl,A⟩;obtain ⟨L2,v2,G2,S2⟩:=A.opn;have y2_0:w2.cell? ⟨P.cb,0,none⟩=some (.pointer (some ⟨E.hb,0,none⟩)):=S2.c0;have y2_1:=G2.cell (b:=w.heap.size) (o:=1) (v:=.int .i64 a) nf (by go_simp);have nf2:=G2.nf (by simp) nf;have nfb:=S2.fo_new (Nat.le_refl _);have hcb2:=S2.cbw;have GA:=Lib.hid ((Gr.of_below (E:=E) (L:=L) (P:=P) (vs:=vs) (w:=w) (by exact Rd.byB)).trans G2);replace S2:=Lib.hid S2;have hwl:w.heap.size < w2.heap.size:=(by have:=G2.kp.size;simp at this;omega);clear A G2)
 refine Drawn.hd (fun w'=>w'.cell? ⟨P.cb,0,none⟩=some (.pointer (some ⟨E.hb,0,none⟩))∧w'.cell? ⟨w2.heap.size,0,none⟩=some (.int .i64 tk)∧w'.cell? ⟨w2.heap.size,1,none⟩=some (.int .i64 tn)∧w'.cell? ⟨w.heap.size,1,none⟩=some (.int .i64 a)) (h:=fun hHeld=>?_)
 refine Drawn.T 0 (some 148) (h:=?_)
 refine Drawn.T 1 (some 149) (h:=?_)
 refine Drawn.T 2 (some 150) (h:=?_)
 refine Drawn.T 3 (some 151) (h:=?_)
 refine Drawn.T 4 (some 152) (h:=?_)
 refine Drawn.T 5 (some 153) (h:=?_)
 refine Drawn.T 6 (some 154) (h:=?_)
 refine Drawn.cl 7 (fun K hK=>?_)
 go_simp
 go_at_call 166
 refine (castP (S2.out.below (by exact Rd.byB)).H hm ⟨tk,tn⟩ a HV.out).mono ?_
 rw [hr.out]
 rintro e w3 hR
 cases r with
 | ok x h2 =>
  obtain ⟨rfl,A⟩:=hR
  unfold unitV
  obtain ⟨L3,G3,S3⟩:=Gr.of_heap A (S2.out.below (by exact Rd.byB))
  have y3_0:w3.cell? ⟨P.cb,0,none⟩=some (.pointer (some ⟨E.hb,0,none⟩)):=S3.c0
  have y3_1:=G3.cell (b:=w2.heap.size) (o:=0) (v:=.int .i64 tk) nfb (by go_simp)
  have y3_2:=G3.cell (b:=w2.heap.size) (o:=1) (v:=.int .i64 tn) nfb (by go_simp)
  have y3_3:=G3.cell (b:=w.heap.size) (o:=1) (v:=.int .i64 a) nf2 (by go_simp)
  have GB:=Lib.hid ((GA.out.trans (Gr.of_below (by exact Rd.byB))).trans G3)
  replace S3:=Lib.hid S3
  clear A G3
  go_wp2_with fail
  refine Drawn.bk hK (hS:=by (try dsimp only);exact ⟨y3_0,y3_1,y3_2,y3_3⟩) (h:=fun hHeld=>?_)
  clear hK K
  refine wpAnyH_done (by kernel_rfl) ?_ _
  go_wp2_with fail
  refine (put S3.out ⟨tk,tn⟩ (by first | omega | (simp only [List.length_dropLast];omega))).mono ?_
  rintro e w9 (⟨q,rfl,A⟩ | ⟨q,rfl,A⟩)
  ·go_wp2_with fail
   go_end0
   exact plr_yes q A GB.out
  ·unfold pan
   refine And.intro rfl ?_
   exact plr_no q A GB.out
 | thrown o h2 =>
  obtain ⟨rfl,A⟩:=hR
  obtain ⟨L3,G3,S3⟩:=Gr.of_heap A (S2.out.below (by exact Rd.byB))
  unfold pan
  refine And.intro rfl ?_
  exact plr_thrown ((GA.out.trans (Gr.of_below (by exact Rd.byB))).trans G3) S3
 | stop c2 h2 =>
  obtain ⟨rfl,A⟩:=hR
  obtain ⟨L3,G3,S3⟩:=Gr.of_heap A (S2.out.below (by exact Rd.byB))
  unfold pan
  refine And.intro rfl ?_
  exact plr_stop ((GA.out.trans (Gr.of_below (by exact Rd.byB))).trans G3) S3
end
end Hpw
namespace Hpw
open Num Rd D Run Mem HierW
section
variable {E:Ev}{w w' w1 w2:World}{L L' L1:Lay}{h h' h1 h2:Hp}{d:Nat}{P:PS}{m:Me}{fr fr' fr1:Sf}{vs vs1:Value}
set_option maxRecDepth 100000 in
theorem pl16n (S:ST E w L P m d h fr vs) (hbig:fr.stk.length≤1000) (a b c n:Int) (args:List Int) (aa:Option Addr) (an acap:Nat) (hn:fr.stk=[]) :
  Calls Tryz.prog 110 #[.pointer (some ⟨P.cb,0,none⟩),.agg #[.int .i64 16,.int .i64 a,.int .i64 b,.int .i64 c,.int .i64 n,.slice aa an acap]] w (PlR E L P m d vs fr (.tuple #[]) w (oA (sstep E.f E.input m ⟨16,a,b,c,n,args⟩ fr h))):=by
 rw [st16n (.inl hn)]
 have HS:=Lib.hid S
 have hcb:=S.cbw
 have hcb1:P.cb < w.heap.size+1:=by omega
 have nf:=S.fo_new (Nat.le_refl _)
 clear S
 go_enter Tryz.func110,Tryz.ntmps110
 go_wp2_with (go_at_call 105;refine (anyNo (HS.out.below (by exact Rd.byB)) hn).mono ?_;rintro e w2 ⟨rfl,hb2⟩;have HB2:=Lib.hid (show Below w.heap.size w w2 from Below.trans (by exact Rd.byB) (hb2.mono Rd.byL));clear hb2;unfold pan)
 refine And.intro rfl ?_
 exact plr_stuck (Gr.of_below HB2.out) (HS.out.below HB2.out)
set_option maxRecDepth 100000 in
theorem pl16m (S:ST E w L P m d h fr vs) (hbig:fr.stk.length≤1000) (a b c n:Int) (args:List Int) (aa:Option Addr) (an acap:Nat) (hn1:fr.stk≠[]) (hn:fr.stk.dropLast=[]) :
  Calls Tryz.prog 110 #[.pointer (some ⟨P.cb,0,none⟩),.agg #[.int .i64 16,.int .i64 a,.int .i64 b,.int .i64 c,.int .i64 n,.slice aa an acap]] w (PlR E L P m d vs fr (.tuple #[]) w (oA (sstep E.f E.input m ⟨16,a,b,c,n,args⟩ fr h))):=by
 rw [st16n (.inr hn)]
 have HS:=Lib.hid S
 have hcb:=S.cbw
 have hcb1:P.cb < w.heap.size+1:=by omega
 have nf:=S.fo_new (Nat.le_refl _)
 have c0:=S.c0
 obtain ⟨⟨tk,tn⟩,ht⟩:∃ t,Hid (top fr.stk=t):=⟨_,Lib.hid rfl⟩
 clear S
 go_enter Tryz.func110,Tryz.ntmps110
 go_wp2_with (go_at_call 105;refine (anyOk (HS.out.below (by exact Rd.byB)) hn1 hbig).mono ?_;rw [ht.out];unfold vl;rintro e w2 ⟨rfl,A⟩;obtain ⟨L2,v2,G2,S2⟩:=A.opn;have y2_0:w2.cell? ⟨P.cb,0,none⟩=some (.pointer (some ⟨E.hb,0,none⟩)):=S2.c0;have y2_1:=G2.cell (b:=w.heap.size) (o:=1) (v:=.int .i64 a) nf (by go_simp);have y2_2:=G2.cell (b:=w.heap.size) (o:=2) (v:=.int .i64 b) nf (by go_simp);have nf2:=G2.nf (by simp) nf;have nfb:=S2.fo_new (Nat.le_refl _);have hcb2:=S2.cbw;have GA:=Lib.hid ((Gr.of_below (E:=E) (L:=L) (P:=P) (vs:=vs) (w:=w) (by exact Rd.byB)).trans G2);replace S2:=Lib.hid S2;have hwl:w.heap.size < w2.heap.size:=(by have:=G2.kp.size;simp at this;omega);clear A G2)
 go_at_call 107
 refine (takeNo (S2.out.below (by exact Rd.byB)) hn _).mono ?_
 rintro e w3 ⟨rfl,hb⟩
 have HB3:Below w2.heap.size w2 w3:=Below.trans (by exact Rd.byB) (hb.mono Rd.byL)
 unfold pan
 refine And.intro rfl ?_
 exact plr_stuck (GA.out.trans (Gr.of_below HB3)) (S2.out.below HB3)
set_option maxRecDepth 100000 in
theorem pl16b (S:ST E w L P m d h fr vs) (hbig:fr.stk.length≤1000) (a b c n:Int) (args:List Int) (aa:Option Addr) (an acap:Nat) (hn:fr.stk≠[]) (hn2:fr.stk.dropLast≠[]) (hk:(top fr.stk.dropLast).kind≠3) :
  Calls Tryz.prog 110 #[.pointer (some ⟨P.cb,0,none⟩),.agg #[.int .i64 16,.int .i64 a,.int .i64 b,.int .i64 c,.int .i64 n,.slice aa an acap]] w (PlR E L P m d vs fr (.tuple #[]) w (oA (sstep E.f E.input m ⟨16,a,b,c,n,args⟩ fr h))):=by
 rw [st16 hn hn2]
 unfold kindly
 rw [if_neg hk]
 have HS:=Lib.hid S
 have hcb:=S.cbw
 have hcb1:P.cb < w.heap.size+1:=by omega
 have nf:=S.fo_new (Nat.le_refl _)
 have c0:=S.c0
 obtain ⟨⟨tk,tn⟩,ht⟩:∃ t,Hid (top fr.stk=t):=⟨_,Lib.hid rfl⟩
 clear S
 go_enter Tryz.func110,Tryz.ntmps110
 go_wp2_with (go_at_call 105;refine (anyOk (HS.out.below (by exact Rd.byB)) hn hbig).mono ?_;rw [ht.out];unfold vl;rintro e w2 ⟨rfl,A⟩;obtain ⟨L2,v2,G2,S2⟩:=A.opn;have y2_0:w2.cell? ⟨P.cb,0,none⟩=some (.pointer (some ⟨E.hb,0,none⟩)):=S2.c0;have y2_1:=G2.cell (b:=w.heap.size) (o:=1) (v:=.int .i64 a) nf (by go_simp);have y2_2:=G2.cell (b:=w.heap.size) (o:=2) (v:=.int .i64 b) nf (by go_simp);have nf2:=G2.nf (by simp) nf;have nfb:=S2.fo_new (Nat.le_refl _);have hcb2:=S2.cbw;have GA:=Lib.hid ((Gr.of_below (E:=E) (L:=L) (P:=P) (vs:=vs) (w:=w) (by exact Rd.byB)).trans G2);replace S2:=Lib.hid S2;have hwl:w.heap.size < w2.heap.size:=(by have:=G2.kp.size;simp at this;omega);clear A G2)
 go_at_call 107
 refine (takeBad (S2.out.below (by exact Rd.byB)) hn2 (by simp only [List.length_dropLast];omega) _ hk).mono ?_
 rintro e w3 ⟨rfl,A⟩
 obtain ⟨L3,v3,G3,S3⟩:=(LftF.before (w:=w2) (by exact Rd.byB) A).opn
 unfold pan
 refine And.intro rfl ?_
 exact plr_stuck (GA.out.trans G3) S3
set_option maxRecDepth 100000 in
theorem pl16o (S:ST E w L P m d h fr vs) (hbig:fr.stk.length≤1000) (a b c n:Int) (args:List Int) (aa:Option Addr) (an acap:Nat) (hn:fr.stk≠[]) (hn2:fr.stk.dropLast≠[]) (hk:(top fr.stk.dropLast).kind=3) (hm:Hier.may E.f.classes=true) (HO:HpOk E.f.classes E.input E.fuel h) (hr:VlOk h.objs.length (top fr.stk.dropLast)) (hv:VlOk h.objs.length (top fr.stk)) (hc:0≤a∧a < E.f.classes.length) (hf:0≤b∧b < ((Hier.at' E.f.classes a.toNat).fields.length:Int)) :
  Calls Tryz.prog 110 #[.pointer (some ⟨P.cb,0,none⟩),.agg #[.int .i64 16,.int .i64 a,.int .i64 b,.int .i64 c,.int .i64 n,.slice aa an acap]] w (PlR E L P m d vs fr (.tuple #[]) w (oA (sstep E.f E.input m ⟨16,a,b,c,n,args⟩ fr h))):=by
 rw [st16 hn hn2]
 unfold kindly
 rw [if_pos hk]
 have HS:=Lib.hid S
 have hcb:=S.cbw
 have hcb1:P.cb < w.heap.size+1:=by omega
 have nf:=S.fo_new (Nat.le_refl _)
 have c0:=S.c0
 obtain ⟨⟨tk,tn⟩,ht⟩:∃ t,Hid (top fr.stk=t):=⟨_,Lib.hid rfl⟩
 obtain ⟨⟨uk,un⟩,hu⟩:∃ t,Hid (top fr.stk.dropLast=t):=⟨_,Lib.hid rfl⟩
 rw [hu.out] at hk hr ⊢
 rw [ht.out] at hv ⊢
 simp only at hk
 subst hk
 obtain ⟨r,hrr⟩:∃ r,Hid (Run.put E.f.classes ⟨3,un⟩ a b ⟨tk,tn⟩ (ftype E.f.classes a b) h=r):=⟨_,Lib.hid rfl⟩
 rw [hrr.out]
 have HV:=Lib.hid hv
 have HR:=Lib.hid hr
 have HH:=Lib.hid HO
 have HC:=Lib.hid hc
 have HF:=Lib.hid hf
 clear hv hr HO hc hf
 clear S
 go_enter Tryz.func110,Tryz.ntmps110
 go_wp2_with (go_at_call 105;refine (anyOk (HS.out.below (by exact Rd.byB)) hn hbig).mono ?_;rw [ht.out];unfold vl;rintro e w2 ⟨rfl,A⟩;obtain ⟨L2,v2,G2,S2⟩:=A.opn;have y2_0:w2.cell? ⟨P.cb,0,none⟩=some (.pointer (some ⟨E.hb,0,none⟩)):=S2.c0;have y2_1:=G2.cell (b:=w.heap.size) (o:=1) (v:=.int .i64 a) nf (by go_simp);have y2_2:=G2.cell (b:=w.heap.size) (o:=2) (v:=.int .i64 b) nf (by go_simp);have nf2:=G2.nf (by simp) nf;have nfb:=S2.fo_new (Nat.le_refl _);have hcb2:=S2.cbw;have GA:=Lib.hid ((Gr.of_below (E:=E) (L:=L) (P:=P) (vs:=vs) (w:=w) (by exact Rd.byB)).trans G2);replace S2:=Lib.hid S2;have hwl:w.heap.size < w2.heap.size:=(by have:=G2.kp.size;simp at this;omega);clear A G2)
 go_at_call 107
 refine (takeOk (S2.out.below (by exact Rd.byB)) hn2 (by simp only [List.length_dropLast];omega) _ (by rw [hu.out])).mono ?_
 rw [hu.out]
 unfold vl
 rintro e w3 ⟨rfl,A⟩
 obtain ⟨L3,v3,G3,S3⟩:=A.opn
 have y3_0:w3.cell? ⟨P.cb,0,none⟩=some (.pointer (some ⟨E.hb,0,none⟩)):=S3.c0
 have y3_1:=G3.cell (b:=w.heap.size) (o:=1) (v:=.int .i64 a) nf2 (by go_simp)
 have y3_2:=G3.cell (b:=w.heap.size) (o:=2) (v:=.int .i64 b) nf2 (by go_simp)
 have y3_3:=G3.cell (b:=w2.heap.size) (o:=0) (v:=.int .i64 tk) nfb (by go_simp)
 have y3_4:=G3.cell (b:=w2.heap.size) (o:=1) (v:=.int .i64 tn) nfb (by go_simp)
 have nf3:=G3.nf (by simp;omega) nf2
 have nf3b:=G3.nf (by simp) nfb
 have nf3c:=S3.fo_new (Nat.le_refl _)
 have GB:=Lib.hid ((GA.out.trans (Gr.of_below (by exact Rd.byB))).trans G3)
 have hcb3:=S3.cbw
 have hwl3:w2.heap.size < w3.heap.size:=by have:=G3.kp.size;simp at this;omega
 have hwl4:w.heap.size < w3.heap.size:=by omega
 replace S3:=Lib.hid S3
 clear A G3
 go_wp2_with fail
 refine Drawn.hd (fun w'=>w'.cell? ⟨P.cb,0,none⟩=some (.pointer (some ⟨E.hb,0,none⟩))∧w'.cell? ⟨w3.heap.size,0,none⟩=some (.int .i64 3)∧w'.cell? ⟨w3.heap.size,1,none⟩=some (.int .i64 un)∧w'.cell? ⟨w.heap.size,1,none⟩=some (.int .i64 a)∧w'.cell? ⟨w.heap.size,2,none⟩=some (.int .i64 b)∧w'.cell? ⟨w2.heap.size,0,none⟩=some (.int .i64 tk)∧w'.cell? ⟨w2.heap.size,1,none⟩=some (.int .i64 tn)) (h:=fun hHeld=>?_)
 refine Drawn.T 0 (some 133) (h:=?_)
 refine Drawn.T 1 (some 134) (h:=?_)
 refine Drawn.T 2 (some 135) (h:=?_)
 refine Drawn.T 3 (some 136) (h:=?_)
 refine Drawn.T 4 (some 137) (h:=?_)
 refine Drawn.T 5 (some 138) (h:=?_)
 refine Drawn.T 6 (some 139) (h:=?_)
 refine Drawn.T 7 (some 140) (h:=?_)
 refine Drawn.T 8 (some 141) (h:=?_)
 refine Drawn.T 9 (some 142) (h:=?_)
 refine Drawn.cl 10 (fun K hK=>?_)
 go_simp
 go_at_call 165
 refine (putP (S3.out.below (by exact Rd.byB)).H hm HH.out ⟨3,un⟩ ⟨tk,tn⟩ a b HR.out HV.out HC.out HF.out).mono ?_
 rw [hrr.out]
 rintro e w4 hR
 cases r with
 | ok x h2 =>
  obtain ⟨rfl,A⟩:=hR
  obtain ⟨L4,G4,S4⟩:=Gr.of_heap A (S3.out.below (by exact Rd.byB))
  have y4_0:w4.cell? ⟨P.cb,0,none⟩=some (.pointer (some ⟨E.hb,0,none⟩)):=S4.c0
  have y4_1:=G4.cell (b:=w3.heap.size) (o:=0) (v:=.int .i64 3) nf3c (by go_simp)
  have y4_2:=G4.cell (b:=w3.heap.size) (o:=1) (v:=.int .i64 un) nf3c (by go_simp)
  have y4_3:=G4.cell (b:=w.heap.size) (o:=1) (v:=.int .i64 a) nf3 (by go_simp)
  have y4_4:=G4.cell (b:=w.heap.size) (o:=2) (v:=.int .i64 b) nf3 (by go_simp)
  have y4_5:=G4.cell (b:=w2.heap.size) (o:=0) (v:=.int .i64 tk) nf3b (by go_simp)
  have y4_6:=G4.cell (b:=w2.heap.size) (o:=1) (v:=.int .i64 tn) nf3b (by go_simp)
  have GC:=Lib.hid ((GB.out.trans (Gr.of_below (by exact Rd.byB))).trans G4)
  replace S4:=Lib.hid S4
  clear A G4
  go_wp2_with fail
  refine Drawn.bk hK (hS:=by (try dsimp only);exact ⟨y4_0,y4_1,y4_2,y4_3,y4_4,y4_5,y4_6⟩) (h:=fun hHeld=>?_)
  clear hK K
  refine wpAnyH_done (by kernel_rfl) ?_ _
  go_wp2_with fail
  go_end0
  exact plr_go GC.out S4.out
 | thrown o h2 =>
  obtain ⟨rfl,A⟩:=hR
  obtain ⟨L4,G4,S4⟩:=Gr.of_heap A (S3.out.below (by exact Rd.byB))
  unfold pan
  refine And.intro rfl ?_
  exact plr_thrown ((GB.out.trans (Gr.of_below (by exact Rd.byB))).trans G4) S4
 | stop c2 h2 =>
  obtain ⟨rfl,A⟩:=hR
  obtain ⟨L4,G4,S4⟩:=Gr.of_heap A (S3.out.below (by exact Rd.byB))
  unfold pan
  refine And.intro rfl ?_
  exact plr_stop ((GB.out.trans (Gr.of_below (by exact Rd.byB))).trans G4) S4
set_option maxRecDepth 100000 in
theorem pl24n (S:ST E w L P m d h fr vs) (hbig:fr.stk.length≤1000) (a b c n:Int) (args:List Int) (aa:Option Addr) (an acap:Nat) (hn:fr.stk=[]) :
  Calls Tryz.prog 110 #[.pointer (some ⟨P.cb,0,none⟩),.agg #[.int .i64 24,.int .i64 a,.int .i64 b,.int .i64 c,.int .i64 n,.slice aa an acap]] w (PlR E L P m d vs fr (.tuple #[]) w (oA (sstep E.f E.input m ⟨24,a,b,c,n,args⟩ fr h))):=by
 rw [st24n hn]
 have HS:=Lib.hid S
 have hcb:=S.cbw
 have hcb1:P.cb < w.heap.size+1:=by omega
 have nf:=S.fo_new (Nat.le_refl _)
 have c0:=S.c0
 clear S
 go_enter Tryz.func110,Tryz.ntmps110
 go_wp2_with fail
 refine Drawn.hd (fun w'=>w'.cell? ⟨P.cb,0,none⟩=some (.pointer (some ⟨E.hb,0,none⟩))∧w'.cell? ⟨w.heap.size,1,none⟩=some (.int .i64 a)) (h:=fun hHeld=>?_)
 refine Drawn.T 0 (some 189) (h:=?_)
 refine Drawn.T 1 (some 190) (h:=?_)
 refine Drawn.T 2 (some 191) (h:=?_)
 refine Drawn.T 3 (some 192) (h:=?_)
 refine Drawn.T 4 (some 193) (h:=?_)
 refine Drawn.T 6 (some 195) (h:=?_)
 refine Drawn.T 7 (some 196) (h:=?_)
 refine Drawn.cl 5 (fun K hK=>?_)
 go_simp
 go_at_call 105
 refine (anyNo (HS.out.below (by exact Rd.byB)) hn).mono ?_
 rintro e w2 ⟨rfl,hb⟩
 have HB2:Below w.heap.size w w2:=Below.trans (by exact Rd.byB) (hb.mono Rd.byL)
 unfold pan
 refine And.intro rfl ?_
 exact plr_stuck (Gr.of_below HB2) (HS.out.below HB2)
set_option maxRecDepth 100000 in
theorem pl24o (S:ST E w L P m d h fr vs) (hbig:fr.stk.length≤1000) (a b c n:Int) (args:List Int) (aa:Option Addr) (an acap:Nat) (hn:fr.stk≠[]) (hlen:h.out.length≤60000) :
  Calls Tryz.prog 110 #[.pointer (some ⟨P.cb,0,none⟩),.agg #[.int .i64 24,.int .i64 a,.int .i64 b,.int .i64 c,.int .i64 n,.slice aa an acap]] w (PlR E L P m d vs fr (.tuple #[]) w (oA (sstep E.f E.input m ⟨24,a,b,c,n,args⟩ fr h))):=by
 rw [st24 hn]
 have HS:=Lib.hid S
 have hcb:=S.cbw
 have hcb1:P.cb < w.heap.size+1:=by omega
 have nf:=S.fo_new (Nat.le_refl _)
 have c0:=S.c0
 obtain ⟨⟨tk,tn⟩,ht⟩:∃ t,Hid (top fr.stk=t):=⟨_,Lib.hid rfl⟩
 rw [ht.out]
 obtain ⟨r,hr⟩:∃ r,Hid (Run.emit ⟨tk,tn⟩ a h=r):=⟨_,Lib.hid rfl⟩
 rw [hr.out]
 clear S
 go_enter Tryz.func110,Tryz.ntmps110
 go_wp2_with fail
 refine Drawn.hd (fun w'=>w'.cell? ⟨P.cb,0,none⟩=some (.pointer (some ⟨E.hb,0,none⟩))∧w'.cell? ⟨w.heap.size,1,none⟩=some (.int .i64 a)) (h:=fun hHeld=>?_)
 refine Drawn.T 0 (some 189) (h:=?_)
 refine Drawn.T 1 (some 190) (h:=?_)
 refine Drawn.T 2 (some 191) (h:=?_)
 refine Drawn.T 3 (some 192) (h:=?_)
 refine Drawn.T 4 (some 193) (h:=?_)
 refine Drawn.T 6 (some 195) (h:=?_)
 refine Drawn.T 7 (some 196) (h:=?_)
 refine Drawn.cl 5 (fun K hK=>?_)
 go_simp
 go_at_call 105
 refine (anyOk (HS.out.below (by exact Rd.byB)) hn hbig).mono ?_
 rw [ht.out]
 unfold vl
 rintro e w2 ⟨rfl,A⟩
 obtain ⟨L2,v2,G2,S2⟩:=A.opn
 have y2_0:w2.cell? ⟨P.cb,0,none⟩=some (.pointer (some ⟨E.hb,0,none⟩)):=S2.c0
 have y2_1:=G2.cell (b:=w.heap.size) (o:=1) (v:=.int .i64 a) nf (by go_simp)
 have nf2:=G2.nf (by simp) nf
 have GA:=Lib.hid ((Gr.of_below (E:=E) (L:=L) (P:=P) (vs:=vs) (w:=w) (by exact Rd.byB)).trans G2)
 replace S2:=Lib.hid S2
 clear A G2
 go_wp2_with fail
 refine Drawn.bk hK (hS:=by (try dsimp only);exact ⟨y2_0,y2_1⟩) (h:=fun hHeld=>?_)
 clear hK K
 refine Drawn.cl 8 (fun K hK=>?_)
 go_simp
 go_at_call 168
 refine (emitP S2.out.H ⟨tk,tn⟩ a hlen).mono ?_
 rw [hr.out]
 rintro e w3 hR
 cases r with
 | ok x h2 =>
  obtain ⟨rfl,A⟩:=hR
  obtain ⟨L3,G3,S3⟩:=Gr.of_heap A S2.out
  have y3_0:w3.cell? ⟨P.cb,0,none⟩=some (.pointer (some ⟨E.hb,0,none⟩)):=S3.c0
  have y3_1:=G3.cell (b:=w.heap.size) (o:=1) (v:=.int .i64 a) nf2 (by go_simp)
  have GB:=Lib.hid (GA.out.trans G3)
  replace S3:=Lib.hid S3
  clear A G3
  go_wp2_with fail
  refine Drawn.bk hK (hS:=by (try dsimp only);exact ⟨y3_0,y3_1⟩) (h:=fun hHeld=>?_)
  clear hK K
  refine wpAnyH_done (by kernel_rfl) ?_ _
  go_wp2_with fail
  go_end0
  exact plr_go GB.out S3.out
 | thrown o h2 =>
  obtain ⟨rfl,A⟩:=hR
  obtain ⟨L3,G3,S3⟩:=Gr.of_heap A S2.out
  unfold pan
  refine And.intro rfl ?_
  exact plr_thrown (GA.out.trans G3) S3
 | stop c2 h2 =>
  obtain ⟨rfl,A⟩:=hR
  obtain ⟨L3,G3,S3⟩:=Gr.of_heap A S2.out
  unfold pan
  refine And.intro rfl ?_
  exact plr_stop (GA.out.trans G3) S3
set_option maxRecDepth 100000 in
theorem pl23n (S:ST E w L P m d h fr vs) (hbig:fr.stk.length≤1000) (a b c n:Int) (args:List Int) (aa:Option Addr) (an acap:Nat) (hn:fr.stk=[]) :
  Calls Tryz.prog 110 #[.pointer (some ⟨P.cb,0,none⟩),.agg #[.int .i64 23,.int .i64 a,.int .i64 b,.int .i64 c,.int .i64 n,.slice aa an acap]] w (PlR E L P m d vs fr (.tuple #[]) w (oA (sstep E.f E.input m ⟨23,a,b,c,n,args⟩ fr h))):=by
 rw [st23n hn]
 have HS:=Lib.hid S
 have hcb:=S.cbw
 have hcb1:P.cb < w.heap.size+1:=by omega
 have nf:=S.fo_new (Nat.le_refl _)
 clear S
 go_enter Tryz.func110,Tryz.ntmps110
 go_wp2_with (go_at_call 105;refine (anyNo (HS.out.below (by exact Rd.byB)) hn).mono ?_;rintro e w2 ⟨rfl,hb2⟩;have HB2:=Lib.hid (show Below w.heap.size w w2 from Below.trans (by exact Rd.byB) (hb2.mono Rd.byL));clear hb2;unfold pan)
 refine And.intro rfl ?_
 exact plr_stuck (Gr.of_below HB2.out) (HS.out.below HB2.out)
set_option maxRecDepth 100000 in
theorem pl23o (S:ST E w L P m d h fr vs) (hbig:fr.stk.length≤1000) (a b c n:Int) (args:List Int) (aa:Option Addr) (an acap:Nat) (hn:fr.stk≠[]) :
  Calls Tryz.prog 110 #[.pointer (some ⟨P.cb,0,none⟩),.agg #[.int .i64 23,.int .i64 a,.int .i64 b,.int .i64 c,.int .i64 n,.slice aa an acap]] w (PlR E L P m d vs fr (.tuple #[]) w (oA (sstep E.f E.input m ⟨23,a,b,c,n,args⟩ fr h))):=by
 rw [st23 hn]
 have HS:=Lib.hid S
 have hcb:=S.cbw
 have hcb1:P.cb < w.heap.size+1:=by omega
 have nf:=S.fo_new (Nat.le_refl _)
 obtain ⟨⟨tk,tn⟩,ht⟩:∃ t,Hid (top fr.stk=t):=⟨_,Lib.hid rfl⟩
 rw [ht.out]
 obtain ⟨act,hact⟩:∃ act,Hid (oA (if (size (fr.stk.dropLast++[(⟨tk,tn⟩:Vl),⟨tk,tn⟩]):Int)≤m.stack then .go (on fr (fr.stk.dropLast++[(⟨tk,tn⟩:Vl),⟨tk,tn⟩]) (fr.at_+1)) h else .stop 6 h)=act):=⟨_,Lib.hid rfl⟩
 rw [hact.out]
 have hs2:=Lib.hid (size_app (fr.stk.dropLast++[(⟨tk,tn⟩:Vl)]) [⟨tk,tn⟩])
 have happ:Hid (fr.stk.dropLast++[(⟨tk,tn⟩:Vl)]++[⟨tk,tn⟩]=fr.stk.dropLast++[⟨tk,tn⟩,⟨tk,tn⟩]):=by show _=_;simp
 clear S
 go_enter Tryz.func110,Tryz.ntmps110
 go_wp2_with (go_at_call 105;refine (anyOk (HS.out.below (by exact Rd.byB)) hn hbig).mono ?_;rw [ht.out];unfold vl;rintro e w2 ⟨rfl,A⟩;obtain ⟨L2,v2,G2,S2⟩:=A.opn;have nf2:=G2.nf (by simp) nf;have nfb:=S2.fo_new (Nat.le_refl _);have hcb2:=S2.cbw;have GA:=Lib.hid ((Gr.of_below (E:=E) (L:=L) (P:=P) (vs:=vs) (w:=w) (by exact Rd.byB)).trans G2);replace S2:=Lib.hid S2;have hwl:w.heap.size < w2.heap.size:=(by have:=G2.kp.size;simp at this;omega);clear A G2)
 refine (put (S2.out.below (by exact Rd.byB)) ⟨tk,tn⟩ (by simp only [List.length_dropLast];omega)).mono ?_
 rintro e w3 (⟨q,rfl,A⟩ | ⟨q,rfl,A⟩)
 ·obtain ⟨L3,v3,G3,S3⟩:=A.opn
  have y3_0:=G3.cell (b:=w2.heap.size) (o:=0) (v:=.int .i64 tk) nfb (by go_simp)
  have y3_1:=G3.cell (b:=w2.heap.size) (o:=1) (v:=.int .i64 tn) nfb (by go_simp)
  have GB:=Lib.hid ((GA.out.trans (Gr.of_below (by exact Rd.byB))).trans G3)
  replace S3:=Lib.hid S3
  clear A G3
  go_wp2_with fail
  refine (put S3.out ⟨tk,tn⟩ (by simp only [List.length_append,List.length_cons,List.length_nil,List.length_dropLast];omega)).mono ?_
  rintro e w9 (⟨q9,rfl,A⟩ | ⟨q9,rfl,A⟩)
  ·go_wp2_with fail
   go_end0
   have q8:(size (fr.stk.dropLast++[(⟨tk,tn⟩:Vl),⟨tk,tn⟩]):Int)≤m.stack:=by rw [← happ.out];exact q9
   rw [← hact.out,if_pos q8]
   simp only [happ.out] at A
   exact ⟨rfl,GB.out.comp A⟩
  ·unfold pan
   refine And.intro rfl ?_
   have q8:¬ (size (fr.stk.dropLast++[(⟨tk,tn⟩:Vl),⟨tk,tn⟩]):Int)≤m.stack:=by rw [← happ.out];exact q9
   rw [← hact.out,if_neg q8]
   exact ⟨Pan.one _,GB.out.compS A⟩
 ·unfold pan
  refine And.intro rfl ?_
  have h2:=hs2.out
  rw [happ.out] at h2
  have q7:¬ (size (fr.stk.dropLast++[(⟨tk,tn⟩:Vl)]):Int)≤m.stack:=q
  rw [← hact.out,if_neg (by omega)]
  exact ⟨Pan.one _,(GA.out.trans (Gr.of_below (by exact Rd.byB))).compS A⟩
set_option maxRecDepth 100000 in
theorem pl10n (S:ST E w L P m d h fr vs) (hbig:fr.stk.length≤1000) (a b c n:Int) (args:List Int) (aa:Option Addr) (an acap:Nat) (hn:fr.stk=[]) :
  Calls Tryz.prog 110 #[.pointer (some ⟨P.cb,0,none⟩),.agg #[.int .i64 10,.int .i64 a,.int .i64 b,.int .i64 c,.int .i64 n,.slice aa an acap]] w (PlR E L P m d vs fr (.tuple #[]) w (oA (sstep E.f E.input m ⟨10,a,b,c,n,args⟩ fr h))):=by
 rw [st10n (.inl hn)]
 have HS:=Lib.hid S
 have hcb:=S.cbw
 have hcb1:P.cb < w.heap.size+1:=by omega
 have nf:=S.fo_new (Nat.le_refl _)
 clear S
 go_enter Tryz.func110,Tryz.ntmps110
 go_wp2_with (go_at_call 107;refine (takeNo (HS.out.below (by exact Rd.byB)) hn _).mono ?_;rintro e w2 ⟨rfl,hb2⟩;have HB2:=Lib.hid (show Below w.heap.size w w2 from Below.trans (by exact Rd.byB) (hb2.mono Rd.byL));clear hb2;unfold pan)
 refine And.intro rfl ?_
 exact plr_stuck (Gr.of_below HB2.out) (HS.out.below HB2.out)
set_option maxRecDepth 100000 in
theorem pl10b (S:ST E w L P m d h fr vs) (hbig:fr.stk.length≤1000) (a b c n:Int) (args:List Int) (aa:Option Addr) (an acap:Nat) (hn:fr.stk≠[]) (hk:(top fr.stk).kind≠2) :
  Calls Tryz.prog 110 #[.pointer (some ⟨P.cb,0,none⟩),.agg #[.int .i64 10,.int .i64 a,.int .i64 b,.int .i64 c,.int .i64 n,.slice aa an acap]] w (PlR E L P m d vs fr (.tuple #[]) w (oA (sstep E.f E.input m ⟨10,a,b,c,n,args⟩ fr h))):=by
 have e10:sstep E.f E.input m ⟨10,a,b,c,n,args⟩ fr h=.stop 6 h:=by
  by_cases q:fr.stk.dropLast=[]
  ·rw [st10n (.inr q)]
  ·rw [st10 hn q];unfold kindly;rw [if_neg hk]
 rw [e10]
 have HS:=Lib.hid S
 have hcb:=S.cbw
 have hcb1:P.cb < w.heap.size+1:=by omega
 have nf:=S.fo_new (Nat.le_refl _)
 clear S
 go_enter Tryz.func110,Tryz.ntmps110
 go_wp2_with (go_at_call 107;refine (takeBad (HS.out.below (by exact Rd.byB)) hn hbig _ hk).mono ?_;rintro e w2 ⟨rfl,A⟩;obtain ⟨L2,v2,G2,S2⟩:=(LftF.before (w:=w) (by exact Rd.byB) A).opn;unfold pan)
 refine And.intro rfl ?_
 exact plr_stuck G2 S2
set_option maxRecDepth 100000 in
theorem pl10m (S:ST E w L P m d h fr vs) (hbig:fr.stk.length≤1000) (a b c n:Int) (args:List Int) (aa:Option Addr) (an acap:Nat) (hn:fr.stk≠[]) (hk:(top fr.stk).kind=2) (hn2:fr.stk.dropLast=[]) :
  Calls Tryz.prog 110 #[.pointer (some ⟨P.cb,0,none⟩),.agg #[.int .i64 10,.int .i64 a,.int .i64 b,.int .i64 c,.int .i64 n,.slice aa an acap]] w (PlR E L P m d vs fr (.tuple #[]) w (oA (sstep E.f E.input m ⟨10,a,b,c,n,args⟩ fr h))):=by
 rw [st10n (.inr hn2)]
 have HS:=Lib.hid S
 have hcb:=S.cbw
 have hcb1:P.cb < w.heap.size+1:=by omega
 have nf:=S.fo_new (Nat.le_refl _)
 obtain ⟨⟨tk,tn⟩,ht⟩:∃ t,Hid (top fr.stk=t):=⟨_,Lib.hid rfl⟩
 rw [ht.out] at hk
 simp only at hk
 subst hk
 clear S
 go_enter Tryz.func110,Tryz.ntmps110
 go_wp2_with fail
 refine (takeOk (HS.out.below (by exact Rd.byB)) hn hbig _ (by rw [ht.out])).mono ?_
 rw [ht.out]
 unfold vl
 rintro e w2 ⟨rfl,A⟩
 obtain ⟨L2,v2,G2,S2⟩:=A.opn
 have nf2:=G2.nf (by simp) nf;have nfb:=S2.fo_new (Nat.le_refl _);have hcb2:=S2.cbw;have GA:=Lib.hid ((Gr.of_below (E:=E) (L:=L) (P:=P) (vs:=vs) (w:=w) (by exact Rd.byB)).trans G2);replace S2:=Lib.hid S2;have hwl:w.heap.size < w2.heap.size:=(by have:=G2.kp.size;simp at this;omega);clear A G2
 go_wp2_with fail
 refine (takeNo (S2.out.below (by exact Rd.byB)) hn2 _).mono ?_
 rintro e w3 ⟨rfl,hb⟩
 have HB3:Below w2.heap.size w2 w3:=Below.trans (by exact Rd.byB) (hb.mono Rd.byL)
 unfold pan
 refine And.intro rfl ?_
 exact plr_stuck (GA.out.trans (Gr.of_below HB3)) (S2.out.below HB3)
set_option maxRecDepth 100000 in
theorem pl10c (S:ST E w L P m d h fr vs) (hbig:fr.stk.length≤1000) (a b c n:Int) (args:List Int) (aa:Option Addr) (an acap:Nat) (hn:fr.stk≠[]) (hk:(top fr.stk).kind=2) (hn2:fr.stk.dropLast≠[]) (hk2:(top fr.stk.dropLast).kind≠2) :
  Calls Tryz.prog 110 #[.pointer (some ⟨P.cb,0,none⟩),.agg #[.int .i64 10,.int .i64 a,.int .i64 b,.int .i64 c,.int .i64 n,.slice aa an acap]] w (PlR E L P m d vs fr (.tuple #[]) w (oA (sstep E.f E.input m ⟨10,a,b,c,n,args⟩ fr h))):=by
 rw [st10 hn hn2]
 unfold kindly
 rw [if_pos hk,if_neg hk2]
 have HS:=Lib.hid S
 have hcb:=S.cbw
 have hcb1:P.cb < w.heap.size+1:=by omega
 have nf:=S.fo_new (Nat.le_refl _)
 obtain ⟨⟨tk,tn⟩,ht⟩:∃ t,Hid (top fr.stk=t):=⟨_,Lib.hid rfl⟩
 rw [ht.out] at hk
 simp only at hk
 subst hk
 clear S
 go_enter Tryz.func110,Tryz.ntmps110
 go_wp2_with fail
 refine (takeOk (HS.out.below (by exact Rd.byB)) hn hbig _ (by rw [ht.out])).mono ?_
 rw [ht.out]
 unfold vl
 rintro e w2 ⟨rfl,A⟩
 obtain ⟨L2,v2,G2,S2⟩:=A.opn
 have nf2:=G2.nf (by simp) nf;have nfb:=S2.fo_new (Nat.le_refl _);have hcb2:=S2.cbw;have GA:=Lib.hid ((Gr.of_below (E:=E) (L:=L) (P:=P) (vs:=vs) (w:=w) (by exact Rd.byB)).trans G2);replace S2:=Lib.hid S2;have hwl:w.heap.size < w2.heap.size:=(by have:=G2.kp.size;simp at this;omega);clear A G2
 go_wp2_with fail
 refine (takeBad (S2.out.below (by exact Rd.byB)) hn2 (by simp only [List.length_dropLast];omega) _ hk2).mono ?_
 rintro e w3 ⟨rfl,A⟩
 obtain ⟨L3,v3,G3,S3⟩:=(LftF.before (w:=w2) (by exact Rd.byB) A).opn
 unfold pan
 refine And.intro rfl ?_
 exact plr_stuck (GA.out.trans G3) S3
set_option maxRecDepth 100000 in
theorem pl10o (S:ST E w L P m d h fr vs) (hbig:fr.stk.length≤1000) (a b c n:Int) (args:List Int) (aa:Option Addr) (an acap:Nat) (hn:fr.stk≠[]) (hk:(top fr.stk).kind=2) (hn2:fr.stk.dropLast≠[]) (hk2:(top fr.stk.dropLast).kind=2) :
  Calls Tryz.prog 110 #[.pointer (some ⟨P.cb,0,none⟩),.agg #[.int .i64 10,.int .i64 a,.int .i64 b,.int .i64 c,.int .i64 n,.slice aa an acap]] w (PlR E L P m d vs fr (.tuple #[]) w (oA (sstep E.f E.input m ⟨10,a,b,c,n,args⟩ fr h))):=by
 rw [st10 hn hn2]
 unfold kindly
 rw [if_pos hk,if_pos hk2]
 have HS:=Lib.hid S
 have hcb:=S.cbw
 have hcb1:P.cb < w.heap.size+1:=by omega
 have nf:=S.fo_new (Nat.le_refl _)
 obtain ⟨⟨tk,tn⟩,ht⟩:∃ t,Hid (top fr.stk=t):=⟨_,Lib.hid rfl⟩
 obtain ⟨⟨uk,un⟩,hu⟩:∃ t,Hid (top fr.stk.dropLast=t):=⟨_,Lib.hid rfl⟩
 rw [ht.out] at hk
 rw [ht.out]
 rw [hu.out] at hk2
 rw [hu.out]
 simp only at hk hk2 ⊢
 subst hk hk2
 clear S
 go_enter Tryz.func110,Tryz.ntmps110
 go_wp2_with fail
 refine (takeOk (HS.out.below (by exact Rd.byB)) hn hbig _ (by rw [ht.out])).mono ?_
 rw [ht.out]
 unfold vl
 rintro e w2 ⟨rfl,A⟩
 obtain ⟨L2,v2,G2,S2⟩:=A.opn
 have nf2:=G2.nf (by simp) nf;have nfb:=S2.fo_new (Nat.le_refl _);have hcb2:=S2.cbw;have GA:=Lib.hid ((Gr.of_below (E:=E) (L:=L) (P:=P) (vs:=vs) (w:=w) (by exact Rd.byB)).trans G2);replace S2:=Lib.hid S2;have hwl:w.heap.size < w2.heap.size:=(by have:=G2.kp.size;simp at this;omega);clear A G2
 go_wp2_with fail
 refine (takeOk (S2.out.below (by exact Rd.byB)) hn2 (by simp only [List.length_dropLast];omega) _ (by rw [hu.out])).mono ?_
 rw [hu.out]
 unfold vl
 rintro e w3 ⟨rfl,A⟩
 obtain ⟨L3,v3,G3,S3⟩:=A.opn
 have y3_0:=G3.cell (b:=w2.heap.size) (o:=1) (v:=.int .i64 tn) nfb (by go_simp)
 have GB:=Lib.hid ((GA.out.trans (Gr.of_below (by exact Rd.byB))).trans G3)
 have hwl3:w2.heap.size < w3.heap.size:=by have:=G3.kp.size;simp at this;omega
 replace S3:=Lib.hid S3
 clear A G3
 go_wp2_with (first | (go_at_call 162;refine (NumW.cmp _ _ _).mono ?_;rintro e w4 ⟨rfl,rfl⟩) | (go_at_call 156;refine (valueP _ _ _).mono ?_;rintro e w5 ⟨rfl,hb5⟩;have HB5:=Lib.hid (show Below w3.heap.size w3 w5 from Below.trans (by exact Rd.byB) (hb5.mono Rd.byL));clear hb5))
 refine (put (S3.out.below HB5.out) ⟨1,Num.cmp un tn⟩ (by first | omega | (simp only [List.length_dropLast];omega))).mono ?_
 rintro e w9 (⟨q,rfl,A⟩ | ⟨q,rfl,A⟩)
 ·go_wp2_with fail
  go_end0
  exact plr_yes q A (GB.out.trans (Gr.of_below HB5.out))
 ·unfold pan
  refine And.intro rfl ?_
  exact plr_no q A (GB.out.trans (Gr.of_below HB5.out))
end
end Hpw
namespace Hpw
open Num Rd D Run Mem HierW
section
variable {E:Ev}{w w' w1 w2:World}{L L' L1:Lay}{h h' h1 h2:Hp}{d:Nat}{P:PS}{m:Me}{fr fr' fr1:Sf}{vs vs1:Value}
theorem PlR.before {U:Value}{a:Out Sf}{e:Ending}(hb:Below w.heap.size w w1) (R:PlR E L P m d vs fr U w1 a e w2):PlR E L P m d vs fr U w a e w2:=by
 cases a with
 | go fr' h=>exact ⟨R.1,R.2.before hb⟩
 | back v h=>exact R
 | thrown o h=>obtain ⟨p,st,A⟩:=R;exact ⟨p,st,A.before hb⟩
 | stop c h=>exact ⟨R.1,(Gr.of_below hb).compS R.2⟩
theorem PlR.ends {U:Value}{a:Out Sf}{e:Ending}(R:PlR E L P m d vs fr U w1 a e w2):e=.returned U∨∃ v older,(∀ x∈older,x.goexit=false)∧e=.panicked ({ v:=v,recovered:=false } :: older):=by
 cases a with
 | go fr' h=>exact .inl R.1
 | back v h=>exact R.elim
 | thrown o h=>obtain ⟨⟨older,ho,e⟩,_⟩:=R;exact .inr ⟨_,older,ho,e⟩
 | stop c h=>obtain ⟨⟨older,ho,e⟩,_⟩:=R;exact .inr ⟨_,older,ho,e⟩
set_option maxRecDepth 100000 in
theorem twoIN (S:ST E w L P m d h fr vs) (hbig:fr.stk.length≤1000) (op a b c n:Int) (aa:Option Addr) (an acap:Nat) (hn:fr.stk=[]) :
  Calls Tryz.prog 158 #[.pointer (some ⟨P.cb,0,none⟩),.agg #[.int .i64 op,.int .i64 a,.int .i64 b,.int .i64 c,.int .i64 n,.slice aa an acap],.int .i64 1,.func (.func 159) #[] #[]] w (PlR E L P m d vs fr (.tuple #[]) w (.stop 6 h)):=by
 have HS:=Lib.hid S
 have hcb:=S.cbw
 have hcb1:P.cb < w.heap.size+1:=by omega
 have nf:=S.fo_new (Nat.le_refl _)
 have c0:=S.c0
 clear S
 go_enter Tryz.func158,Tryz.ntmps158
 go_wp2_with fail
 refine (anyNo (HS.out.below (by exact Rd.byB)) hn).mono ?_
 rintro e w2 ⟨rfl,hb⟩
 have HB2:Below w.heap.size w w2:=Below.trans (by exact Rd.byB) (hb.mono Rd.byL)
 unfold pan
 refine And.intro rfl ?_
 exact plr_stuck (Gr.of_below HB2) (HS.out.below HB2)
set_option maxRecDepth 100000 in
theorem twoIM (S:ST E w L P m d h fr vs) (hbig:fr.stk.length≤1000) (op a b c n:Int) (aa:Option Addr) (an acap:Nat) (hn:fr.stk≠[]) (hn2:fr.stk.dropLast=[]) :
  Calls Tryz.prog 158 #[.pointer (some ⟨P.cb,0,none⟩),.agg #[.int .i64 op,.int .i64 a,.int .i64 b,.int .i64 c,.int .i64 n,.slice aa an acap],.int .i64 1,.func (.func 159) #[] #[]] w (PlR E L P m d vs fr (.tuple #[]) w (.stop 6 h)):=by
 have HS:=Lib.hid S
 have hcb:=S.cbw
 have hcb1:P.cb < w.heap.size+1:=by omega
 have nf:=S.fo_new (Nat.le_refl _)
 have c0:=S.c0
 obtain ⟨⟨tk,tn⟩,ht⟩:∃ t,Hid (top fr.stk=t):=⟨_,Lib.hid rfl⟩
 clear S
 go_enter Tryz.func158,Tryz.ntmps158
 go_wp2_with fail
 refine (anyOk (HS.out.below (by exact Rd.byB)) hn hbig).mono ?_
 rw [ht.out]
 unfold vl
 rintro e w2 ⟨rfl,A⟩
 obtain ⟨L2,v2,G2,S2⟩:=A.opn
 have y2_0:w2.cell? ⟨P.cb,0,none⟩=some (.pointer (some ⟨E.hb,0,none⟩)):=S2.c0
 have y2_1:=G2.cell (b:=w.heap.size) (o:=1) (v:=.int .i64 a) nf (by go_simp)
 have nf2:=G2.nf (by simp) nf;have nfb:=S2.fo_new (Nat.le_refl _);have hcb2:=S2.cbw;have GA:=Lib.hid ((Gr.of_below (E:=E) (L:=L) (P:=P) (vs:=vs) (w:=w) (by exact Rd.byB)).trans G2);replace S2:=Lib.hid S2;have hwl:w.heap.size < w2.heap.size:=(by have:=G2.kp.size;simp at this;omega);clear A G2
 go_wp2_with fail
 refine (anyNo (S2.out.below (by exact Rd.byB)) hn2).mono ?_
 rintro e w3 ⟨rfl,hb⟩
 have HB3:Below w2.heap.size w2 w3:=Below.trans (by exact Rd.byB) (hb.mono Rd.byL)
 unfold pan
 refine And.intro rfl ?_
 exact plr_stuck (GA.out.trans (Gr.of_below HB3)) (S2.out.below HB3)
set_option maxRecDepth 100000 in
theorem twoIO (S:ST E w L P m d h fr vs) (hbig:fr.stk.length≤1000) (op a b c n:Int) (aa:Option Addr) (an acap:Nat) (hn:fr.stk≠[]) (hn2:fr.stk.dropLast≠[]) (hm:Hier.may E.f.classes=true) (hok:Ok (top fr.stk.dropLast).n) :
  Calls Tryz.prog 158 #[.pointer (some ⟨P.cb,0,none⟩),.agg #[.int .i64 op,.int .i64 a,.int .i64 b,.int .i64 c,.int .i64 n,.slice aa an acap],.int .i64 1,.func (.func 159) #[] #[]] w (PlR E L P m d vs fr (.tuple #[]) w (oA ((reckon E.f.classes (top fr.stk.dropLast) (top fr.stk) 1 a h).act fun v h=>push m fr fr.stk.dropLast.dropLast v h))):=by
 have HS:=Lib.hid S
 have hcb:=S.cbw
 have hcb1:P.cb < w.heap.size+1:=by omega
 have nf:=S.fo_new (Nat.le_refl _)
 have c0:=S.c0
 obtain ⟨⟨tk,tn⟩,ht⟩:∃ t,Hid (top fr.stk=t):=⟨_,Lib.hid rfl⟩
 obtain ⟨⟨uk,un⟩,hu⟩:∃ t,Hid (top fr.stk.dropLast=t):=⟨_,Lib.hid rfl⟩
 rw [hu.out] at hok ⊢
 rw [ht.out]
 obtain ⟨r,hr⟩:∃ r,Hid (Run.reckon E.f.classes ⟨uk,un⟩ ⟨tk,tn⟩ 1 a h=r):=⟨_,Lib.hid rfl⟩
 rw [hr.out]
 have HOK:=Lib.hid hok
 clear hok
 clear S
 go_enter Tryz.func158,Tryz.ntmps158
 go_wp2_with fail
 refine (anyOk (HS.out.below (by exact Rd.byB)) hn hbig).mono ?_
 rw [ht.out]
 unfold vl
 rintro e w2 ⟨rfl,A⟩
 obtain ⟨L2,v2,G2,S2⟩:=A.opn
 have y2_0:w2.cell? ⟨P.cb,0,none⟩=some (.pointer (some ⟨E.hb,0,none⟩)):=S2.c0
 have y2_1:=G2.cell (b:=w.heap.size) (o:=1) (v:=.int .i64 a) nf (by go_simp)
 have nf2:=G2.nf (by simp) nf;have nfb:=S2.fo_new (Nat.le_refl _);have hcb2:=S2.cbw;have GA:=Lib.hid ((Gr.of_below (E:=E) (L:=L) (P:=P) (vs:=vs) (w:=w) (by exact Rd.byB)).trans G2);replace S2:=Lib.hid S2;have hwl:w.heap.size < w2.heap.size:=(by have:=G2.kp.size;simp at this;omega);clear A G2
 go_wp2_with fail
 refine (anyOk (S2.out.below (by exact Rd.byB)) hn2 (by simp only [List.length_dropLast];omega)).mono ?_
 rw [hu.out]
 unfold vl
 rintro e w3 ⟨rfl,A⟩
 obtain ⟨L3,v3,G3,S3⟩:=A.opn
 have y3_0:w3.cell? ⟨P.cb,0,none⟩=some (.pointer (some ⟨E.hb,0,none⟩)):=S3.c0
 have y3_1:=G3.cell (b:=w.heap.size) (o:=1) (v:=.int .i64 a) nf2 (by go_simp)
 have y3_2:=G3.cell (b:=w2.heap.size) (o:=0) (v:=.int .i64 tk) nfb (by go_simp)
 have y3_3:=G3.cell (b:=w2.heap.size) (o:=1) (v:=.int .i64 tn) nfb (by go_simp)
 have nf3:=G3.nf (by simp;omega) nf2
 have nf3b:=G3.nf (by simp) nfb
 have nf3c:=S3.fo_new (Nat.le_refl _)
 have GB:=Lib.hid ((GA.out.trans (Gr.of_below (by exact Rd.byB))).trans G3)
 have hcb3:=S3.cbw
 have hwl3:w2.heap.size < w3.heap.size:=by have:=G3.kp.size;simp at this;omega
 have hwl4:w.heap.size < w3.heap.size:=by omega
 replace S3:=Lib.hid S3
 clear A G3
 go_wp2_with fail
 refine Drawn.hd (fun w'=>w'.cell? ⟨P.cb,0,none⟩=some (.pointer (some ⟨E.hb,0,none⟩))∧w'.cell? ⟨w3.heap.size,0,none⟩=some (.int .i64 uk)∧w'.cell? ⟨w3.heap.size,1,none⟩=some (.int .i64 un)∧w'.cell? ⟨w2.heap.size,0,none⟩=some (.int .i64 tk)∧w'.cell? ⟨w2.heap.size,1,none⟩=some (.int .i64 tn)∧w'.cell? ⟨w.heap.size,1,none⟩=some (.int .i64 a)) (h:=fun hHeld=>?_)
 refine Drawn.T 0 (some 14) (h:=?_)
 refine Drawn.T 1 (some 15) (h:=?_)
 refine Drawn.T 2 (some 16) (h:=?_)
 refine Drawn.T 3 (some 17) (h:=?_)
 refine Drawn.T 4 (some 18) (h:=?_)
 refine Drawn.T 5 (some 19) (h:=?_)
 refine Drawn.T 6 (some 20) (h:=?_)
 refine Drawn.T 7 (some 21) (h:=?_)
 refine Drawn.T 8 (some 22) (h:=?_)
 refine Drawn.T 9 (some 23) (h:=?_)
 refine Drawn.T 10 (some 24) (h:=?_)
 refine Drawn.cl 11 (fun K hK=>?_)
 go_simp
 go_at_call 192
 refine (reckonI (S3.out.below (by exact Rd.byB)).H hm ⟨uk,un⟩ ⟨tk,tn⟩ a HOK.out).mono ?_
 rw [hr.out]
 rintro e w4 hR
 cases r with
 | ok x h2 =>
  obtain ⟨xk,xn⟩:=x
  obtain ⟨rfl,A⟩:=hR
  unfold vval
  obtain ⟨L4,G4,S4⟩:=Gr.of_heap A (S3.out.below (by exact Rd.byB))
  have y4_0:w4.cell? ⟨P.cb,0,none⟩=some (.pointer (some ⟨E.hb,0,none⟩)):=S4.c0
  have y4_1:=G4.cell (b:=w3.heap.size) (o:=0) (v:=.int .i64 uk) nf3c (by go_simp)
  have y4_2:=G4.cell (b:=w3.heap.size) (o:=1) (v:=.int .i64 un) nf3c (by go_simp)
  have y4_3:=G4.cell (b:=w2.heap.size) (o:=0) (v:=.int .i64 tk) nf3b (by go_simp)
  have y4_4:=G4.cell (b:=w2.heap.size) (o:=1) (v:=.int .i64 tn) nf3b (by go_simp)
  have y4_5:=G4.cell (b:=w.heap.size) (o:=1) (v:=.int .i64 a) nf3 (by go_simp)
  have nf4:=G4.nf (by simp;omega) nf3
  have nf4b:=G4.nf (by simp;omega) nf3b
  have nf4c:=G4.nf (by simp) nf3c
  have GC:=Lib.hid ((GB.out.trans (Gr.of_below (by exact Rd.byB))).trans G4)
  replace S4:=Lib.hid S4
  clear A G4
  go_wp2_with fail
  refine Drawn.bk hK (hS:=by (try dsimp only);exact ⟨y4_0,y4_1,y4_2,y4_3,y4_4,y4_5⟩) (h:=fun hHeld=>?_)
  clear hK K
  refine Drawn.cl 12 (fun K hK=>?_)
  go_simp
  refine (put S4.out ⟨xk,xn⟩ (by first | omega | (simp only [List.length_dropLast];omega))).mono ?_
  rintro e w9 (⟨q,rfl,A⟩ | ⟨q,rfl,A⟩)
  ·obtain ⟨L9,v9,G9,S9⟩:=A.opn
   have y9_0:w9.cell? ⟨P.cb,0,none⟩=some (.pointer (some ⟨E.hb,0,none⟩)):=S9.c0
   have y9_1:=G9.cell (b:=w3.heap.size) (o:=0) (v:=.int .i64 uk) nf4c (by go_simp)
   have y9_2:=G9.cell (b:=w3.heap.size) (o:=1) (v:=.int .i64 un) nf4c (by go_simp)
   have y9_3:=G9.cell (b:=w2.heap.size) (o:=0) (v:=.int .i64 tk) nf4b (by go_simp)
   have y9_4:=G9.cell (b:=w2.heap.size) (o:=1) (v:=.int .i64 tn) nf4b (by go_simp)
   have y9_5:=G9.cell (b:=w.heap.size) (o:=1) (v:=.int .i64 a) nf4 (by go_simp)
   go_wp2_with fail
   refine Drawn.bk hK (hS:=by (try dsimp only);exact ⟨y9_0,y9_1,y9_2,y9_3,y9_4,y9_5⟩) (h:=fun hHeld=>?_)
   clear hK K
   refine wpAnyH_done (by kernel_rfl) ?_ _
   go_wp2
   go_end0
   exact plr_yes q (G9.lft S9) GC.out
  ·unfold pan
   refine And.intro rfl ?_
   exact plr_no q A GC.out
 | thrown o h2 =>
  obtain ⟨rfl,A⟩:=hR
  obtain ⟨L4,G4,S4⟩:=Gr.of_heap A (S3.out.below (by exact Rd.byB))
  unfold pan
  refine And.intro rfl ?_
  exact plr_thrown ((GB.out.trans (Gr.of_below (by exact Rd.byB))).trans G4) S4
 | stop c2 h2 =>
  obtain ⟨rfl,A⟩:=hR
  obtain ⟨L4,G4,S4⟩:=Gr.of_heap A (S3.out.below (by exact Rd.byB))
  unfold pan
  refine And.intro rfl ?_
  exact plr_stop ((GB.out.trans (Gr.of_below (by exact Rd.byB))).trans G4) S4
set_option maxRecDepth 100000 in
theorem twoLN (S:ST E w L P m d h fr vs) (hbig:fr.stk.length≤1000) (op a b c n:Int) (aa:Option Addr) (an acap:Nat) (hn:fr.stk=[]) :
  Calls Tryz.prog 158 #[.pointer (some ⟨P.cb,0,none⟩),.agg #[.int .i64 op,.int .i64 a,.int .i64 b,.int .i64 c,.int .i64 n,.slice aa an acap],.int .i64 2,.func (.func 160) #[] #[]] w (PlR E L P m d vs fr (.tuple #[]) w (.stop 6 h)):=by
 have HS:=Lib.hid S
 have hcb:=S.cbw
 have hcb1:P.cb < w.heap.size+1:=by omega
 have nf:=S.fo_new (Nat.le_refl _)
 have c0:=S.c0
 clear S
 go_enter Tryz.func158,Tryz.ntmps158
 go_wp2_with fail
 refine (anyNo (HS.out.below (by exact Rd.byB)) hn).mono ?_
 rintro e w2 ⟨rfl,hb⟩
 have HB2:Below w.heap.size w w2:=Below.trans (by exact Rd.byB) (hb.mono Rd.byL)
 unfold pan
 refine And.intro rfl ?_
 exact plr_stuck (Gr.of_below HB2) (HS.out.below HB2)
set_option maxRecDepth 100000 in
theorem twoLM (S:ST E w L P m d h fr vs) (hbig:fr.stk.length≤1000) (op a b c n:Int) (aa:Option Addr) (an acap:Nat) (hn:fr.stk≠[]) (hn2:fr.stk.dropLast=[]) :
  Calls Tryz.prog 158 #[.pointer (some ⟨P.cb,0,none⟩),.agg #[.int .i64 op,.int .i64 a,.int .i64 b,.int .i64 c,.int .i64 n,.slice aa an acap],.int .i64 2,.func (.func 160) #[] #[]] w (PlR E L P m d vs fr (.tuple #[]) w (.stop 6 h)):=by
 have HS:=Lib.hid S
 have hcb:=S.cbw
 have hcb1:P.cb < w.heap.size+1:=by omega
 have nf:=S.fo_new (Nat.le_refl _)
 have c0:=S.c0
 obtain ⟨⟨tk,tn⟩,ht⟩:∃ t,Hid (top fr.stk=t):=⟨_,Lib.hid rfl⟩
 clear S
 go_enter Tryz.func158,Tryz.ntmps158
 go_wp2_with fail
 refine (anyOk (HS.out.below (by exact Rd.byB)) hn hbig).mono ?_
 rw [ht.out]
 unfold vl
 rintro e w2 ⟨rfl,A⟩
 obtain ⟨L2,v2,G2,S2⟩:=A.opn
 have y2_0:w2.cell? ⟨P.cb,0,none⟩=some (.pointer (some ⟨E.hb,0,none⟩)):=S2.c0
 have y2_1:=G2.cell (b:=w.heap.size) (o:=1) (v:=.int .i64 a) nf (by go_simp)
 have nf2:=G2.nf (by simp) nf;have nfb:=S2.fo_new (Nat.le_refl _);have hcb2:=S2.cbw;have GA:=Lib.hid ((Gr.of_below (E:=E) (L:=L) (P:=P) (vs:=vs) (w:=w) (by exact Rd.byB)).trans G2);replace S2:=Lib.hid S2;have hwl:w.heap.size < w2.heap.size:=(by have:=G2.kp.size;simp at this;omega);clear A G2
 go_wp2_with fail
 refine (anyNo (S2.out.below (by exact Rd.byB)) hn2).mono ?_
 rintro e w3 ⟨rfl,hb⟩
 have HB3:Below w2.heap.size w2 w3:=Below.trans (by exact Rd.byB) (hb.mono Rd.byL)
 unfold pan
 refine And.intro rfl ?_
 exact plr_stuck (GA.out.trans (Gr.of_below HB3)) (S2.out.below HB3)
set_option maxRecDepth 100000 in
theorem twoLO (S:ST E w L P m d h fr vs) (hbig:fr.stk.length≤1000) (op a b c n:Int) (aa:Option Addr) (an acap:Nat) (hn:fr.stk≠[]) (hn2:fr.stk.dropLast≠[]) (hm:Hier.may E.f.classes=true) (hok:Ok (top fr.stk.dropLast).n) :
  Calls Tryz.prog 158 #[.pointer (some ⟨P.cb,0,none⟩),.agg #[.int .i64 op,.int .i64 a,.int .i64 b,.int .i64 c,.int .i64 n,.slice aa an acap],.int .i64 2,.func (.func 160) #[] #[]] w (PlR E L P m d vs fr (.tuple #[]) w (oA ((reckon E.f.classes (top fr.stk.dropLast) (top fr.stk) 2 a h).act fun v h=>push m fr fr.stk.dropLast.dropLast v h))):=by
 have HS:=Lib.hid S
 have hcb:=S.cbw
 have hcb1:P.cb < w.heap.size+1:=by omega
 have nf:=S.fo_new (Nat.le_refl _)
 have c0:=S.c0
 obtain ⟨⟨tk,tn⟩,ht⟩:∃ t,Hid (top fr.stk=t):=⟨_,Lib.hid rfl⟩
 obtain ⟨⟨uk,un⟩,hu⟩:∃ t,Hid (top fr.stk.dropLast=t):=⟨_,Lib.hid rfl⟩
 rw [hu.out] at hok ⊢
 rw [ht.out]
 obtain ⟨r,hr⟩:∃ r,Hid (Run.reckon E.f.classes ⟨uk,un⟩ ⟨tk,tn⟩ 2 a h=r):=⟨_,Lib.hid rfl⟩
 rw [hr.out]
 have HOK:=Lib.hid hok
 clear hok
 clear S
 go_enter Tryz.func158,Tryz.ntmps158
 go_wp2_with fail
 refine (anyOk (HS.out.below (by exact Rd.byB)) hn hbig).mono ?_
 rw [ht.out]
 unfold vl
 rintro e w2 ⟨rfl,A⟩
 obtain ⟨L2,v2,G2,S2⟩:=A.opn
 have y2_0:w2.cell? ⟨P.cb,0,none⟩=some (.pointer (some ⟨E.hb,0,none⟩)):=S2.c0
 have y2_1:=G2.cell (b:=w.heap.size) (o:=1) (v:=.int .i64 a) nf (by go_simp)
 have nf2:=G2.nf (by simp) nf;have nfb:=S2.fo_new (Nat.le_refl _);have hcb2:=S2.cbw;have GA:=Lib.hid ((Gr.of_below (E:=E) (L:=L) (P:=P) (vs:=vs) (w:=w) (by exact Rd.byB)).trans G2);replace S2:=Lib.hid S2;have hwl:w.heap.size < w2.heap.size:=(by have:=G2.kp.size;simp at this;omega);clear A G2
 go_wp2_with fail
 refine (anyOk (S2.out.below (by exact Rd.byB)) hn2 (by simp only [List.length_dropLast];omega)).mono ?_
 rw [hu.out]
 unfold vl
 rintro e w3 ⟨rfl,A⟩
 obtain ⟨L3,v3,G3,S3⟩:=A.opn
 have y3_0:w3.cell? ⟨P.cb,0,none⟩=some (.pointer (some ⟨E.hb,0,none⟩)):=S3.c0
 have y3_1:=G3.cell (b:=w.heap.size) (o:=1) (v:=.int .i64 a) nf2 (by go_simp)
 have y3_2:=G3.cell (b:=w2.heap.size) (o:=0) (v:=.int .i64 tk) nfb (by go_simp)
 have y3_3:=G3.cell (b:=w2.heap.size) (o:=1) (v:=.int .i64 tn) nfb (by go_simp)
 have nf3:=G3.nf (by simp;omega) nf2
 have nf3b:=G3.nf (by simp) nfb
 have nf3c:=S3.fo_new (Nat.le_refl _)
 have GB:=Lib.hid ((GA.out.trans (Gr.of_below (by exact Rd.byB))).trans G3)
 have hcb3:=S3.cbw
 have hwl3:w2.heap.size < w3.heap.size:=by have:=G3.kp.size;simp at this;omega
 have hwl4:w.heap.size < w3.heap.size:=by omega
 replace S3:=Lib.hid S3
 clear A G3
 go_wp2_with fail
 refine Drawn.hd (fun w'=>w'.cell? ⟨P.cb,0,none⟩=some (.pointer (some ⟨E.hb,0,none⟩))∧w'.cell? ⟨w3.heap.size,0,none⟩=some (.int .i64 uk)∧w'.cell? ⟨w3.heap.size,1,none⟩=some (.int .i64 un)∧w'.cell? ⟨w2.heap.size,0,none⟩=some (.int .i64 tk)∧w'.cell? ⟨w2.heap.size,1,none⟩=some (.int .i64 tn)∧w'.cell? ⟨w.heap.size,1,none⟩=some (.int .i64 a)) (h:=fun hHeld=>?_)
 refine Drawn.T 0 (some 14) (h:=?_)
 refine Drawn.T 1 (some 15) (h:=?_)
 refine Drawn.T 2 (some 16) (h:=?_)
 refine Drawn.T 3 (some 17) (h:=?_)
 refine Drawn.T 4 (some 18) (h:=?_)
 refine Drawn.T 5 (some 19) (h:=?_)
 refine Drawn.T 6 (some 20) (h:=?_)
 refine Drawn.T 7 (some 21) (h:=?_)
 refine Drawn.T 8 (some 22) (h:=?_)
 refine Drawn.T 9 (some 23) (h:=?_)
 refine Drawn.T 10 (some 24) (h:=?_)
 refine Drawn.cl 11 (fun K hK=>?_)
 go_simp
 go_at_call 192
 refine (reckonL (S3.out.below (by exact Rd.byB)).H hm ⟨uk,un⟩ ⟨tk,tn⟩ a HOK.out).mono ?_
 rw [hr.out]
 rintro e w4 hR
 cases r with
 | ok x h2 =>
  obtain ⟨xk,xn⟩:=x
  obtain ⟨rfl,A⟩:=hR
  unfold vval
  obtain ⟨L4,G4,S4⟩:=Gr.of_heap A (S3.out.below (by exact Rd.byB))
  have y4_0:w4.cell? ⟨P.cb,0,none⟩=some (.pointer (some ⟨E.hb,0,none⟩)):=S4.c0
  have y4_1:=G4.cell (b:=w3.heap.size) (o:=0) (v:=.int .i64 uk) nf3c (by go_simp)
  have y4_2:=G4.cell (b:=w3.heap.size) (o:=1) (v:=.int .i64 un) nf3c (by go_simp)
  have y4_3:=G4.cell (b:=w2.heap.size) (o:=0) (v:=.int .i64 tk) nf3b (by go_simp)
  have y4_4:=G4.cell (b:=w2.heap.size) (o:=1) (v:=.int .i64 tn) nf3b (by go_simp)
  have y4_5:=G4.cell (b:=w.heap.size) (o:=1) (v:=.int .i64 a) nf3 (by go_simp)
  have nf4:=G4.nf (by simp;omega) nf3
  have nf4b:=G4.nf (by simp;omega) nf3b
  have nf4c:=G4.nf (by simp) nf3c
  have GC:=Lib.hid ((GB.out.trans (Gr.of_below (by exact Rd.byB))).trans G4)
  replace S4:=Lib.hid S4
  clear A G4
  go_wp2_with fail
  refine Drawn.bk hK (hS:=by (try dsimp only);exact ⟨y4_0,y4_1,y4_2,y4_3,y4_4,y4_5⟩) (h:=fun hHeld=>?_)
  clear hK K
  refine Drawn.cl 12 (fun K hK=>?_)
  go_simp
  refine (put S4.out ⟨xk,xn⟩ (by first | omega | (simp only [List.length_dropLast];omega))).mono ?_
  rintro e w9 (⟨q,rfl,A⟩ | ⟨q,rfl,A⟩)
  ·obtain ⟨L9,v9,G9,S9⟩:=A.opn
   have y9_0:w9.cell? ⟨P.cb,0,none⟩=some (.pointer (some ⟨E.hb,0,none⟩)):=S9.c0
   have y9_1:=G9.cell (b:=w3.heap.size) (o:=0) (v:=.int .i64 uk) nf4c (by go_simp)
   have y9_2:=G9.cell (b:=w3.heap.size) (o:=1) (v:=.int .i64 un) nf4c (by go_simp)
   have y9_3:=G9.cell (b:=w2.heap.size) (o:=0) (v:=.int .i64 tk) nf4b (by go_simp)
   have y9_4:=G9.cell (b:=w2.heap.size) (o:=1) (v:=.int .i64 tn) nf4b (by go_simp)
   have y9_5:=G9.cell (b:=w.heap.size) (o:=1) (v:=.int .i64 a) nf4 (by go_simp)
   go_wp2_with fail
   refine Drawn.bk hK (hS:=by (try dsimp only);exact ⟨y9_0,y9_1,y9_2,y9_3,y9_4,y9_5⟩) (h:=fun hHeld=>?_)
   clear hK K
   refine wpAnyH_done (by kernel_rfl) ?_ _
   go_wp2
   go_end0
   exact plr_yes q (G9.lft S9) GC.out
  ·unfold pan
   refine And.intro rfl ?_
   exact plr_no q A GC.out
 | thrown o h2 =>
  obtain ⟨rfl,A⟩:=hR
  obtain ⟨L4,G4,S4⟩:=Gr.of_heap A (S3.out.below (by exact Rd.byB))
  unfold pan
  refine And.intro rfl ?_
  exact plr_thrown ((GB.out.trans (Gr.of_below (by exact Rd.byB))).trans G4) S4
 | stop c2 h2 =>
  obtain ⟨rfl,A⟩:=hR
  obtain ⟨L4,G4,S4⟩:=Gr.of_heap A (S3.out.below (by exact Rd.byB))
  unfold pan
  refine And.intro rfl ?_
  exact plr_stop ((GB.out.trans (Gr.of_below (by exact Rd.byB))).trans G4) S4
set_option maxRecDepth 100000 in
theorem pl6n (S:ST E w L P m d h fr vs) (hbig:fr.stk.length≤1000) (a b c n:Int) (args:List Int) (aa:Option Addr) (an acap:Nat) (hn:fr.stk=[]) :
  Calls Tryz.prog 110 #[.pointer (some ⟨P.cb,0,none⟩),.agg #[.int .i64 6,.int .i64 a,.int .i64 b,.int .i64 c,.int .i64 n,.slice aa an acap]] w (PlR E L P m d vs fr (.tuple #[]) w (oA (sstep E.f E.input m ⟨6,a,b,c,n,args⟩ fr h))):=by
 rw [st6n (.inl hn)]
 have HS:=Lib.hid S
 have hcb:=S.cbw
 have hcb1:P.cb < w.heap.size+1:=by omega
 have nf:=S.fo_new (Nat.le_refl _)
 clear S
 go_enter Tryz.func110,Tryz.ntmps110
 go_wp2_with fail
 refine (twoIN (HS.out.below (by exact Rd.byB)) hbig 6 a b c n aa an acap hn).mono ?_
 rintro e w2 hR
 have R2:=Lib.hid (PlR.before (w:=w) (by exact Rd.byB) hR)
 rcases hR.ends with rfl | ⟨v,older,_,rfl⟩
 ·go_wp2_with fail
  go_end0
  exact R2.out
 ·refine And.intro rfl ?_
  exact R2.out
set_option maxRecDepth 100000 in
theorem pl6m (S:ST E w L P m d h fr vs) (hbig:fr.stk.length≤1000) (a b c n:Int) (args:List Int) (aa:Option Addr) (an acap:Nat) (hn:fr.stk≠[]) (hn2:fr.stk.dropLast=[]) :
  Calls Tryz.prog 110 #[.pointer (some ⟨P.cb,0,none⟩),.agg #[.int .i64 6,.int .i64 a,.int .i64 b,.int .i64 c,.int .i64 n,.slice aa an acap]] w (PlR E L P m d vs fr (.tuple #[]) w (oA (sstep E.f E.input m ⟨6,a,b,c,n,args⟩ fr h))):=by
 rw [st6n (.inr hn2)]
 have HS:=Lib.hid S
 have hcb:=S.cbw
 have hcb1:P.cb < w.heap.size+1:=by omega
 have nf:=S.fo_new (Nat.le_refl _)
 clear S
 go_enter Tryz.func110,Tryz.ntmps110
 go_wp2_with fail
 refine (twoIM (HS.out.below (by exact Rd.byB)) hbig 6 a b c n aa an acap hn hn2).mono ?_
 rintro e w2 hR
 have R2:=Lib.hid (PlR.before (w:=w) (by exact Rd.byB) hR)
 rcases hR.ends with rfl | ⟨v,older,_,rfl⟩
 ·go_wp2_with fail
  go_end0
  exact R2.out
 ·refine And.intro rfl ?_
  exact R2.out
set_option maxRecDepth 100000 in
theorem pl6o (S:ST E w L P m d h fr vs) (hbig:fr.stk.length≤1000) (a b c n:Int) (args:List Int) (aa:Option Addr) (an acap:Nat) (hn:fr.stk≠[]) (hn2:fr.stk.dropLast≠[]) (hm:Hier.may E.f.classes=true) (hok:Ok (top fr.stk.dropLast).n) :
  Calls Tryz.prog 110 #[.pointer (some ⟨P.cb,0,none⟩),.agg #[.int .i64 6,.int .i64 a,.int .i64 b,.int .i64 c,.int .i64 n,.slice aa an acap]] w (PlR E L P m d vs fr (.tuple #[]) w (oA (sstep E.f E.input m ⟨6,a,b,c,n,args⟩ fr h))):=by
 rw [st6 hn hn2]
 obtain ⟨act,hact⟩:∃ act,Hid (oA ((reckon E.f.classes (top fr.stk.dropLast) (top fr.stk) 1 a h).act fun v h=>push m fr fr.stk.dropLast.dropLast v h)=act):=⟨_,Lib.hid rfl⟩
 rw [hact.out]
 have HS:=Lib.hid S
 have hcb:=S.cbw
 have hcb1:P.cb < w.heap.size+1:=by omega
 have nf:=S.fo_new (Nat.le_refl _)
 have HOK:=Lib.hid hok
 clear hok
 clear S
 go_enter Tryz.func110,Tryz.ntmps110
 go_wp2_with fail
 refine (twoIO (HS.out.below (by exact Rd.byB)) hbig 6 a b c n aa an acap hn hn2 hm HOK.out).mono ?_
 rw [hact.out]
 rintro e w2 hR
 have R2:=Lib.hid (PlR.before (w:=w) (by exact Rd.byB) hR)
 rcases hR.ends with rfl | ⟨v,older,_,rfl⟩
 ·go_wp2_with fail
  go_end0
  exact R2.out
 ·refine And.intro rfl ?_
  exact R2.out
set_option maxRecDepth 100000 in
theorem pl7n (S:ST E w L P m d h fr vs) (hbig:fr.stk.length≤1000) (a b c n:Int) (args:List Int) (aa:Option Addr) (an acap:Nat) (hn:fr.stk=[]) :
  Calls Tryz.prog 110 #[.pointer (some ⟨P.cb,0,none⟩),.agg #[.int .i64 7,.int .i64 a,.int .i64 b,.int .i64 c,.int .i64 n,.slice aa an acap]] w (PlR E L P m d vs fr (.tuple #[]) w (oA (sstep E.f E.input m ⟨7,a,b,c,n,args⟩ fr h))):=by
 rw [st7n (.inl hn)]
 have HS:=Lib.hid S
 have hcb:=S.cbw
 have hcb1:P.cb < w.heap.size+1:=by omega
 have nf:=S.fo_new (Nat.le_refl _)
 clear S
 go_enter Tryz.func110,Tryz.ntmps110
 go_wp2_with fail
 refine (twoLN (HS.out.below (by exact Rd.byB)) hbig 7 a b c n aa an acap hn).mono ?_
 rintro e w2 hR
 have R2:=Lib.hid (PlR.before (w:=w) (by exact Rd.byB) hR)
 rcases hR.ends with rfl | ⟨v,older,_,rfl⟩
 ·go_wp2_with fail
  go_end0
  exact R2.out
 ·refine And.intro rfl ?_
  exact R2.out
set_option maxRecDepth 100000 in
theorem pl7m (S:ST E w L P m d h fr vs) (hbig:fr.stk.length≤1000) (a b c n:Int) (args:List Int) (aa:Option Addr) (an acap:Nat) (hn:fr.stk≠[]) (hn2:fr.stk.dropLast=[]) :
  Calls Tryz.prog 110 #[.pointer (some ⟨P.cb,0,none⟩),.agg #[.int .i64 7,.int .i64 a,.int .i64 b,.int .i64 c,.int .i64 n,.slice aa an acap]] w (PlR E L P m d vs fr (.tuple #[]) w (oA (sstep E.f E.input m ⟨7,a,b,c,n,args⟩ fr h))):=by
 rw [st7n (.inr hn2)]
 have HS:=Lib.hid S
 have hcb:=S.cbw
 have hcb1:P.cb < w.heap.size+1:=by omega
 have nf:=S.fo_new (Nat.le_refl _)
 clear S
 go_enter Tryz.func110,Tryz.ntmps110
 go_wp2_with fail
 refine (twoLM (HS.out.below (by exact Rd.byB)) hbig 7 a b c n aa an acap hn hn2).mono ?_
 rintro e w2 hR
 have R2:=Lib.hid (PlR.before (w:=w) (by exact Rd.byB) hR)
 rcases hR.ends with rfl | ⟨v,older,_,rfl⟩
 ·go_wp2_with fail
  go_end0
  exact R2.out
 ·refine And.intro rfl ?_
  exact R2.out
set_option maxRecDepth 100000 in
theorem pl7o (S:ST E w L P m d h fr vs) (hbig:fr.stk.length≤1000) (a b c n:Int) (args:List Int) (aa:Option Addr) (an acap:Nat) (hn:fr.stk≠[]) (hn2:fr.stk.dropLast≠[]) (hm:Hier.may E.f.classes=true) (hok:Ok (top fr.stk.dropLast).n) :
  Calls Tryz.prog 110 #[.pointer (some ⟨P.cb,0,none⟩),.agg #[.int .i64 7,.int .i64 a,.int .i64 b,.int .i64 c,.int .i64 n,.slice aa an acap]] w (PlR E L P m d vs fr (.tuple #[]) w (oA (sstep E.f E.input m ⟨7,a,b,c,n,args⟩ fr h))):=by
 rw [st7 hn hn2]
 obtain ⟨act,hact⟩:∃ act,Hid (oA ((reckon E.f.classes (top fr.stk.dropLast) (top fr.stk) 2 a h).act fun v h=>push m fr fr.stk.dropLast.dropLast v h)=act):=⟨_,Lib.hid rfl⟩
 rw [hact.out]
 have HS:=Lib.hid S
 have hcb:=S.cbw
 have hcb1:P.cb < w.heap.size+1:=by omega
 have nf:=S.fo_new (Nat.le_refl _)
 have HOK:=Lib.hid hok
 clear hok
 clear S
 go_enter Tryz.func110,Tryz.ntmps110
 go_wp2_with fail
 refine (twoLO (HS.out.below (by exact Rd.byB)) hbig 7 a b c n aa an acap hn hn2 hm HOK.out).mono ?_
 rw [hact.out]
 rintro e w2 hR
 have R2:=Lib.hid (PlR.before (w:=w) (by exact Rd.byB) hR)
 rcases hR.ends with rfl | ⟨v,older,_,rfl⟩
 ·go_wp2_with fail
  go_end0
  exact R2.out
 ·refine And.intro rfl ?_
  exact R2.out
end
end Hpw
end Go.Proofs.YtncmhenfgbcihabGreat
