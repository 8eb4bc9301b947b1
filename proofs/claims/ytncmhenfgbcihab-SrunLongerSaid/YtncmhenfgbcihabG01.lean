/- Parts of the proof: Num, Rd, RdO, Mem, Hier, Form, Run. -/
import Derived.WalkKit
import Derived.Test.YtncmhenfgbcihabRows
import Derived.ProofKit
import Derived.OpenShut
import Derived.Carry
import Derived.Deep.Draws
import Derived.WalkLawsBesides
import Derived.WalkSpells
import Derived.Deep.AppendLies
import Derived.Lib.Hide
namespace Go.Proofs.Ytncmhenfgbcihab
open Go.RowKit
namespace Num
def Ok (n : Int) : Prop:=-9223372036854775808 ≤ n ∧ n ≤ 9223372036854775807
theorem Ok.of_wf {n : Int} (h : (Lit.int .i64 n).wf = true) : Ok n:=by
  simp [Lit.wf,IntKind.min,IntKind.max,IntKind.signed,IntKind.bits] at h;unfold Ok;omega
theorem wrap64_ok (n : Int) : Ok (wrap64 n):=by unfold Ok wrap64;omega
theorem wrap64_id {n : Int} (h : Ok n) : wrap64 n = n:=by unfold Ok at h;unfold wrap64;omega
theorem wrap32_ok (n : Int) : Ok (wrap32 n):=by unfold Ok wrap32;omega
theorem bits_ok (op : BinOp) (a b : Int) : Ok (bits op .i64 a b):=Ok.of_wf (by
  unfold bits;split <;> exact (by simp [Lit.wf,IntKind.wrap,IntKind.min,IntKind.max,IntKind.signed,IntKind.bits];try split <;> omega))
def long (op a b : Int) : Int × Bool :=
  if op = 1 then (wrap64 (a + b),true)
  else if op = 2 then (wrap64 (a - b),true)
  else if op = 3 then (wrap64 (a * b),true)
  else if op = 4 then (if b = 0 then (0,false) else if b = -1 then (wrap64 (-a),true) else (a.tdiv b,true))
  else if op = 5 then (if b = 0 then (0,false) else if b = -1 then (0,true) else (a.tmod b,true))
  else if op = 6 then (bits .and .i64 a b,true)
  else if op = 7 then (bits .or .i64 a b,true)
  else if op = 8 then (bits .xor .i64 a b,true)
  else (0,false)
def int (op a b : Int) : Int × Bool:=(wrap32 (long op (wrap32 a) (wrap32 b)).1,(long op (wrap32 a) (wrap32 b)).2)
def cmp (a b : Int) : Int:=if a < b then -1 else if b < a then 1 else 0
def holds (c a : Int) : Bool :=
  if c = 1 then decide (a = 0) else if c = 2 then decide (a < 0) else if c = 3 then decide (a ≠ 0) else if c = 4 then decide (0 < a) else false
theorem tdiv_ok {a b : Int} (ha : Ok a) (h1 : b ≠ -1) : Ok (a.tdiv b):=by
  unfold Ok at *
  have h:=Int.natAbs_tdiv_le_natAbs a b
  by_cases e : a = -9223372036854775808
  · by_cases h0 : b = 0
    · subst h0;simp
    by_cases e1 : b = 1
    · subst e1;simp;omega
    · have h2 : 2 ≤ b.natAbs:=by omega
      have : (a.tdiv b).natAbs = a.natAbs / b.natAbs:=Int.natAbs_tdiv a b
      have h3 : a.natAbs / b.natAbs ≤ a.natAbs / 2:=Nat.div_le_div_left h2 (by omega)
      omega
  · omega
theorem tmod_ok {a b : Int} (ha : Ok a) : Ok (a.tmod b):=by
  unfold Ok at *
  have h:=Int.natAbs_tmod a b
  have h2:=Nat.mod_le a.natAbs b.natAbs
  have h3 : 0 ≤ a → 0 ≤ a.tmod b:=fun h=>Int.tmod_nonneg b h
  by_cases h0 : 0 ≤ a
  · have:=h3 h0;omega
  · have : 0 ≤ (-a).tmod b:=Int.tmod_nonneg b (by omega)
    rw [Int.neg_tmod] at this
    omega
theorem long_ok (op a b : Int) (ha : Ok a) : Ok (long op a b).1:=by
  unfold long
  repeat' split
  all_goals dsimp only
  all_goals first | with_reducible exact wrap64_ok _ | with_reducible exact bits_ok _ _ _ | with_reducible exact tdiv_ok ha ‹_› | with_reducible exact tmod_ok ha | exact ⟨by omega,by omega⟩
theorem int_ok (op a b : Int) : Ok (int op a b).1:=wrap32_ok _
def bitN : Nat → Int → Int
  | 0,n=>n
  | k + 1,n=>bitN k ((n - n % 2) / 2)
def bit (n : Int) (k : Nat) : Bool:=decide (bitN k n % 2 = 1)
theorem bitN_eq (k : Nat) : ∀ n : Int,bitN k n = n / 2 ^ k:=by
  induction k with
  | zero=>intro n;simp [bitN]
  | succ k ih =>
    intro n
    rw [bitN,ih,show (n - n % 2) / 2 = n / 2 by omega,Int.pow_succ,Int.mul_comm,Int.ediv_ediv_of_nonneg (by omega)]
theorem bitN_ok (k : Nat) {n : Int} (h : Ok n) : Ok (bitN k n):=by
  induction k generalizing n with
  | zero=>exact h
  | succ k ih=>unfold Ok at *;rw [bitN];exact ih (by omega)
def opBit (op : Int) (x y : Bool) : Bool:=(decide (op = 6) && x && y) || (decide (op = 7) && (x || y)) || (decide (op = 8) && (x != y))
def sumN (op a b : Int) : Nat → Int
  | 0=>0
  | k + 1=>sumN op a b k + if opBit op (bit a k) (bit b k) then 2 ^ k else 0
theorem odd_tmod (n : Int) : n.tmod 2 = if 0 ≤ n then n % 2 else -((-n) % 2):=by
  split
  · exact Int.tmod_eq_emod_of_nonneg ‹_›
  · rw [← Int.tmod_eq_emod_of_nonneg (show 0 ≤ -n by omega),Int.neg_tmod,Int.neg_neg]
theorem sumN_range (op a b : Int) : ∀ k,0 ≤ sumN op a b k ∧ sumN op a b k < 2 ^ k:=by
  intro k
  induction k with
  | zero=>simp [sumN]
  | succ k ih =>
    rw [sumN,Int.pow_succ]
    have : (0:Int) < 2 ^ k:=Int.pow_pos (by omega)
    split <;> omega
theorem bit_testBit (n : Int) (k : Nat) (hk : k < 64) : bit n k = (BitVec.ofInt 64 n).toNat.testBit k:=by
  have hp : (2:Int) ^ k * 2 ^ (64 - k) = 18446744073709551616:=by
    rw [← Int.pow_add,show k + (64 - k) = 64 by omega];rfl
  have h2 : (2:Int) ^ (64 - k) = 2 * 2 ^ (63 - k):=by
    rw [show 64 - k = (63 - k) + 1 by omega,Int.pow_succ,Int.mul_comm]
  have hpos : (0:Int) < 2 ^ k:=Int.pow_pos (by omega)
  rw [bit,bitN_eq]
  have e1 : ((BitVec.ofInt 64 n).toNat : Int) = n % 18446744073709551616:=by
    rw [BitVec.toNat_ofInt];rw [Int.toNat_of_nonneg (by omega)];rfl
  have e2 : (n / 2 ^ k) % 2 = (n % 18446744073709551616 / 2 ^ k) % 2:=by
    have hn : n = n % 18446744073709551616 + 2 ^ k * (2 * 2 ^ (63 - k) * (n / 18446744073709551616)):=by
      rw [← Int.mul_assoc,← h2,hp];omega
    have : n / 2 ^ k = n % 18446744073709551616 / 2 ^ k + 2 * 2 ^ (63 - k) * (n / 18446744073709551616):=by
      conv=>lhs;rw [hn]
      exact Int.add_mul_ediv_left _ _ (by omega)
    rw [this,Int.mul_assoc];omega
  rw [e2,← e1,Nat.testBit_eq_decide_div_mod_eq]
  have : ((BitVec.ofInt 64 n).toNat : Int) / 2 ^ k % 2 = (((BitVec.ofInt 64 n).toNat / 2 ^ k % 2 : Nat) : Int):=by
    simp
  rw [this]
  congr 1
  simp only [eq_iff_iff];omega
def natN (p : Nat → Bool) : Nat → Nat
  | 0=>0
  | k + 1=>natN p k + if p k then 2 ^ k else 0
theorem natN_lt (p : Nat → Bool) (k : Nat) : natN p k < 2 ^ k:=by
  induction k with
  | zero=>simp [natN]
  | succ k ih=>rw [natN,Nat.pow_succ];split <;> omega
theorem natN_testBit (m k : Nat) : natN m.testBit k = m % 2 ^ k:=by
  induction k with
  | zero=>simp [natN,Nat.mod_one]
  | succ k ih =>
    rw [natN,ih,Nat.testBit_eq_decide_div_mod_eq,Nat.pow_succ,Nat.mod_mul]
    have : m / 2 ^ k % 2 = 0 ∨ m / 2 ^ k % 2 = 1:=by omega
    rcases this with h | h <;> simp [h]
theorem natN_congr {p q : Nat → Bool} (k : Nat) (h : ∀ j,j < k → p j = q j) : natN p k = natN q k:=by
  induction k with
  | zero=>rfl
  | succ k ih=>rw [natN,natN,ih (fun j hj=>h j (by omega)),h k (by omega)]
theorem sumN_nat (op a b : Int) (k : Nat) : sumN op a b k = (natN (fun j=>opBit op (bit a j) (bit b j)) k : Nat):=by
  induction k with
  | zero=>rfl
  | succ k ih=>rw [sumN,natN,ih];split <;> simp
theorem wrap_i64 (n : Int) : IntKind.i64.wrap n = wrap64 n:=by
  rw [IntKind.wrap_i64];unfold wrap64;omega
theorem sumN_bits (op a b : Int) (o : BinOp) (f : Bool → Bool → Bool) (g : Nat → Nat → Nat)
    (hg : ∀ x y i,(g x y).testBit i = f (x.testBit i) (y.testBit i)) (hlt : ∀ x y,x < 2 ^ 64 → y < 2 ^ 64 → g x y < 2 ^ 64)
    (hop : ∀ x y,opBit op x y = f x y)
    (ho : bits o .i64 a b = IntKind.i64.wrap ((g (BitVec.ofInt 64 a).toNat (BitVec.ofInt 64 b).toNat : Nat) : Int)) :
    wrap64 (sumN op a b 64) = bits o .i64 a b:=by
  rw [ho,sumN_nat,wrap_i64]
  have : natN (fun j=>opBit op (bit a j) (bit b j)) 64 = natN (g (BitVec.ofInt 64 a).toNat (BitVec.ofInt 64 b).toNat).testBit 64 :=
    natN_congr 64 (fun j hj=>by rw [hop,bit_testBit a j hj,bit_testBit b j hj,hg])
  rw [this,natN_testBit,Nat.mod_eq_of_lt (hlt _ _ (BitVec.isLt _) (BitVec.isLt _))]
theorem sumN_and (a b : Int) : wrap64 (sumN 6 a b 64) = bits .and .i64 a b :=
  sumN_bits 6 a b .and (fun x y=>x && y) (fun x y=>x &&& y) (fun x y i=>Nat.testBit_and x y i) (fun x y _ hy=>Nat.and_lt_two_pow _ hy)
    (by intro x y;cases x <;> cases y <;> rfl) (by show IntKind.i64.wrap ((BitVec.toNat (BitVec.ofInt 64 a &&& BitVec.ofInt 64 b) : Nat) : Int) = _;rw [BitVec.toNat_and])
theorem sumN_or (a b : Int) : wrap64 (sumN 7 a b 64) = bits .or .i64 a b :=
  sumN_bits 7 a b .or (fun x y=>x || y) (fun x y=>x ||| y) (fun x y i=>Nat.testBit_or x y i) (fun x y hx hy=>Nat.or_lt_two_pow hx hy)
    (by intro x y;cases x <;> cases y <;> rfl) (by show IntKind.i64.wrap ((BitVec.toNat (BitVec.ofInt 64 a ||| BitVec.ofInt 64 b) : Nat) : Int) = _;rw [BitVec.toNat_or])
theorem sumN_xor (a b : Int) : wrap64 (sumN 8 a b 64) = bits .xor .i64 a b :=
  sumN_bits 8 a b .xor (fun x y=>x != y) (fun x y=>x ^^^ y) (fun x y i=>Nat.testBit_xor x y i) (fun x y hx hy=>Nat.xor_lt_two_pow hx hy)
    (by intro x y;cases x <;> cases y <;> rfl) (by show IntKind.i64.wrap ((BitVec.toNat (BitVec.ofInt 64 a ^^^ BitVec.ofInt 64 b) : Nat) : Int) = _;rw [BitVec.toNat_xor])
def refBits (op a b : Int) : Int:=wrap64 (sumN op a b 64)
def refLong (op a b : Int) : Int × Bool :=
  if op = 1 then (wrap64 (a + b),true)
  else if op = 2 then (wrap64 (a - b),true)
  else if op = 3 then (wrap64 (a * b),true)
  else if op = 6 ∨ op = 7 ∨ op = 8 then (refBits op a b,true)
  else if (op ≠ 4 ∧ op ≠ 5) ∨ b = 0 then (0,false)
  else if op = 4 then (if b ≠ -1 then a.tdiv b else wrap64 (0 - a),true)
  else (wrap64 (a - wrap64 ((if b ≠ -1 then a.tdiv b else wrap64 (0 - a)) * b)),true)
theorem rem_eq (a b : Int) (ha : Ok a) (_hb : b ≠ 0) : wrap64 (a - wrap64 ((if b ≠ -1 then a.tdiv b else wrap64 (0 - a)) * b)) = if b = -1 then 0 else a.tmod b:=by
  by_cases h : b = -1
  · subst h;unfold Ok at ha;simp [wrap64];omega
  · rw [if_pos h,if_neg h]
    have e:=Int.tdiv_mul_add_tmod a b
    have h1:=tmod_ok (b:=b) ha
    have : wrap64 (a - wrap64 (a.tdiv b * b)) = wrap64 (a - a.tdiv b * b):=by unfold wrap64;omega
    rw [this,show a - a.tdiv b * b = a.tmod b by omega,wrap64_id h1]
theorem refLong_eq (op a b : Int) (ha : Ok a) : refLong op a b = long op a b:=by
  unfold refLong long
  by_cases h1 : op = 1
  · simp [h1]
  by_cases h2 : op = 2
  · simp [h2]
  by_cases h3 : op = 3
  · simp [h3]
  by_cases h4 : op = 4
  · subst h4;by_cases hb : b = 0
    · simp [hb]
    · by_cases hb1 : b = -1 <;> simp [hb,hb1,wrap64]
  by_cases h5 : op = 5
  · subst h5;by_cases hb : b = 0
    · simp [hb]
    · have:=rem_eq a b ha hb
      simp only [show ¬((5:Int) = 1) by omega,show ¬((5:Int) = 2) by omega,show ¬((5:Int) = 3) by omega,show ¬((5:Int) = 4) by omega,show ¬((5:Int) = 6 ∨ (5:Int) = 7 ∨ (5:Int) = 8) by omega,if_false,if_true,hb]
      rw [if_neg (by simp),this]
      split <;> rfl
  by_cases h6 : op = 6
  · subst h6;simp [refBits,sumN_and]
  by_cases h7 : op = 7
  · subst h7;simp [refBits,sumN_or]
  by_cases h8 : op = 8
  · subst h8;simp [refBits,sumN_xor]
  simp [h1,h2,h3,h4,h5,h6,h7,h8]
def refNarrow (a : Int) : Int :=
  let n:=a.tmod 4294967296
  let n:=if n < 0 then n + 4294967296 else n
  if 2147483648 ≤ n then n - 4294967296 else n
theorem refNarrow_eq (a : Int) : refNarrow a = wrap32 a:=by
  unfold refNarrow wrap32
  by_cases h : 0 ≤ a
  · rw [Int.tmod_eq_emod_of_nonneg h];simp only [];split <;> split <;> omega
  · have e : a.tmod 4294967296 = -((-a) % 4294967296) := by
      rw [← Int.tmod_eq_emod_of_nonneg (show 0 ≤ -a by omega),Int.neg_tmod,Int.neg_neg]
    rw [e];simp only [];split <;> split <;> omega
end Num
end Go.Proofs.Ytncmhenfgbcihab
namespace Go.Proofs.Ytncmhenfgbcihab
open Go.ChangeShapes Go.WideShapes Go.ChangeAt Go.RowKit
set_option linter.unusedSimpArgs false
set_option linter.unusedVariables false
namespace D
structure Ty where
  kind : Int
  cls : Int
structure Cls where
  sup : Int
  fields : List Ty
structure Hd where
  lo : Int
  hi : Int
  go : Int
  cls : Int
structure Ins where
  op : Int
  a : Int
  b : Int
  c : Int
  n : Int
  args : List Int
structure Me where
  params : List Ty
  ret : Ty
  stack : Int
  locals : Int
  regs : Int
  code : List Ins
  handlers : List Hd
structure Fi where
  classes : List Cls
  methods : List Me
end D
namespace Rd
open Num
def Sl {α : Type} (size : Nat) (E : World → Nat → Nat → Nat → α → Prop) (w : World) (B : Nat) (v : Value) (l : List α) : Prop :=
  ∃ (a : Option Addr) (cap : Nat),v = .slice a l.length cap ∧ l.length ≤ cap ∧ cap ≤ 9223372036854775807 ∧
    ∀ i (h : i < l.length),∃ b o,a = some ⟨b,o,none⟩ ∧ b < B ∧ E w B b (o + i * size) l[i]
def EInt (w : World) (_B b o : Nat) (n : Int) : Prop:=w.cell? ⟨b,o,none⟩ = some (.int .i64 n) ∧ Ok n
def ETy (w : World) (_B b o : Nat) (t : D.Ty) : Prop :=
  w.cell? ⟨b,o,none⟩ = some (.int .i64 t.kind) ∧ w.cell? ⟨b,o + 1,none⟩ = some (.int .i64 t.cls) ∧ Ok t.kind ∧ Ok t.cls
def ECls (w : World) (B b o : Nat) (c : D.Cls) : Prop :=
  w.cell? ⟨b,o,none⟩ = some (.int .i64 c.sup) ∧ Ok c.sup ∧ ∃ v,w.cell? ⟨b,o + 1,none⟩ = some v ∧ Sl 2 ETy w B v c.fields
def EHd (w : World) (_B b o : Nat) (h : D.Hd) : Prop :=
  w.cell? ⟨b,o,none⟩ = some (.int .i64 h.lo) ∧ w.cell? ⟨b,o + 1,none⟩ = some (.int .i64 h.hi) ∧ w.cell? ⟨b,o + 2,none⟩ = some (.int .i64 h.go) ∧ w.cell? ⟨b,o + 3,none⟩ = some (.int .i64 h.cls) ∧
    Ok h.lo ∧ Ok h.hi ∧ Ok h.go ∧ Ok h.cls
def EIns (w : World) (B b o : Nat) (i : D.Ins) : Prop :=
  w.cell? ⟨b,o,none⟩ = some (.int .i64 i.op) ∧ w.cell? ⟨b,o + 1,none⟩ = some (.int .i64 i.a) ∧ w.cell? ⟨b,o + 2,none⟩ = some (.int .i64 i.b) ∧ w.cell? ⟨b,o + 3,none⟩ = some (.int .i64 i.c) ∧ w.cell? ⟨b,o + 4,none⟩ = some (.int .i64 i.n) ∧
    (Ok i.op ∧ Ok i.a ∧ Ok i.b ∧ Ok i.c ∧ Ok i.n) ∧ ∃ v,w.cell? ⟨b,o + 5,none⟩ = some v ∧ Sl 1 EInt w B v i.args
def EMe (w : World) (B b o : Nat) (m : D.Me) : Prop :=
  ∃ vp vc vh,w.cell? ⟨b,o,none⟩ = some vp ∧ w.cell? ⟨b,o + 1,none⟩ = some (.int .i64 m.ret.kind) ∧ w.cell? ⟨b,o + 2,none⟩ = some (.int .i64 m.ret.cls) ∧
    w.cell? ⟨b,o + 3,none⟩ = some (.int .i64 m.stack) ∧ w.cell? ⟨b,o + 4,none⟩ = some (.int .i64 m.locals) ∧ w.cell? ⟨b,o + 5,none⟩ = some (.int .i64 m.regs) ∧
    w.cell? ⟨b,o + 6,none⟩ = some vc ∧ w.cell? ⟨b,o + 7,none⟩ = some vh ∧
    (Ok m.ret.kind ∧ Ok m.ret.cls ∧ Ok m.stack ∧ Ok m.locals ∧ Ok m.regs) ∧ Sl 2 ETy w B vp m.params ∧ Sl 6 EIns w B vc m.code ∧ Sl 4 EHd w B vh m.handlers
def VMe (w : World) (B : Nat) (v : Value) (m : D.Me) : Prop :=
  ∃ vp vc vh,v = .agg #[vp,.int .i64 m.ret.kind,.int .i64 m.ret.cls,.int .i64 m.stack,.int .i64 m.locals,.int .i64 m.regs,vc,vh] ∧
    (Ok m.ret.kind ∧ Ok m.ret.cls ∧ Ok m.stack ∧ Ok m.locals ∧ Ok m.regs) ∧ Sl 2 ETy w B vp m.params ∧ Sl 6 EIns w B vc m.code ∧ Sl 4 EHd w B vh m.handlers
def VIns (w : World) (B : Nat) (v : Value) (i : D.Ins) : Prop :=
  ∃ va,v = .agg #[.int .i64 i.op,.int .i64 i.a,.int .i64 i.b,.int .i64 i.c,.int .i64 i.n,va] ∧ (Ok i.op ∧ Ok i.a ∧ Ok i.b ∧ Ok i.c ∧ Ok i.n) ∧ Sl 1 EInt w B va i.args
def VFi (w : World) (B : Nat) (v : Value) (f : D.Fi) : Prop :=
  ∃ vc vm,v = .agg #[vc,vm] ∧ Sl 2 ECls w B vc f.classes ∧ Sl 8 EMe w B vm f.methods
def Mono {α : Type} (E : World → Nat → Nat → Nat → α → Prop) : Prop :=
  ∀ w w' B B' b o x,Below B w w' → B ≤ B' → b < B → E w B b o x → E w' B' b o x
theorem Sl.mono {α : Type} {size : Nat} {E : World → Nat → Nat → Nat → α → Prop} (hE : Mono E) {w w' : World} {B B' : Nat} {v : Value} {l : List α} (h : Sl size E w B v l) (hb : Below B w w') (hB : B ≤ B') : Sl size E w' B' v l:=by
  obtain ⟨a,cap,hv,hl,hc,h⟩:=h
  refine ⟨a,cap,hv,hl,hc,fun i hi=>?_⟩
  obtain ⟨b,o,ha,hlt,he⟩:=h i hi
  exact ⟨b,o,ha,Nat.lt_of_lt_of_le hlt hB,hE _ _ _ _ _ _ _ hb hB hlt he⟩
theorem mInt : Mono EInt:=fun w w' B B' b o x hb _ hlt h=>by
  unfold EInt at *;rw [hb.cell (p:=⟨b,o,none⟩) hlt];exact h
theorem mTy : Mono ETy:=fun w w' B B' b o x hb _ hlt h=>by
  unfold ETy at *;rw [hb.cell (p:=⟨b,o,none⟩) hlt,hb.cell (p:=⟨b,o + 1,none⟩) hlt];exact h
theorem mCls : Mono ECls:=fun w w' B B' b o x hb hB hlt h=>by
  unfold ECls at *;rw [hb.cell (p:=⟨b,o,none⟩) hlt,hb.cell (p:=⟨b,o + 1,none⟩) hlt]
  obtain ⟨h1,h2,v,h3,h4⟩:=h
  exact ⟨h1,h2,v,h3,h4.mono mTy hb hB⟩
theorem mHd : Mono EHd:=fun w w' B B' b o x hb _ hlt h=>by
  unfold EHd at *;rw [hb.cell (p:=⟨b,o,none⟩) hlt,hb.cell (p:=⟨b,o + 1,none⟩) hlt,hb.cell (p:=⟨b,o + 2,none⟩) hlt,hb.cell (p:=⟨b,o + 3,none⟩) hlt];exact h
theorem mIns : Mono EIns:=fun w w' B B' b o x hb hB hlt h=>by
  unfold EIns at *;rw [hb.cell (p:=⟨b,o,none⟩) hlt,hb.cell (p:=⟨b,o + 1,none⟩) hlt,hb.cell (p:=⟨b,o + 2,none⟩) hlt,hb.cell (p:=⟨b,o + 3,none⟩) hlt,hb.cell (p:=⟨b,o + 4,none⟩) hlt,hb.cell (p:=⟨b,o + 5,none⟩) hlt]
  obtain ⟨h1,h2,h3,h4,h5,h6,v,h7,h8⟩:=h
  exact ⟨h1,h2,h3,h4,h5,h6,v,h7,h8.mono mInt hb hB⟩
theorem mMe : Mono EMe:=fun w w' B B' b o x hb hB hlt h=>by
  unfold EMe at *
  rw [hb.cell (p:=⟨b,o,none⟩) hlt,hb.cell (p:=⟨b,o + 1,none⟩) hlt,hb.cell (p:=⟨b,o + 2,none⟩) hlt,hb.cell (p:=⟨b,o + 3,none⟩) hlt,hb.cell (p:=⟨b,o + 4,none⟩) hlt,hb.cell (p:=⟨b,o + 5,none⟩) hlt,hb.cell (p:=⟨b,o + 6,none⟩) hlt,hb.cell (p:=⟨b,o + 7,none⟩) hlt]
  obtain ⟨vp,vc,vh,h1,h2,h3,h4,h5,h6,h7,h8,h9,h10,h11,h12⟩:=h
  exact ⟨vp,vc,vh,h1,h2,h3,h4,h5,h6,h7,h8,h9,h10.mono mTy hb hB,h11.mono mIns hb hB,h12.mono mHd hb hB⟩
theorem VMe.mono {w w' : World} {B B' : Nat} {v : Value} {m : D.Me} (h : VMe w B v m) (hb : Below B w w') (hB : B ≤ B') : VMe w' B' v m:=by
  obtain ⟨vp,vc,vh,h1,h2,h3,h4,h5⟩:=h
  exact ⟨vp,vc,vh,h1,h2,h3.mono mTy hb hB,h4.mono mIns hb hB,h5.mono mHd hb hB⟩
theorem VIns.mono {w w' : World} {B B' : Nat} {v : Value} {m : D.Ins} (h : VIns w B v m) (hb : Below B w w') (hB : B ≤ B') : VIns w' B' v m:=by
  obtain ⟨va,h1,h2,h3⟩:=h
  exact ⟨va,h1,h2,h3.mono mInt hb hB⟩
theorem VFi.mono {w w' : World} {B B' : Nat} {v : Value} {f : D.Fi} (h : VFi w B v f) (hb : Below B w w') (hB : B ≤ B') : VFi w' B' v f:=by
  obtain ⟨vc,vm,h1,h2,h3⟩:=h
  exact ⟨vc,vm,h1,h2.mono mCls hb hB,h3.mono mMe hb hB⟩
theorem below_drewN {B : Nat} {a w : World} (h : Below B a w) (n : Nat) : Below B a (w.drewN n):=⟨h.os,h.tape,h.output,h.size,h.block⟩
theorem byB {p : Prop} (h : p:=by repeat' (first | with_reducible exact Below.refl _ _ | with_reducible assumption | exact Nat.le_refl _ | with_reducible refine Go.Proofs.Ytncmhenfgbcihab.Rd.below_drewN ?_ _ | with_reducible refine Below.alloc ?_ ?_ _ | with_reducible refine Below.setCell ?_ ?_ _ | with_reducible refine Below.drew ?_ | omega | (simp;omega) | (simp;done))) : p:=h
theorem byL {p : Prop} (h : p:=by first | omega | (simp;omega) | (simp;done)) : p:=h
section
variable {H : Type} {enc : TypeId × Value → H} {w : World} {sp : Nat → Bool} {held : Bool}
theorem list_of {α : Type} (n : Nat) (Q : Nat → α → Prop) (h : ∀ i,i < n → ∃ x,Q i x) : ∃ l : List α,l.length = n ∧ ∀ i (hi : i < l.length),Q i l[i]:=by
  induction n with
  | zero=>exact ⟨[],rfl,fun i hi=>absurd hi (by simp)⟩
  | succ n ih =>
    obtain ⟨l,hl,hq⟩:=ih (fun i hi=>h i (by omega))
    obtain ⟨x,hx⟩:=h n (by omega)
    refine ⟨l ++ [x],by simp [hl],fun i hi=>?_⟩
    by_cases hlt : i < l.length
    · rw [List.getElem_append_left hlt];exact hq i hlt
    · have : i = l.length:=by simp at hi;omega
      subst this
      simp;rw [hl];exact hx
theorem Sl.of_trod {P : Program} {α : Type} {size : Nat} {E : World → Nat → Nat → Nat → α → Prop} {t e : TypeId} (ht : P.underlying t = some (.slice e)) (hs : P.cellsOf e = size) (h0 : 0 < size)
    (hE : ∀ fuel b o cs x,b < w.heap.size → (∀ i,i < size → w.cell? ⟨b,o + i,none⟩ = cs[i]?) → cs.length = size → DataW.trod enc P w 0 sp held fuel e cs = some x → ∃ y,E w w.heap.size b o y)
    {fuel : Nat} {cs : List Value} {x : DataW H × List MemPlace} (h : DataW.trod enc P w 0 sp held fuel t cs = some x) : ∃ v l,cs = [v] ∧ Sl size E w w.heap.size v l:=by
  rcases DataW.trod_slice ht h with ⟨rfl,_⟩ | ⟨a,len,cap,elems,rest,n,_,rfl,_,hb,hl,hc,hlen,hel,_,_⟩
  · exact ⟨_,[],rfl,none,0,rfl,by simp,by omega,fun i hi=>absurd hi (by simp)⟩
  · subst hs
    have key : ∀ i,i < len → ∃ y,(∃ b o,a = ⟨b,o,none⟩ ∧ b < w.heap.size ∧ E w w.heap.size b (o + i * P.cellsOf e) y):=by
      intro i hi
      have h1:=hel i hi
      rw [List.getElem?_eq_getElem (by omega)] at h1
      obtain ⟨cs,hc1,hc2⟩:=Option.bind_eq_some_iff.1 h1
      have hblk:=World.cells?_block hc1 h0
      obtain ⟨_,hcl,hcc⟩:=World.cells?_some hc1
      have hspot : a.spot = none:=by
        cases hsp : a.spot with
        | none=>rfl
        | some s =>
          exfalso
          have hel0:=hel 0 (by omega)
          rw [List.getElem?_eq_getElem (by omega)] at hel0
          obtain ⟨cs0,hd1,_⟩:=Option.bind_eq_some_iff.1 hel0
          obtain ⟨_,hd2,hd3⟩:=World.cells?_some hd1
          have hd4:=hd3 0 h0
          rw [List.getElem?_eq_getElem (by omega)] at hd4
          simp [Addr.add,World.cell?,hsp] at hd4
          split at hd4 <;> simp_all
      obtain ⟨b,o,s⟩:=a
      simp only at hspot
      subst hspot
      have hbb : b < w.heap.size:=by
        simp only [Addr.add] at hblk;split at hblk <;> exact hblk
      obtain ⟨y,hy⟩:=hE n b (o + i * P.cellsOf e) cs _ hbb (fun j hj=>by
        have:=hcc j hj
        rw [← this]
        simp only [Addr.add]
        by_cases q1 : i * P.cellsOf e = 0 <;> by_cases q2 : j = 0 <;> simp [q1,q2]) hcl hc2
      exact ⟨y,b,o,rfl,hbb,hy⟩
    obtain ⟨l,hl1,hl2⟩:=list_of len _ key
    subst hl1
    refine ⟨_, l, rfl, some a, cap, rfl, hl, by have : maxLen = 9223372036854775807 := rfl
                                                omega,fun i hi=>?_⟩
    obtain ⟨b,o,ha,hbb,hy⟩:=hl2 i hi
    exact ⟨b,o,by rw [ha],hbb,hy⟩
end
end Rd
end Go.Proofs.Ytncmhenfgbcihab
namespace Go.Proofs.Ytncmhenfgbcihab
open Go.ChangeShapes Go.WideShapes Go.ChangeAt Go.RowKit
set_option linter.unusedSimpArgs false
set_option linter.unusedVariables false
namespace Rd
open Num
section
variable {H : Type} {enc : TypeId × Value → H} {w : World} {sp : Nat → Bool} {held : Bool}
theorem len1 {cs : List Value} (h : cs.length = 1) : ∃ c0,cs = [c0]:=by
  match cs,h with
  | [c0],_=>exact ⟨c0,rfl⟩
theorem len2 {cs : List Value} (h : cs.length = 2) : ∃ c0 c1,cs = [c0,c1]:=by
  match cs,h with
  | [c0,c1],_=>exact ⟨c0,c1,rfl⟩
theorem len4 {cs : List Value} (h : cs.length = 4) : ∃ c0 c1 c2 c3,cs = [c0,c1,c2,c3]:=by
  match cs,h with
  | [c0,c1,c2,c3],_=>exact ⟨c0,c1,c2,c3,rfl⟩
theorem len6 {cs : List Value} (h : cs.length = 6) : ∃ c0 c1 c2 c3 c4 c5,cs = [c0,c1,c2,c3,c4,c5]:=by
  match cs,h with
  | [c0,c1,c2,c3,c4,c5],_=>exact ⟨c0,c1,c2,c3,c4,c5,rfl⟩
theorem len8 {cs : List Value} (h : cs.length = 8) : ∃ c0 c1 c2 c3 c4 c5 c6 c7,cs = [c0,c1,c2,c3,c4,c5,c6,c7]:=by
  match cs,h with
  | [c0,c1,c2,c3,c4,c5,c6,c7],_=>exact ⟨c0,c1,c2,c3,c4,c5,c6,c7,rfl⟩
theorem cells_int : Try.prog.cellsOf 3 = 1:=by kernel_rfl
theorem cells_int64 : Try.prog.cellsOf 2 = 1:=by kernel_rfl
theorem cells_ty : Try.prog.cellsOf 51 = 2:=by kernel_rfl
theorem cells_tys : Try.prog.cellsOf 49 = 1:=by kernel_rfl
theorem cells_ints : Try.prog.cellsOf 61 = 1:=by kernel_rfl
theorem cells_cls : Try.prog.cellsOf 70 = 2:=by kernel_rfl
theorem cells_clss : Try.prog.cellsOf 22 = 1:=by kernel_rfl
theorem cells_hd : Try.prog.cellsOf 90 = 4:=by kernel_rfl
theorem cells_hds : Try.prog.cellsOf 53 = 1:=by kernel_rfl
theorem cells_ins : Try.prog.cellsOf 63 = 6:=by kernel_rfl
theorem cells_inss : Try.prog.cellsOf 52 = 1:=by kernel_rfl
theorem cells_me : Try.prog.cellsOf 55 = 8:=by kernel_rfl
theorem cells_mes : Try.prog.cellsOf 23 = 1:=by kernel_rfl
theorem cells_fi : Try.prog.cellsOf 25 = 2:=by kernel_rfl
theorem at_struct {t : TypeId} {fs : Array Field} (ht : Try.prog.underlying t = some (.struct fs)) {fuel : Nat} {cs : List Value} {x : DataW H × List MemPlace} (h : DataW.trod enc Try.prog w 0 sp held fuel t cs = some x) :
    cs.length = Try.prog.cellsOf t ∧ ∃ n,∀ (i : Nat) (f : Field),fs[i]? = some f → ∃ y,DataW.trod enc Try.prog w 0 sp held n f.type ((cs.drop f.offset).take (Try.prog.cellsOf f.type)) = some y:=by
  obtain ⟨xs,n,_,_,hl,hx,hf⟩:=DataW.trod_struct ht h
  refine ⟨hl,n,fun i f hi=>?_⟩
  have:=hf i f hi
  have hlt : i < fs.size:=by
    rw [Array.getElem?_eq_some_iff] at hi;exact hi.1
  rw [List.getElem?_eq_getElem (by omega)] at this
  exact ⟨_,this⟩
theorem fld {fs : Array Field} {n : Nat} {cs : List Value} (hf : ∀ (i : Nat) (f : Field), fs[i]? = some f → ∃ y, DataW.trod enc Try.prog w 0 sp held n f.type ((cs.drop f.offset).take (Try.prog.cellsOf f.type)) = some y)
    (i off t k : Nat) (hk : Try.prog.cellsOf t = k) (h : ∃ f,fs[i]? = some f ∧ f.type = t ∧ f.offset = off) : ∃ y,DataW.trod enc Try.prog w 0 sp held n t ((cs.drop off).take k) = some y:=by
  obtain ⟨f,h1,h2,h3⟩:=h
  have:=hf i f h1
  rw [h2,h3,hk] at this
  exact this
theorem int_of {n : Nat} {v : Value} {y : DataW H × List MemPlace} (h : DataW.trod enc Try.prog w 0 sp held n 3 [v] = some y) : ∃ k,v = .int .i64 k ∧ Ok k:=by
  obtain ⟨k,hk,_,hw⟩:=DataW.trod_int Try.underlying3 h
  exact ⟨k,by simpa using hk,Ok.of_wf hw⟩
theorem int64_of {n : Nat} {v : Value} {y : DataW H × List MemPlace} (h : DataW.trod enc Try.prog w 0 sp held n 2 [v] = some y) : ∃ k,v = .int .i64 k ∧ Ok k:=by
  obtain ⟨k,hk,_,hw⟩:=DataW.trod_int Try.underlying2 h
  exact ⟨k,by simpa using hk,Ok.of_wf hw⟩
theorem ty_of {fuel : Nat} {cs : List Value} {x : DataW H × List MemPlace} (h : DataW.trod enc Try.prog w 0 sp held fuel 51 cs = some x) : ∃ t : D.Ty,cs = [.int .i64 t.kind,.int .i64 t.cls] ∧ Ok t.kind ∧ Ok t.cls:=by
  obtain ⟨hl,n,hf⟩:=at_struct Try.underlying51 h
  rw [cells_ty] at hl
  obtain ⟨c0,c1,rfl⟩:=len2 hl
  obtain ⟨y0,h0⟩:=fld hf 0 0 3 _ cells_int ⟨_,rfl,rfl,rfl⟩
  obtain ⟨y1,h1⟩:=fld hf 1 1 3 _ cells_int ⟨_,rfl,rfl,rfl⟩
  simp only [List.drop_zero,List.take_succ_cons,List.take_zero,List.drop_succ_cons] at h0 h1
  obtain ⟨k,rfl,hk⟩:=int_of h0
  obtain ⟨c,rfl,hc⟩:=int_of h1
  exact ⟨⟨k,c⟩,rfl,hk,hc⟩
theorem tys_of {fuel : Nat} {cs : List Value} {x : DataW H × List MemPlace} (h : DataW.trod enc Try.prog w 0 sp held fuel 49 cs = some x) : ∃ v l,cs = [v] ∧ Sl 2 ETy w w.heap.size v l :=
  Sl.of_trod Try.underlying49 cells_ty (by omega) (fun fuel b o cs x hb hc hl h=>by
    obtain ⟨t,rfl,h1,h2⟩:=ty_of h
    exact ⟨t,hc 0 (by omega),hc 1 (by omega),h1,h2⟩) h
theorem ints_of {fuel : Nat} {cs : List Value} {x : DataW H × List MemPlace} (h : DataW.trod enc Try.prog w 0 sp held fuel 61 cs = some x) : ∃ v l,cs = [v] ∧ Sl 1 EInt w w.heap.size v l :=
  Sl.of_trod Try.underlying61 cells_int (by omega) (fun fuel b o cs x hb hc hl h=>by
    obtain ⟨c0,rfl⟩:=len1 hl
    obtain ⟨k,rfl,hk⟩:=int_of h
    exact ⟨k,hc 0 (by omega),hk⟩) h
theorem cls_of {fuel : Nat} {cs : List Value} {x : DataW H × List MemPlace} (h : DataW.trod enc Try.prog w 0 sp held fuel 70 cs = some x) : ∃ (c : D.Cls) (v : Value),cs = [.int .i64 c.sup,v] ∧ Ok c.sup ∧ Sl 2 ETy w w.heap.size v c.fields:=by
  obtain ⟨hl,n,hf⟩:=at_struct Try.underlying70 h
  rw [cells_cls] at hl
  obtain ⟨c0,c1,rfl⟩:=len2 hl
  obtain ⟨y0,h0⟩:=fld hf 0 0 3 _ cells_int ⟨_,rfl,rfl,rfl⟩
  obtain ⟨y1,h1⟩:=fld hf 1 1 49 _ cells_tys ⟨_,rfl,rfl,rfl⟩
  simp only [List.drop_zero,List.take_succ_cons,List.take_zero,List.drop_succ_cons] at h0 h1
  obtain ⟨k,rfl,hk⟩:=int_of h0
  obtain ⟨v,l,hv,hs⟩:=tys_of h1
  simp only [List.cons.injEq,and_true] at hv
  subst hv
  exact ⟨⟨k,l⟩,_,rfl,hk,hs⟩
theorem clss_of {fuel : Nat} {cs : List Value} {x : DataW H × List MemPlace} (h : DataW.trod enc Try.prog w 0 sp held fuel 22 cs = some x) : ∃ v l,cs = [v] ∧ Sl 2 ECls w w.heap.size v l :=
  Sl.of_trod Try.underlying22 cells_cls (by omega) (fun fuel b o cs x hb hc hl h=>by
    obtain ⟨c,v,rfl,h1,h2⟩:=cls_of h
    exact ⟨c,hc 0 (by omega),h1,v,hc 1 (by omega),h2⟩) h
theorem hd_of {fuel : Nat} {cs : List Value} {x : DataW H × List MemPlace} (h : DataW.trod enc Try.prog w 0 sp held fuel 90 cs = some x) : ∃ d : D.Hd,cs = [.int .i64 d.lo,.int .i64 d.hi,.int .i64 d.go,.int .i64 d.cls] ∧ Ok d.lo ∧ Ok d.hi ∧ Ok d.go ∧ Ok d.cls:=by
  obtain ⟨hl,n,hf⟩:=at_struct Try.underlying90 h
  rw [cells_hd] at hl
  obtain ⟨c0,c1,c2,c3,rfl⟩:=len4 hl
  obtain ⟨y0,h0⟩:=fld hf 0 0 3 _ cells_int ⟨_,rfl,rfl,rfl⟩
  obtain ⟨y1,h1⟩:=fld hf 1 1 3 _ cells_int ⟨_,rfl,rfl,rfl⟩
  obtain ⟨y2,h2⟩:=fld hf 2 2 3 _ cells_int ⟨_,rfl,rfl,rfl⟩
  obtain ⟨y3,h3⟩:=fld hf 3 3 3 _ cells_int ⟨_,rfl,rfl,rfl⟩
  simp only [List.drop_zero,List.take_succ_cons,List.take_zero,List.drop_succ_cons] at h0 h1 h2 h3
  obtain ⟨k0,rfl,q0⟩:=int_of h0
  obtain ⟨k1,rfl,q1⟩:=int_of h1
  obtain ⟨k2,rfl,q2⟩:=int_of h2
  obtain ⟨k3,rfl,q3⟩:=int_of h3
  exact ⟨⟨k0,k1,k2,k3⟩,rfl,q0,q1,q2,q3⟩
theorem hds_of {fuel : Nat} {cs : List Value} {x : DataW H × List MemPlace} (h : DataW.trod enc Try.prog w 0 sp held fuel 53 cs = some x) : ∃ v l,cs = [v] ∧ Sl 4 EHd w w.heap.size v l :=
  Sl.of_trod Try.underlying53 cells_hd (by omega) (fun fuel b o cs x hb hc hl h=>by
    obtain ⟨t,rfl,h1,h2,h3,h4⟩:=hd_of h
    exact ⟨t,hc 0 (by omega),hc 1 (by omega),hc 2 (by omega),hc 3 (by omega),h1,h2,h3,h4⟩) h
theorem ins_of {fuel : Nat} {cs : List Value} {x : DataW H × List MemPlace} (h : DataW.trod enc Try.prog w 0 sp held fuel 63 cs = some x) : ∃ (i : D.Ins) (v : Value),cs = [.int .i64 i.op,.int .i64 i.a,.int .i64 i.b,.int .i64 i.c,.int .i64 i.n,v] ∧ (Ok i.op ∧ Ok i.a ∧ Ok i.b ∧ Ok i.c ∧ Ok i.n) ∧ Sl 1 EInt w w.heap.size v i.args:=by
  obtain ⟨hl,n,hf⟩:=at_struct Try.underlying63 h
  rw [cells_ins] at hl
  obtain ⟨c0,c1,c2,c3,c4,c5,rfl⟩:=len6 hl
  obtain ⟨y0,h0⟩:=fld hf 0 0 3 _ cells_int ⟨_,rfl,rfl,rfl⟩
  obtain ⟨y1,h1⟩:=fld hf 1 1 3 _ cells_int ⟨_,rfl,rfl,rfl⟩
  obtain ⟨y2,h2⟩:=fld hf 2 2 3 _ cells_int ⟨_,rfl,rfl,rfl⟩
  obtain ⟨y3,h3⟩:=fld hf 3 3 3 _ cells_int ⟨_,rfl,rfl,rfl⟩
  obtain ⟨y4,h4⟩:=fld hf 4 4 2 _ cells_int64 ⟨_,rfl,rfl,rfl⟩
  obtain ⟨y5,h5⟩:=fld hf 5 5 61 _ cells_ints ⟨_,rfl,rfl,rfl⟩
  simp only [List.drop_zero,List.take_succ_cons,List.take_zero,List.drop_succ_cons] at h0 h1 h2 h3 h4 h5
  obtain ⟨k0,rfl,q0⟩:=int_of h0
  obtain ⟨k1,rfl,q1⟩:=int_of h1
  obtain ⟨k2,rfl,q2⟩:=int_of h2
  obtain ⟨k3,rfl,q3⟩:=int_of h3
  obtain ⟨k4,rfl,q4⟩:=int64_of h4
  obtain ⟨v,l,hv,hs⟩:=ints_of h5
  simp only [List.cons.injEq,and_true] at hv
  subst hv
  exact ⟨⟨k0,k1,k2,k3,k4,l⟩,_,rfl,⟨q0,q1,q2,q3,q4⟩,hs⟩
theorem inss_of {fuel : Nat} {cs : List Value} {x : DataW H × List MemPlace} (h : DataW.trod enc Try.prog w 0 sp held fuel 52 cs = some x) : ∃ v l,cs = [v] ∧ Sl 6 EIns w w.heap.size v l :=
  Sl.of_trod Try.underlying52 cells_ins (by omega) (fun fuel b o cs x hb hc hl h=>by
    obtain ⟨i,v,rfl,h1,h2⟩:=ins_of h
    exact ⟨i,hc 0 (by omega),hc 1 (by omega),hc 2 (by omega),hc 3 (by omega),hc 4 (by omega),h1,v,hc 5 (by omega),h2⟩) h
theorem me_of {fuel : Nat} {cs : List Value} {x : DataW H × List MemPlace} (h : DataW.trod enc Try.prog w 0 sp held fuel 55 cs = some x) : ∃ (m : D.Me) (vp vc vh : Value), cs = [vp, .int .i64 m.ret.kind, .int .i64 m.ret.cls, .int .i64 m.stack, .int .i64 m.locals, .int .i64 m.regs, vc, vh] ∧
    (Ok m.ret.kind ∧ Ok m.ret.cls ∧ Ok m.stack ∧ Ok m.locals ∧ Ok m.regs) ∧ Sl 2 ETy w w.heap.size vp m.params ∧ Sl 6 EIns w w.heap.size vc m.code ∧ Sl 4 EHd w w.heap.size vh m.handlers:=by
  obtain ⟨hl,n,hf⟩:=at_struct Try.underlying55 h
  rw [cells_me] at hl
  obtain ⟨c0,c1,c2,c3,c4,c5,c6,c7,rfl⟩:=len8 hl
  obtain ⟨y0,h0⟩:=fld hf 0 0 49 _ cells_tys ⟨_,rfl,rfl,rfl⟩
  obtain ⟨y1,h1⟩:=fld hf 1 1 51 _ cells_ty ⟨_,rfl,rfl,rfl⟩
  obtain ⟨y2,h2⟩:=fld hf 2 3 3 _ cells_int ⟨_,rfl,rfl,rfl⟩
  obtain ⟨y3,h3⟩:=fld hf 3 4 3 _ cells_int ⟨_,rfl,rfl,rfl⟩
  obtain ⟨y4,h4⟩:=fld hf 4 5 3 _ cells_int ⟨_,rfl,rfl,rfl⟩
  obtain ⟨y5,h5⟩:=fld hf 5 6 52 _ cells_inss ⟨_,rfl,rfl,rfl⟩
  obtain ⟨y6,h6⟩:=fld hf 6 7 53 _ cells_hds ⟨_,rfl,rfl,rfl⟩
  simp only [List.drop_zero,List.take_succ_cons,List.take_zero,List.drop_succ_cons] at h0 h1 h2 h3 h4 h5 h6
  obtain ⟨v0,l0,hv0,hs0⟩:=tys_of h0
  obtain ⟨t,ht,ht1,ht2⟩:=ty_of h1
  obtain ⟨k2,rfl,q2⟩:=int_of h2
  obtain ⟨k3,rfl,q3⟩:=int_of h3
  obtain ⟨k4,rfl,q4⟩:=int_of h4
  obtain ⟨v5,l5,hv5,hs5⟩:=inss_of h5
  obtain ⟨v6,l6,hv6,hs6⟩:=hds_of h6
  simp only [List.cons.injEq,and_true] at hv0 ht hv5 hv6
  obtain ⟨rfl,rfl⟩:=ht
  subst hv0 hv5 hv6
  exact ⟨⟨l0,t,k2,k3,k4,l5,l6⟩,_,_,_,rfl,⟨ht1,ht2,q2,q3,q4⟩,hs0,hs5,hs6⟩
theorem mes_of {fuel : Nat} {cs : List Value} {x : DataW H × List MemPlace} (h : DataW.trod enc Try.prog w 0 sp held fuel 23 cs = some x) : ∃ v l,cs = [v] ∧ Sl 8 EMe w w.heap.size v l :=
  Sl.of_trod Try.underlying23 cells_me (by omega) (fun fuel b o cs x hb hc hl h=>by
    obtain ⟨m,vp,vc,vh,rfl,h1,h2,h3,h4⟩:=me_of h
    exact ⟨m,vp,vc,vh,hc 0 (by omega),hc 1 (by omega),hc 2 (by omega),hc 3 (by omega),hc 4 (by omega),hc 5 (by omega),hc 6 (by omega),hc 7 (by omega),h1,h2,h3,h4⟩) h
theorem fi_of {fuel : Nat} {cs : List Value} {x : DataW H × List MemPlace} (h : DataW.trod enc Try.prog w 0 sp held fuel 25 cs = some x) : ∃ (f : D.Fi) (vc vm : Value),cs = [vc,vm] ∧ Sl 2 ECls w w.heap.size vc f.classes ∧ Sl 8 EMe w w.heap.size vm f.methods:=by
  obtain ⟨hl,n,hf⟩:=at_struct Try.underlying25 h
  rw [cells_fi] at hl
  obtain ⟨c0,c1,rfl⟩:=len2 hl
  obtain ⟨y0,h0⟩:=fld hf 0 0 22 _ cells_clss ⟨_,rfl,rfl,rfl⟩
  obtain ⟨y1,h1⟩:=fld hf 1 1 23 _ cells_mes ⟨_,rfl,rfl,rfl⟩
  simp only [List.drop_zero,List.take_succ_cons,List.take_zero,List.drop_succ_cons] at h0 h1
  obtain ⟨v0,l0,hv0,hs0⟩:=clss_of h0
  obtain ⟨v1,l1,hv1,hs1⟩:=mes_of h1
  simp only [List.cons.injEq,and_true] at hv0 hv1
  subst hv0 hv1
  exact ⟨⟨l0,l1⟩,_,_,rfl,hs0,hs1⟩
set_option maxRecDepth 100000 in
theorem open_clss {r : Reach} {b0 : Nat} {v : Value} {d : DataW H} {ps : List MemPlace} (hval : Value.okWide Try.prog w r b0 22 v) (hd : DataW.Trod enc Try.prog w 0 sp held 22 v d ps) : ∃ l,Sl 2 ECls w w.heap.size v l:=by
  obtain ⟨a,n,c,rfl⟩:=okWide_slice Try.underlying22 hval
  obtain ⟨fuel,hf⟩:=hd
  obtain ⟨v,l,hv,hs⟩:=clss_of hf
  simp [Value.cells] at hv
  subst hv
  exact ⟨l,hs⟩
set_option maxRecDepth 100000 in
theorem open_file {r : Reach} {b0 : Nat} {v : Value} {d : DataW H} {ps : List MemPlace} (hval : Value.okWide Try.prog w r b0 25 v) (hd : DataW.Trod enc Try.prog w 0 sp held 25 v d ps) : ∃ f,VFi w w.heap.size v f:=by
  obtain ⟨cs,rfl,_⟩:=okWide_struct Try.underlying25 hval
  obtain ⟨fuel,hf⟩:=hd
  obtain ⟨f,vc,vm,hv,hs,hm⟩:=fi_of hf
  simp only [Value.cells] at hv
  refine ⟨f,vc,vm,?_,hs,hm⟩
  congr 1
  exact Array.toList_inj.1 (by simpa using hv)
end
end Rd
end Go.Proofs.Ytncmhenfgbcihab
namespace Go.Proofs.Ytncmhenfgbcihab
open Go.RowKit
set_option linter.unusedSimpArgs false
set_option linter.unusedVariables false
namespace Mem
open Num Rd D
theorem cell_lt {w : World} {b o : Nat} {v : Value} (h : w.cell? ⟨b,o,none⟩ = some v) : b < w.heap.size:=World.block_lt_of_cell? w _ h
structure Kp (X : Nat → Prop) (w w' : World) : Prop where
  os : w'.os = w.os
  tape : w'.tape = w.tape
  output : w'.output = w.output
  size : w.heap.size ≤ w'.heap.size
  block : ∀ k,k < w.heap.size → ¬ X k → w'.heap[k]? = w.heap[k]?
namespace Kp
variable {X Y : Nat → Prop} {w w' w'' : World}
theorem refl (X : Nat → Prop) (w : World) : Kp X w w:=⟨rfl,rfl,rfl,Nat.le_refl _,fun _ _ _=>rfl⟩
theorem trans (h : Kp X w w') (k : Kp Y w' w'') (hY : ∀ y,Y y → X y ∨ w.heap.size ≤ y) : Kp X w w'' :=
  ⟨k.os.trans h.os,k.tape.trans h.tape,k.output.trans h.output,Nat.le_trans h.size k.size,fun i hi hn=>(k.block i (Nat.lt_of_lt_of_le hi h.size) (fun hy=>(hY i hy).elim hn (fun h=>by omega))).trans (h.block i hi hn)⟩
theorem of_below {B : Nat} (h : Below B w w') (hB : w.heap.size ≤ B) : Kp X w w':=⟨h.os,h.tape,h.output,h.size,fun k hk _=>h.block k (by omega)⟩
theorem below (h : Kp X w w') {B : Nat} (h1 : B ≤ w.heap.size) (h2 : ∀ x,X x → B ≤ x) : Below B w w':=⟨h.os,h.tape,h.output,h.size,fun k hk=>h.block k (by omega) (fun hx=>by have:=h2 k hx;omega)⟩
theorem mono (h : Kp X w w') (hY : ∀ x,X x → Y x) : Kp Y w w':=⟨h.os,h.tape,h.output,h.size,fun k hk hn=>h.block k hk (fun hx=>hn (hY k hx))⟩
theorem alloc (h : Kp X w w') (o : Obj) : Kp X w (w'.alloc o):=h.trans (Y:=fun _=>False) (of_below ((Below.refl _ _).alloc (Nat.le_refl _) o) (Nat.le_refl _)) (fun _ h=>h.elim)
theorem drew (h : Kp X w w') : Kp X w w'.drew:=⟨h.os,h.tape,h.output,h.size,h.block⟩
theorem drewN (h : Kp X w w') (n : Nat) : Kp X w (w'.drewN n):=⟨h.os,h.tape,h.output,h.size,h.block⟩
theorem setCell (h : Kp X w w') {p : Addr} (hp : X p.block ∨ w.heap.size ≤ p.block) (u : Value) : Kp X w (w'.setCell p u) :=
  ⟨h.os,h.tape,h.output,by simpa [World.setCell] using h.size,fun k hk hn=>(Below.heap_setCell _ _ _ _ (fun e=>by
    rcases hp with hp | hp
    · rw [e] at hn;exact hn hp
    · omega)).trans (h.block k hk hn)⟩
theorem cell (h : Kp X w w') {c o : Nat} {v : Value} (hc : w.cell? ⟨c,o,none⟩ = some v) (h2 : ¬ X c) : w'.cell? ⟨c,o,none⟩ = some v :=
  (World.cell?_of_block (a:=⟨c,o,none⟩) (h.block c (cell_lt hc) h2)).trans hc
theorem frz (h : Kp X w w') {c o : Nat} {b : Bool} (hc : w.frozen? ⟨c,o,none⟩ = b) (hl : c < w.heap.size) (h2 : ¬ X c) : w'.frozen? ⟨c,o,none⟩ = b :=
  (World.frozen?_of_block (a:=⟨c,o,none⟩) (h.block c hl h2)).trans hc
theorem of_grown {row : Option Nat} (h : w.grownBy w' row) (hr : ∀ k,row = some k → X k) : Kp X w w':=⟨h.os,h.tape,h.output,h.size,fun k hk hn=>h.block k hk (fun e=>hn (hr k e.symm))⟩
theorem sl (h : Kp X w w') {α : Type} {size : Nat} {E : World → Nat → Nat → Nat → α → Prop} (hE : Mono E) {B : Nat} {v : Value} {l : List α} (hs : Sl size E w B v l) (hB : B ≤ w.heap.size) (hX : ∀ x,X x → B ≤ x) : Sl size E w' B v l:=hs.mono hE (h.below hB hX) (Nat.le_refl _)
end Kp
def Blk (w : World) (b : Nat) (vs : List Value) : Prop:=∀ j (h : j < vs.length),w.cell? ⟨b,j,none⟩ = some vs[j] ∧ w.frozen? ⟨b,j,none⟩ = false
theorem Blk.next {w w' : World} {b : Nat} {vs : List Value} (h : Blk w b vs) {X : Nat → Prop} (hk : Kp X w w') (hX : ¬ X b) : Blk w' b vs:=fun j hj =>
  ⟨hk.cell (h j hj).1 hX,hk.frz (h j hj).2 (cell_lt (h j hj).1) hX⟩
theorem Blk.lt {w : World} {b : Nat} {v : Value} {vs : List Value} (h : Blk w b (v :: vs)) : b < w.heap.size:=cell_lt (h 0 (by simp)).1
theorem Blk.far {w : World} {b : Nat} {vs : List Value} (h : Blk w b vs) {b2 o2 : Nat} (hne : b2 ≠ b) (x : Value) : Blk (w.setCell ⟨b2,o2,none⟩ x) b vs :=
  h.next (X:=fun k=>k = b2) (Kp.setCell (Kp.refl (fun k=>k = b2) w) (p:=⟨b2,o2,none⟩) (.inl rfl) x) (fun e=>hne e.symm)
theorem Blk.set {w : World} {b : Nat} {vs : List Value} (h : Blk w b vs) (k : Nat) (hk : k < vs.length) (x : Value) : Blk (w.setCell ⟨b,k,none⟩ x) b (vs.set k x):=fun j hj=>by
  have hj' : j < vs.length:=by simpa using hj
  obtain ⟨h1,h2⟩:=h j hj'
  obtain ⟨g1,g2⟩:=h k hk
  by_cases e : j = k
  · subst e
    rw [List.getElem_set_self]
    exact ⟨by go_simp,by rw [World.frozen?_setCell];exact h2⟩
  · have hne : ¬ ((⟨b,k,none⟩ : Addr) = ⟨b,j,none⟩):=by intro h;injection h with _ h;omega
    rw [List.getElem_set_ne (by omega)]
    exact ⟨by rw [World.cell?_setCell_other _ _ _ _ hne];exact h1,by rw [World.frozen?_setCell];exact h2⟩
theorem Blk.alloc {w : World} {b : Nat} {vs : List Value} (h : Blk w b vs) (o : Obj) : Blk (w.alloc o) b vs:=h.next (X:=fun _=>False) ((Kp.refl _ _).alloc o) (fun e=>e)
theorem Blk.drew {w : World} {b : Nat} {vs : List Value} (h : Blk w b vs) : Blk w.drew b vs:=h.next (X:=fun _=>False) (Kp.refl _ _).drew (fun e=>e)
theorem Blk.made (w : World) (cs : List Value) (t : TypeId) : Blk (w.alloc (.cells cs.toArray t)) w.heap.size cs:=fun j hj =>
  ⟨by rw [World.cell?_alloc_new];simp [hj],World.frozen?_alloc_new ..⟩
theorem row_keep {w w' : World} {base : Nat} {T : TypeId} {size n : Nat} {v : Value} {xs : List Value} {X : Nat → Prop} (h : w.ownsRow base T size v n xs) (hk : Kp X w w') (hX : ∀ g,v.ownBlock = some g → ¬ X g) : w'.ownsRow base T size v n xs:=by
  refine ⟨h.1,?_⟩
  rcases h.2 with hn | ⟨g,cap,cur,rfl,hbg,hg,rest⟩
  · exact .inl hn
  · exact .inr ⟨g,cap,cur,rfl,hbg,by rw [hk.block g (Array.getElem?_eq_some_iff.1 hg).1 (hX g rfl)];exact hg,rest⟩
theorem row_alloc {w : World} {base : Nat} {T : TypeId} {size n : Nat} {v : Value} {xs : List Value} (h : w.ownsRow base T size v n xs) (o : Obj) : (w.alloc o).ownsRow base T size v n xs:=h.alloc o
theorem row_drew {w : World} {base : Nat} {T : TypeId} {size n : Nat} {v : Value} {xs : List Value} (h : w.ownsRow base T size v n xs) : w.drew.ownsRow base T size v n xs:=row_keep (X:=fun _=>False) h (Kp.refl _ _).drew (fun _ _ h=>h)
theorem row_cell {w : World} {base : Nat} {T : TypeId} {size n g cap : Nat} {xs : List Value} (h : w.ownsRow base T size (.slice (some ⟨g,0,none⟩) n cap) n xs) {j : Nat} {u : Value} (hj : xs[j]? = some u) : w.cell? ⟨g,j,none⟩ = some u:=by
  have:=World.ownsRow.cells h (g:=g) rfl j u hj
  have hadd : (⟨g,0,none⟩ : Addr).add j = ⟨g,j,none⟩:=by unfold Addr.add;split <;> simp_all
  rw [hadd] at this;exact this
theorem row_free {w : World} {base : Nat} {T : TypeId} {size n g cap j : Nat} {xs : List Value} (h : w.ownsRow base T size (.slice (some ⟨g,0,none⟩) n cap) n xs) : w.frozen? ⟨g,j,none⟩ = false:=by
  rcases h.2 with hn | ⟨g',cap',cur,hv,_,hg,_⟩
  · exact absurd hn.1 (by simp)
  · simp only [Value.slice.injEq,Option.some.injEq,Addr.mk.injEq] at hv
    obtain ⟨⟨rfl,_⟩,_⟩:=hv
    simp [World.frozen?,hg]
theorem row_form {w : World} {base : Nat} {T : TypeId} {size n : Nat} {v : Value} {xs : List Value} (h : w.ownsRow base T size v n xs) (hn : 0 < n) : ∃ g cap,v = .slice (some ⟨g,0,none⟩) n cap ∧ n ≤ cap ∧ cap ≤ 9223372036854775807 ∧ base ≤ g ∧ g < w.heap.size:=by
  have hl:=World.ownsRow.lt h
  rcases h.2 with ⟨_,h0⟩ | ⟨g,cap,cur,rfl,hb,_,h1,h2,_⟩
  · omega
  · exact ⟨g,cap,rfl,h1,h2,hb,(hl g rfl).2⟩
theorem row_any {w : World} {base : Nat} {T : TypeId} {size n : Nat} {v : Value} {xs : List Value} (h : w.ownsRow base T size v n xs) : ∃ a cap,v = .slice a n cap:=by
  rcases h.2 with ⟨hv,h0⟩ | ⟨g,cap,cur,rfl,_⟩
  · subst h0;exact ⟨_,_,hv⟩
  · exact ⟨_,_,rfl⟩
theorem row_set {w : World} {base : Nat} {T : TypeId} {size n g cap : Nat} {xs : List Value} (h : w.ownsRow base T size (.slice (some ⟨g,0,none⟩) n cap) n xs) {j : Nat} (hj : j < xs.length) (u : Value) : (w.setCell ⟨g,j,none⟩ u).ownsRow base T size (.slice (some ⟨g,0,none⟩) n cap) n (xs.set j u):=by
  refine ⟨by simpa using h.1,?_⟩
  rcases h.2 with hn | ⟨g',cap',cur,hv,hb,hg,h1,h2,h3,h4⟩
  · exact absurd hn.1 (by simp)
  · simp only [Value.slice.injEq,Option.some.injEq,Addr.mk.injEq] at hv
    obtain ⟨⟨rfl,_⟩,_,rfl⟩:=hv
    refine .inr ⟨g,cap,cur.setIfInBounds j u,rfl,hb,?_,h1,h2,by simpa using h3,?_⟩
    · simp [World.setCell,Array.getElem?_modify,hg]
    · rw [Array.toList_setIfInBounds,List.take_set,h4]
end Mem
end Go.Proofs.Ytncmhenfgbcihab
namespace Go.Proofs.Ytncmhenfgbcihab
namespace Hier
open D Num
def ty (n : Int) (t : Ty) : Bool:=if t.kind = 1 ∨ t.kind = 2 then decide (t.cls = 0) else if t.kind = 3 then decide (0 ≤ t.cls ∧ t.cls < n) else false
def nil : Cls:=⟨0,[]⟩
def at' (l : List Cls) (i : Nat) : Cls:=l.getD i nil
def supOk (i : Nat) (s : Int) : Bool:=if i = 0 then decide (s = -1) else decide (0 ≤ s ∧ s < i)
def cls (n : Int) (i : Nat) (c : Cls) : Bool:=supOk i c.sup && decide (c.fields.length ≤ 6) && c.fields.all (ty n)
def may (l : List Cls) : Bool:=decide (4 ≤ l.length ∧ l.length ≤ 12) && (List.range l.length).all fun i=>cls l.length i (at' l i)
theorem at_eq {l : List Cls} {i : Nat} (h : i < l.length) : at' l i = l[i]:=by simp [at',h]
theorem may_iff (l : List Cls) : may l = true ↔ (4 ≤ l.length ∧ l.length ≤ 12) ∧ ∀ i (h : i < l.length),cls l.length i l[i] = true:=by
  unfold may
  rw [Bool.and_eq_true,decide_eq_true_eq,List.all_eq_true]
  constructor
  · rintro ⟨h1,h2⟩
    exact ⟨h1,fun i h=>by rw [← at_eq h];exact h2 i (by simpa using h)⟩
  · rintro ⟨h1,h2⟩
    exact ⟨h1, fun i h => by have h' : i < l.length := by simpa using h
                             rw [at_eq h'];exact h2 i h'⟩
theorem may_false_len {l : List Cls} (h : ¬ (4 ≤ l.length ∧ l.length ≤ 12)) : may l = false:=by
  rw [Bool.eq_false_iff];intro h';exact h ((may_iff l).1 h').1
theorem may_false_at {l : List Cls} {i : Nat} (h : i < l.length) (hc : cls l.length i l[i] = false) : may l = false:=by
  rw [Bool.eq_false_iff];intro h';rw [((may_iff l).1 h').2 i h] at hc;cases hc
def sup (l : List Cls) (c : Int) : Int:=(at' l c.toNat).sup
def Wf (l : List Cls) : Prop:=∀ i : Nat,i < l.length → -1 ≤ (at' l i).sup ∧ (at' l i).sup < i
theorem wf_of_may {l : List Cls} (h : may l = true) : Wf l:=by
  intro i hi
  have:=((may_iff l).1 h).2 i hi
  rw [at_eq hi]
  simp only [cls,supOk,Bool.and_eq_true] at this
  obtain ⟨⟨h1,_⟩,_⟩:=this
  split at h1 <;> simp only [decide_eq_true_eq] at h1 <;> omega
theorem sup_zero {l : List Cls} (h : may l = true) : sup l 0 = -1:=by
  obtain ⟨⟨h1,_⟩,h2⟩:=(may_iff l).1 h
  have:=h2 0 (by omega)
  simp only [cls,supOk,Bool.and_eq_true] at this
  rw [sup,show (0 : Int).toNat = 0 by rfl,at_eq (by omega)]
  simpa using this.1.1
theorem sup_ge {l : List Cls} (h : may l = true) {c : Int} (h0 : 0 < c) (hc : c < l.length) : 0 ≤ sup l c ∧ sup l c < c:=by
  obtain ⟨_,h2⟩:=(may_iff l).1 h
  have:=h2 c.toNat (by omega)
  simp only [cls,supOk,Bool.and_eq_true] at this
  rw [sup,at_eq (by omega)]
  have:=this.1.1
  rw [if_neg (by omega),decide_eq_true_eq] at this
  omega
def upN : Nat → List Cls → Int → List Int
  | 0,_,_=>[]
  | k + 1,l,c=>if 0 ≤ c ∧ c < l.length then c :: upN k l (sup l c) else []
def up (l : List Cls) (c : Int) : List Int:=upN (l.length + 1) l c
theorem upN_more {l : List Cls} (hw : Wf l) : ∀ (k m : Nat) (c : Int),c < k → c < m → upN k l c = upN m l c:=by
  intro k
  induction k with
  | zero =>
    intro m c h1 h2
    cases m with
    | zero=>rfl
    | succ m=>rw [upN,upN,if_neg (by omega)]
  | succ k ih =>
    intro m c h1 h2
    cases m with
    | zero=>rw [upN,upN,if_neg (by omega)]
    | succ m =>
      rw [upN,upN]
      split
      · rename_i h
        have:=hw c.toNat (by omega)
        rw [ih m (sup l c) (by unfold sup;omega) (by unfold sup;omega)]
      · rfl
theorem up_out {l : List Cls} {c : Int} (h : ¬ (0 ≤ c ∧ c < l.length)) : up l c = []:=by
  rw [up,upN,if_neg h]
theorem up_in {l : List Cls} (hw : Wf l) {c : Int} (h : 0 ≤ c ∧ c < l.length) : up l c = c :: up l (sup l c):=by
  have:=hw c.toNat (by omega)
  rw [up,upN,if_pos h]
  congr 1
  exact upN_more hw _ _ _ (by unfold sup;omega) (by unfold sup;omega)
theorem up_len {l : List Cls} (c : Int) : (up l c).length ≤ l.length + 1:=by
  unfold up
  have : ∀ (k : Nat) (c : Int),(upN k l c).length ≤ k:=by
    intro k
    induction k with
    | zero=>intro c;simp [upN]
    | succ k ih=>intro c;rw [upN];split <;> simp;exact ih _
  exact this _ _
def is (l : List Cls) (c d : Int) : Bool:=(up l c).contains d
def meet (l : List Cls) (c d : Int) : Int:=((up l c).find? fun x=>is l d x).getD (-1)
def below (l : List Cls) (c d : Int) : Bool:=may l && is l c d
def join (l : List Cls) (c d : Int) : Int:=if may l = false ∨ c < 0 ∨ d < 0 ∨ (l.length : Int) ≤ c ∨ (l.length : Int) ≤ d then -1 else meet l c d
theorem is_out {l : List Cls} {c d : Int} (h : ¬ (0 ≤ c ∧ c < l.length)) : is l c d = false:=by rw [is,up_out h];rfl
theorem is_in {l : List Cls} (hw : Wf l) {c d : Int} (h : 0 ≤ c ∧ c < l.length) : is l c d = (decide (d = c) || is l (sup l c) d):=by
  rw [is,up_in hw h,List.contains_cons,is]
  congr 1
def refN : Nat → List Cls → Int → Int → Int
  | 0,_,c,_=>c
  | k + 1,l,c,d=>if d < c then refN k l (sup l c) d else c
def refBelow (l : List Cls) (c d : Int) : Bool:=if c < 0 ∨ d < 0 ∨ (l.length : Int) ≤ c ∨ (l.length : Int) ≤ d then false else decide (refN (c.toNat + 1) l c d = d)
theorem is_le {l : List Cls} (hw : Wf l) : ∀ (k : Nat) (c d : Int),c < k → is l c d = true → 0 ≤ d ∧ d ≤ c:=by
  intro k
  induction k with
  | zero=>intro c d h1 h2;rw [is_out (by omega)] at h2;cases h2
  | succ k ih =>
    intro c d h1 h2
    by_cases h : 0 ≤ c ∧ c < l.length
    · rw [is_in hw h,Bool.or_eq_true,decide_eq_true_eq] at h2
      have:=hw c.toNat (by omega)
      rcases h2 with h2 | h2
      · omega
      · have:=ih (sup l c) d (by unfold sup;omega) h2
        unfold sup at this;omega
    · rw [is_out h] at h2;cases h2
theorem is_le' {l : List Cls} (hw : Wf l) {c d : Int} (h : is l c d = true) : 0 ≤ d ∧ d ≤ c:=is_le hw (c.toNat + 1) c d (by omega) h
theorem is_lt {l : List Cls} {c d : Int} (h : is l c d = true) : 0 ≤ c ∧ c < l.length:=by
  by_cases h' : 0 ≤ c ∧ c < l.length
  · exact h'
  · rw [is_out h'] at h;cases h
theorem refN_eq {l : List Cls} (hw : Wf l) : ∀ (k : Nat) (c d : Int),c < k → 0 ≤ d → c < l.length → decide (refN k l c d = d) = is l c d:=by
  intro k
  induction k with
  | zero=>intro c d h1 h2 _;rw [is_out (by omega),refN,decide_eq_false (by omega)]
  | succ k ih =>
    intro c d h1 h2 h3
    rw [refN]
    by_cases hlt : d < c
    · rw [if_pos hlt,is_in hw (by omega),show decide (d = c) = false from decide_eq_false (by omega),Bool.false_or]
      have:=hw c.toNat (by omega)
      exact ih _ _ (by unfold sup;omega) h2 (by unfold sup;omega)
    · rw [if_neg hlt]
      by_cases h0 : 0 ≤ c
      · rw [is_in hw (by omega)]
        by_cases e : d = c
        · subst e;simp
        · rw [decide_eq_false (by omega),decide_eq_false e,Bool.false_or]
          cases hi : is l (sup l c) d with
          | false=>rfl
          | true =>
            have:=is_le' hw hi
            have:=hw c.toNat (by omega)
            unfold sup at *;omega
      · rw [is_out (by omega),decide_eq_false (by omega)]
theorem refBelow_eq {l : List Cls} (hw : Wf l) (c d : Int) : refBelow l c d = is l c d:=by
  unfold refBelow
  split
  · rename_i h
    cases hi : is l c d with
    | false=>rfl
    | true =>
      have h1:=is_lt hi
      have h2:=is_le' hw hi
      omega
  · exact refN_eq hw _ _ _ (by omega) (by omega) (by omega)
def refJN (l : List Cls) (c d : Int) : Nat → Int
  | 0=>0
  | x + 1=>if refBelow l c (x + 1 : Nat) && refBelow l d (x + 1 : Nat) then ((x + 1 : Nat) : Int) else refJN l c d x
def refJoin (l : List Cls) (c d : Int) : Int:=if c < 0 ∨ d < 0 ∨ (l.length : Int) ≤ c ∨ (l.length : Int) ≤ d then -1 else refJN l c d (l.length - 1)
def Best (l : List Cls) (c d j : Int) : Prop:=is l c j = true ∧ is l d j = true ∧ ∀ x,is l c x = true → is l d x = true → x ≤ j
theorem Best.unique {l : List Cls} {c d j k : Int} (h : Best l c d j) (h' : Best l c d k) : j = k:=by
  have:=h.2.2 k h'.1 h'.2.1
  have:=h'.2.2 j h.1 h.2.1
  omega
theorem is_root {l : List Cls} (h : may l = true) : ∀ (k : Nat) (c : Int),c < k → 0 ≤ c → c < l.length → is l c 0 = true:=by
  have hw:=wf_of_may h
  intro k
  induction k with
  | zero=>intro c h1 h2;omega
  | succ k ih =>
    intro c h1 h2 h3
    rw [is_in hw ⟨h2,h3⟩]
    by_cases e : c = 0
    · subst e;simp
    · have:=sup_ge h (by omega) h3
      rw [ih (sup l c) (by omega) (by omega) (by omega),Bool.or_true]
theorem refJN_best {l : List Cls} (h : may l = true) {c d : Int} (hc : 0 ≤ c ∧ c < l.length) (hd : 0 ≤ d ∧ d < l.length) :
    ∀ x : Nat,(∀ y : Int,is l c y = true → is l d y = true → y ≤ x) → Best l c d (refJN l c d x):=by
  have hw:=wf_of_may h
  intro x
  induction x with
  | zero=>exact fun hm=>⟨is_root h (c.toNat + 1) c (by omega) hc.1 hc.2,is_root h (d.toNat + 1) d (by omega) hd.1 hd.2,fun y h1 h2=>hm y h1 h2⟩
  | succ x ih =>
    intro hm
    rw [refJN,refBelow_eq hw,refBelow_eq hw]
    split
    · rename_i hb
      rw [Bool.and_eq_true] at hb
      exact ⟨hb.1,hb.2,hm⟩
    · rename_i hb
      refine ih (fun y h1 h2=>?_)
      have:=hm y h1 h2
      by_cases e : y = ((x + 1 : Nat) : Int)
      · subst e;rw [h1,h2] at hb;simp at hb
      · omega
theorem refJoin_best {l : List Cls} (h : may l = true) {c d : Int} (hc : 0 ≤ c ∧ c < l.length) (hd : 0 ≤ d ∧ d < l.length) : Best l c d (refJoin l c d):=by
  rw [refJoin,if_neg (by omega)]
  refine refJN_best h hc hd _ (fun y h1 _=>?_)
  have:=is_le' (wf_of_may h) h1
  omega
theorem meet_out {l : List Cls} {c d : Int} (h : ¬ (0 ≤ c ∧ c < l.length)) : meet l c d = -1:=by rw [meet,up_out h];rfl
theorem meet_in {l : List Cls} (hw : Wf l) {c d : Int} (h : 0 ≤ c ∧ c < l.length) : meet l c d = if is l d c then c else meet l (sup l c) d:=by
  rw [meet,up_in hw h,List.find?_cons,meet]
  cases is l d c <;> rfl
theorem meet_best {l : List Cls} (h : may l = true) {d : Int} (hd : 0 ≤ d ∧ d < l.length) : ∀ (k : Nat) (c : Int),c < k → 0 ≤ c → c < l.length → Best l c d (meet l c d):=by
  have hw:=wf_of_may h
  intro k
  induction k with
  | zero=>intro c h1 h2;omega
  | succ k ih =>
    intro c h1 h2 h3
    rw [meet_in hw ⟨h2,h3⟩]
    split
    · rename_i hb
      refine ⟨by rw [is_in hw ⟨h2,h3⟩];simp,hb,fun x hx _=>(is_le' hw hx).2⟩
    · rename_i hb
      by_cases e : c = 0
      · subst e
        rw [is_root h (d.toNat + 1) d (by omega) hd.1 hd.2] at hb
        exact absurd rfl hb
      · have hs:=sup_ge h (by omega) h3
        obtain ⟨h4,h5,h6⟩:=ih (sup l c) (by omega) hs.1 (by omega)
        refine ⟨by rw [is_in hw ⟨h2,h3⟩,h4,Bool.or_true],h5,fun x h7 h8=>h6 x ?_ h8⟩
        rw [is_in hw ⟨h2,h3⟩,Bool.or_eq_true,decide_eq_true_eq] at h7
        rcases h7 with h7 | h7
        · subst h7;exact absurd h8 hb
        · exact h7
theorem join_best {l : List Cls} (h : may l = true) {c d : Int} (hc : 0 ≤ c ∧ c < l.length) (hd : 0 ≤ d ∧ d < l.length) : Best l c d (meet l c d):=meet_best h hd (c.toNat + 1) c (by omega) hc.1 hc.2
theorem join_eq {l : List Cls} (h : may l = true) (c d : Int) : join l c d = refJoin l c d:=by
  unfold join refJoin
  by_cases h' : c < 0 ∨ d < 0 ∨ (l.length : Int) ≤ c ∨ (l.length : Int) ≤ d
  · rw [if_pos (.inr h'),if_pos h']
  · have:=(join_best h (c:=c) (d:=d) (by omega) (by omega)).unique (refJoin_best h (c:=c) (d:=d) (by omega) (by omega))
    rw [refJoin,if_neg h'] at this
    rw [if_neg h',if_neg (by rw [h];simp;omega)]
    exact this
theorem meet_eq {l : List Cls} (h : may l = true) {c d : Int} (hc : 0 ≤ c ∧ c < l.length) (hd : 0 ≤ d ∧ d < l.length) : meet l c d = refJoin l c d :=
  (join_best h hc hd).unique (refJoin_best h hc hd)
theorem is_trans {l : List Cls} (hw : Wf l) : ∀ (k : Nat) (c d e : Int),c < k → is l c d = true → is l d e = true → is l c e = true:=by
  intro k
  induction k with
  | zero=>intro c d e h1 h2;rw [is_out (by omega)] at h2;cases h2
  | succ k ih =>
    intro c d e h1 h2 h3
    have hc:=is_lt h2
    rw [is_in hw hc,Bool.or_eq_true,decide_eq_true_eq] at h2
    rcases h2 with rfl | h2
    · exact h3
    · have:=hw c.toNat (by omega)
      rw [is_in hw hc,ih (sup l c) d e (by unfold sup;omega) h2 h3,Bool.or_true]
theorem is_total {l : List Cls} (hw : Wf l) : ∀ (k : Nat) (c d e : Int),c < k → is l c d = true → is l c e = true → d ≤ e → is l e d = true:=by
  intro k
  induction k with
  | zero=>intro c d e h1 h2;rw [is_out (by omega)] at h2;cases h2
  | succ k ih =>
    intro c d e h1 h2 h3 hle
    have hc:=is_lt h2
    have h3':=h3
    rw [is_in hw hc,Bool.or_eq_true,decide_eq_true_eq] at h3
    rcases h3 with rfl | h3
    · exact h2
    · have hs:=hw c.toNat (by omega)
      have h2':=h2
      rw [is_in hw hc,Bool.or_eq_true,decide_eq_true_eq] at h2
      rcases h2 with rfl | h2
      · have:=is_le' hw h3
        unfold sup at *;omega
      · exact ih (sup l c) d e (by unfold sup;omega) h2 h3 hle
theorem is_join {l : List Cls} (h : may l = true) {c d e : Int} (hc : 0 ≤ c ∧ c < l.length) (hd : 0 ≤ d ∧ d < l.length) : (is l c e && is l d e) = is l (meet l c d) e:=by
  have hw:=wf_of_may h
  obtain ⟨h1,h2,h3⟩:=join_best h hc hd
  rw [Bool.eq_iff_iff,Bool.and_eq_true]
  constructor
  · rintro ⟨h4,h5⟩
    exact is_total hw (c.toNat + 1) c e _ (by omega) h4 h1 (h3 e h4 h5)
  · intro h4
    exact ⟨is_trans hw (c.toNat + 1) c _ e (by omega) h1 h4,is_trans hw (d.toNat + 1) d _ e (by omega) h2 h4⟩
theorem join_comm {l : List Cls} (h : may l = true) {c d : Int} (hc : 0 ≤ c ∧ c < l.length) (hd : 0 ≤ d ∧ d < l.length) : meet l c d = meet l d c:=by
  obtain ⟨h1,h2,h3⟩:=join_best h hc hd
  exact Best.unique ⟨h1,h2,h3⟩ (by
    obtain ⟨k1,k2,k3⟩:=join_best h hd hc
    exact ⟨k2,k1,fun x a b=>k3 x b a⟩)
theorem meet_range {l : List Cls} (h : may l = true) {c d : Int} (hc : 0 ≤ c ∧ c < l.length) (hd : 0 ≤ d ∧ d < l.length) : 0 ≤ meet l c d ∧ meet l c d < l.length:=by
  obtain ⟨h1,_,_⟩:=join_best h hc hd
  have:=is_le' (wf_of_may h) h1
  omega
end Hier
end Go.Proofs.Ytncmhenfgbcihab
namespace Go.Proofs.Ytncmhenfgbcihab
open Go.RowKit
namespace Form
open D Num
def slots : List Ty → Nat
  | []=>0
  | t :: l=>(if t.kind = 2 then 2 else 1) + slots l
theorem slots_snoc (l : List Ty) (t : Ty) : slots (l ++ [t]) = slots l + (if t.kind = 2 then 2 else 1):=by
  induction l with
  | nil=>simp [slots]
  | cons a l ih=>simp only [List.cons_append,slots,ih];omega
theorem slots_take {l : List Ty} {k : Nat} (h : k < l.length) : slots (l.take (k + 1)) = slots (l.take k) + (if l[k].kind = 2 then 2 else 1):=by
  rw [List.take_succ_eq_append_getElem h,slots_snoc]
theorem slots_le (l : List Ty) : slots l ≤ 2 * l.length:=by
  induction l with
  | nil=>simp [slots]
  | cons a l ih=>simp only [slots,List.length_cons];split <;> omega
theorem slots_ge (l : List Ty) : l.length ≤ slots l:=by
  induction l with
  | nil=>simp [slots]
  | cons a l ih=>simp only [slots,List.length_cons];split <;> omega
def wide (k : Int) : Int:=if k = 2 then 2 else 1
def rng (n lo hi : Int) : Bool:=decide (lo ≤ n ∧ n < hi)
def nf (l : List Cls) (c : Int) : Int:=(Hier.at' l c.toNat).fields.length
def hd (nc ncode : Int) (h : Hd) : Bool:=decide (0 ≤ h.lo ∧ h.lo < h.hi ∧ h.hi ≤ ncode) && rng h.go 0 ncode && rng h.cls 0 nc
def ret (nc : Int) (t : Ty) : Bool:=decide (t.kind = 0 ∧ t.cls = 0) || Hier.ty nc t
def head (nc : Int) (m : Me) (most : Int) : Bool :=
  m.params.all (Hier.ty nc) && m.handlers.all (hd nc m.code.length) && decide (m.params.length ≤ 4) && ret nc m.ret && rng m.code.length 1 (most + 1) && decide (m.handlers.length ≤ 8)
def sa (cl : List Cls) (nm ncode locals : Int) (i : Ins) : Bool :=
  if i.op = 4 ∨ i.op = 5 then rng i.a 0 (locals + 1 - wide i.b)
  else if i.op = 6 ∨ i.op = 7 then rng i.a 1 9
  else if i.op = 11 ∨ i.op = 12 ∨ i.op = 13 then rng i.a 0 ncode
  else if i.op = 14 ∨ i.op = 15 ∨ i.op = 16 ∨ i.op = 17 ∨ i.op = 18 then rng i.a 0 cl.length
  else if i.op = 19 then rng i.a 0 nm
  else if i.op = 24 then rng i.a 1 3
  else if 1 ≤ i.op ∧ i.op ≤ 25 then decide (i.a = 0)
  else false
def sb (cl : List Cls) (i : Ins) : Bool :=
  if i.op = 4 ∨ i.op = 5 then rng i.b 1 4
  else if i.op = 12 then rng i.b 1 5
  else if i.op = 15 ∨ i.op = 16 then rng i.a 0 cl.length && rng i.b 0 (nf cl i.a)
  else decide (i.b = 0)
def sn (i : Ins) : Bool :=
  if i.op = 1 then decide (wrap32 i.n = i.n) else if i.op = 2 then true else decide (i.n = 0)
def sins (cl : List Cls) (nm ncode locals : Int) (i : Ins) : Bool :=
  sa cl nm ncode locals i && sb cl i && sn i && decide (i.c = 0) && decide (i.args.length = 0)
def sme (f : Fi) (m : Me) : Bool :=
  head f.classes.length m 400 && decide (m.regs = 0) && rng m.stack 0 31 && rng m.locals (slots m.params) 61 && m.code.all (sins f.classes f.methods.length m.code.length m.locals)
def smay (f : Fi) : Bool:=Hier.may f.classes && rng f.methods.length 1 9 && f.methods.all (sme f)
theorem head_param {nc : Int} {m : Me} {most : Int} {k : Nat} (h : k < m.params.length) (hf : Hier.ty nc m.params[k] = false) : head nc m most = false:=by
  have : m.params.all (Hier.ty nc) = false:=by rw [List.all_eq_false];exact ⟨_,List.getElem_mem h,by rw [hf];simp⟩
  simp [head,this]
theorem head_hd {nc : Int} {m : Me} {most : Int} {k : Nat} (h : k < m.handlers.length) (hf : hd nc m.code.length m.handlers[k] = false) : head nc m most = false:=by
  have : m.handlers.all (hd nc m.code.length) = false:=by rw [List.all_eq_false];exact ⟨_,List.getElem_mem h,by rw [hf];simp⟩
  simp [head,this]
theorem all_of {α : Type} {l : List α} {p : α → Bool} (h : ∀ j (hj : j < l.length),p l[j] = true) : l.all p = true:=by
  rw [List.all_eq_true]
  intro x hx
  obtain ⟨j,hj,rfl⟩:=List.getElem_of_mem hx
  exact h j hj
theorem all_not {α : Type} {l : List α} {p : α → Bool} {k : Nat} (h : k < l.length) (hf : p l[k] = false) : l.all p = false:=by
  rw [List.all_eq_false];exact ⟨_,List.getElem_mem h,by rw [hf];simp⟩
theorem all_step {α : Type} {l : List α} {p : α → Bool} {k : Nat} (hall : ∀ j (h : j < l.length),j < k → p l[j] = true) (hlt : k < l.length) (hc : p l[k] = true) : ∀ j (h : j < l.length),j < k + 1 → p l[j] = true:=fun j h hj=>by
  by_cases e : j = k
  · subst e;exact hc
  · exact hall j h (by omega)
theorem head_rest {nc : Int} {m : Me} {most : Int} (h1 : m.params.all (Hier.ty nc) = true) (h2 : m.handlers.all (hd nc m.code.length) = true) :
    head nc m most = (decide (m.params.length ≤ 4) && ret nc m.ret && rng m.code.length 1 (most + 1) && decide (m.handlers.length ≤ 8)):=by
  simp only [head,h1,h2,Bool.true_and]
end Form
end Go.Proofs.Ytncmhenfgbcihab
namespace Go.Proofs.Ytncmhenfgbcihab
open Go.RowKit
set_option linter.unusedVariables false
namespace Run
open D Num
structure Vl where
  kind : Int
  n : Int
def Vl.nil : Vl:=⟨0,0⟩
structure Ob where
  cls : Int
  held : List ((Int × Int) × Vl)
structure Hp where
  objs : List Ob
  out : List Int
  used : Nat
  steps : Nat
inductive Res (α : Type) where
  | ok (a : α) (h : Hp)
  | thrown (o : Nat) (h : Hp)
  | stop (e : Int) (h : Hp)
def Res.bind {α β : Type} (r : Res α) (k : α → Hp → Res β) : Res β :=
  match r with
  | .ok a h=>k a h
  | .thrown o h=>.thrown o h
  | .stop e h=>.stop e h
def ftype (l : List Cls) (c k : Int) : Ty:=(Hier.at' l c.toNat).fields.getD k.toNat ⟨0,0⟩
def zero (t : Ty) : Vl:=if t.kind = 3 then ⟨3,-1⟩ else ⟨t.kind,0⟩
def fieldsOf (c : Nat) (l : List Ty) : List ((Int × Int) × Vl):=(List.range l.length).map fun (k : Nat)=>(((c : Int),(k : Int)),zero (l.getD k ⟨0,0⟩))
def fresh (l : List Cls) (class_ : Int) : List ((Int × Int) × Vl):=(List.range l.length).flatMap fun (c : Nat)=>if Hier.is l class_ c then fieldsOf c (Hier.at' l c).fields else []
def obj (h : Hp) (n : Int) : Ob:=h.objs.getD n.toNat ⟨0,[]⟩
def find (l : List ((Int × Int) × Vl)) (k : Int × Int) : Vl:=((l.find? fun x=>decide (x.1 = k)).map (·.2)).getD Vl.nil
def become (l : List ((Int × Int) × Vl)) (k : Int × Int) (v : Vl) : List ((Int × Int) × Vl):=l.map fun x=>if x.1 = k then (k,v) else x
def new (l : List Cls) (class_ : Int) (h : Hp) : Res Vl :=
  if 100 ≤ h.objs.length then .stop 4 h else .ok ⟨3,h.objs.length⟩ { h with objs:=h.objs ++ [⟨class_,fresh l class_⟩] }
def raise {α : Type} (l : List Cls) (class_ : Int) (h : Hp) : Res α :=
  (new l class_ h).bind fun v h=>.thrown v.n.toNat h
def ofT (l : List Cls) (h : Hp) (v : Vl) (t : Ty) : Bool :=
  decide (v.kind = t.kind) && (decide (t.kind ≠ 3) || decide (v.n < 0) || Hier.is l (obj h v.n).cls t.cls)
def throw {α : Type} (l : List Cls) (v : Vl) (h : Hp) : Res α :=
  if v.kind ≠ 3 then .stop 6 h else if v.n < 0 then raise l 1 h else .thrown v.n.toNat h
def get (l : List Cls) (ref : Vl) (class_ field : Int) (h : Hp) : Res Vl :=
  if ofT l h ref ⟨3,class_⟩ = false then .stop 6 h else if ref.n < 0 then raise l 1 h else .ok (find (obj h ref.n).held (class_,field)) h
def put (l : List Cls) (ref : Vl) (class_ field : Int) (v : Vl) (t : Ty) (h : Hp) : Res Unit :=
  if ofT l h v t = false then .stop 6 h else if ofT l h ref ⟨3,class_⟩ = false then .stop 6 h else if ref.n < 0 then raise l 1 h
  else .ok () { h with objs:=h.objs.set ref.n.toNat ⟨(obj h ref.n).cls,become (obj h ref.n).held (class_,field) v⟩ }
def cast (l : List Cls) (v : Vl) (class_ : Int) (h : Hp) : Res Unit :=
  if v.kind ≠ 3 then .stop 6 h else if ofT l h v ⟨3,class_⟩ = false then raise l 3 h else .ok () h
def isV (l : List Cls) (v : Vl) (class_ : Int) (h : Hp) : Res Vl :=
  if v.kind ≠ 3 then .stop 6 h else .ok ⟨1,if 0 ≤ v.n ∧ Hier.is l (obj h v.n).cls class_ = true then 1 else 0⟩ h
def numOf (kind op a b : Int) : Int × Bool:=if kind = 1 then Num.int op a b else Num.long op a b
def reckon (l : List Cls) (a b : Vl) (kind op : Int) (h : Hp) : Res Vl :=
  if a.kind ≠ kind ∨ b.kind ≠ kind then .stop 6 h else if (numOf kind op a.n b.n).2 = false then raise l 2 h else .ok ⟨kind,(numOf kind op a.n b.n).1⟩ h
def emit (v : Vl) (kind : Int) (h : Hp) : Res Unit :=
  if v.kind ≠ kind then .stop 6 h else .ok () { h with out:=h.out ++ [v.n] }
def takeIn (input : List Int) (h : Hp) : Res Vl :=
  if input.length ≤ h.used then .stop 3 h else .ok ⟨2,input.getD h.used 0⟩ { h with used:=h.used + 1 }
def lose (l : List Vl) (at_ : Nat) : List Vl :=
  if (l.getD at_ Vl.nil).kind = 9 then (l.set (at_ - 1) Vl.nil).set at_ Vl.nil
  else if (l.getD at_ Vl.nil).kind = 2 then (l.set (at_ + 1) Vl.nil).set at_ Vl.nil
  else l.set at_ Vl.nil
def store (l : List Vl) (at_ : Nat) (v : Vl) : List Vl :=
  if v.kind = 2 then ((lose (lose l at_) (at_ + 1)).set (at_ + 1) ⟨9,0⟩).set at_ v else (lose l at_).set at_ v
def width (v : Vl) : Nat:=if v.kind = 2 then 2 else 1
def size : List Vl → Nat
  | []=>0
  | v :: l=>width v + size l
def stores : List Vl → Nat → List Vl → List Vl
  | l,_,[]=>l
  | l,at_,v :: vs=>stores (store l at_ v) (at_ + width v) vs
inductive Act (Fr : Type) where
  | go (fr : Fr) (h : Hp)
  | back (v : Vl) (h : Hp)
  | thrown (o : Nat) (h : Hp)
  | stop (e : Int) (h : Hp)
  | call (k : Nat) (args : List Vl) (fr : Fr) (h : Hp)
def Res.act {α Fr : Type} (r : Res α) (k : α → Hp → Act Fr) : Act Fr :=
  match r with
  | .ok a h=>k a h
  | .thrown o h=>.thrown o h
  | .stop e h=>.stop e h
structure Mach (Fr : Type) where
  at_ : Fr → Nat
  enter : Me → List Vl → Fr
  step : Fi → List Int → Me → Ins → Fr → Hp → Act Fr
  resume : Me → Me → Fr → Vl → Option Fr
  caught : Me → Fr → Nat → Nat → Option Fr
def nilMe : Me:=⟨[],⟨0,0⟩,0,0,0,[],[]⟩
def meAt (f : Fi) (k : Nat) : Me:=f.methods.getD k nilMe
def handler (l : List Cls) (m : Me) (at_ : Nat) (cls : Int) : Option Hd:=m.handlers.find? fun x=>decide (x.lo ≤ at_) && decide ((at_ : Int) < x.hi) && Hier.is l cls x.cls
def allOf (l : List Cls) (h : Hp) : List Vl → List Ty → Bool
  | v :: vs,t :: ts=>ofT l h v t && allOf l h vs ts
  | _,[]=>true
  | [],_ :: _=>false
inductive Next (Fr : Type) where
  | go (fr : Fr)
  | thrown
  | stuck
def after {Fr : Type} (M : Mach Fr) (f : Fi) (m : Me) (fr : Fr) (o : Nat) (h : Hp) : Next Fr :=
  match handler f.classes m (M.at_ fr) (obj h o).cls with
  | none=>.thrown
  | some x=>match M.caught m fr x.go.toNat o with
    | none=>.stuck
    | some fr=>.go fr
def loop {Fr : Type} (M : Mach Fr) (f : Fi) (input : List Int) (fuel : Nat) : Nat → Nat → Me → Fr → Hp → Res Vl
  | 0,_,_,_,h=>.stop 0 h
  | g + 1,d,m,fr,h =>
    if fuel ≤ h.steps then .stop 0 h
    else match m.code[M.at_ fr]? with
    | none=>.stop 6 { h with steps:=h.steps + 1 }
    | some i=>match M.step f input m i fr { h with steps:=h.steps + 1 } with
      | .stop e h=>.stop e h
      | .back v h=>.ok v h
      | .go fr h=>loop M f input fuel g d m fr h
      | .thrown o h=>match after M f m fr o h with
        | .go fr=>loop M f input fuel g d m fr h
        | .thrown=>.thrown o h
        | .stuck=>.stop 6 h
      | .call k args fr h =>
        if allOf f.classes h args (meAt f k).params = false then .stop 6 h
        else if 20 ≤ d then .stop 5 h
        else match loop M f input fuel g (d + 1) (meAt f k) (M.enter (meAt f k) args) h with
          | .stop e h=>.stop e h
          | .ok v h=>match M.resume m (meAt f k) fr v with
            | none=>.stop 6 h
            | some fr=>loop M f input fuel g d m fr h
          | .thrown o h=>match after M f m fr o h with
            | .go fr=>loop M f input fuel g d m fr h
            | .thrown=>.thrown o h
            | .stuck=>.stop 6 h
def call {Fr : Type} (M : Mach Fr) (f : Fi) (input : List Int) (fuel g d : Nat) (m : Me) (args : List Vl) (h : Hp) : Res Vl :=
  if allOf f.classes h args m.params = false then .stop 6 h
  else if 20 ≤ d then .stop 5 h
  else loop M f input fuel g (d + 1) m (M.enter m args) h
theorem loop_call {Fr : Type} (M : Mach Fr) (f : Fi) (input : List Int) (fuel g d : Nat) (m : Me) (fr : Fr) (h : Hp) (hs : h.steps < fuel) {i : Ins} (hi : m.code[M.at_ fr]? = some i) {k : Nat} {args : List Vl} {fr' : Fr} {h' : Hp}
    (hst : M.step f input m i fr { h with steps:=h.steps + 1 } = .call k args fr' h') :
    loop M f input fuel (g + 1) d m fr h = match call M f input fuel g d (meAt f k) args h' with
      | .stop e h=>.stop e h
      | .ok v h=>match M.resume m (meAt f k) fr' v with
        | none=>.stop 6 h
        | some fr=>loop M f input fuel g d m fr h
      | .thrown o h=>match after M f m fr' o h with
        | .go fr=>loop M f input fuel g d m fr h
        | .thrown=>.thrown o h
        | .stuck=>.stop 6 h:=by
  rw [loop,if_neg (by omega),hi]
  simp only [hst,call]
  cases allOf f.classes h' args (meAt f k).params
  · simp
  · by_cases hd : 20 ≤ d
    · simp [hd]
    · simp [hd]
structure Sh where
  fin : Int
  value : Int
  cls : Int
  out : List Int
  used : Int
  steps : Int
def Sh.nil : Sh:=⟨0,0,0,[],0,0⟩
def shown (r : Res Vl) : Sh :=
  match r with
  | .ok v h=>⟨1,if v.kind = 1 ∨ v.kind = 2 then v.n else 0,0,h.out,h.used,h.steps⟩
  | .thrown o h=>⟨2,0,(obj h o).cls,h.out,h.used,h.steps⟩
  | .stop e h=>⟨e,0,0,h.out,h.used,h.steps⟩
def argOf (t : Ty) (n : Int) : Vl:=if t.kind = 1 then ⟨1,wrap32 n⟩ else ⟨t.kind,n⟩
def begin_ (f : Fi) (entry : Int) (args input : List Int) (fuel : Int) : Int :=
  if entry < 0 ∨ (f.methods.length : Int) ≤ entry ∨ fuel < 0 ∨ 60000 < fuel then 4
  else if 1000 < input.length then 1
  else if args.length ≠ (meAt f entry.toNat).params.length ∨ (meAt f entry.toNat).params.any (fun t=>decide (t.kind = 3)) = true then 3
  else 0
def play {Fr : Type} (M : Mach Fr) (f : Fi) (entry : Int) (args input : List Int) (fuel : Int) : Sh × Int :=
  if begin_ f entry args input fuel ≠ 0 then (Sh.nil,begin_ f entry args input fuel)
  else (shown (call M f input fuel.toNat (fuel.toNat + 1) 0 (meAt f entry.toNat) (List.zipWith argOf (meAt f entry.toNat).params args) ⟨[],[],0,0⟩),0)
structure Sf where
  loc : List Vl
  stk : List Vl
  at_ : Nat
def top (l : List Vl) : Vl:=l.getLast?.getD Vl.nil
def push (m : Me) (fr : Sf) (st : List Vl) (v : Vl) (h : Hp) : Act Sf :=
  if (size (st ++ [v]) : Int) ≤ m.stack then .go ⟨fr.loc,st ++ [v],fr.at_ + 1⟩ h else .stop 6 h
def pop1 (fr : Sf) (h : Hp) (k : Vl → List Vl → Act Sf) : Act Sf :=
  if fr.stk = [] then .stop 6 h else k (top fr.stk) fr.stk.dropLast
def pop2 (fr : Sf) (h : Hp) (k : Vl → Vl → List Vl → Act Sf) : Act Sf :=
  pop1 fr h fun b st=>if st = [] then .stop 6 h else k (top st) b st.dropLast
def kindly (v : Vl) (kind : Int) (h : Hp) (k : Act Sf) : Act Sf:=if v.kind = kind then k else .stop 6 h
def on (fr : Sf) (st : List Vl) (at_ : Nat) : Sf:=⟨fr.loc,st,at_⟩
def s4 (m : Me) (i : Ins) (fr : Sf) (h : Hp) : Act Sf:=kindly (fr.loc.getD i.a.toNat Vl.nil) i.b h (push m fr fr.stk (fr.loc.getD i.a.toNat Vl.nil) h)
def s5 (i : Ins) (fr : Sf) (h : Hp) : Act Sf:=pop1 fr h fun v st=>kindly v i.b h (.go ⟨store fr.loc i.a.toNat v,st,fr.at_ + 1⟩ h)
def s67 (l : List Cls) (m : Me) (kind : Int) (i : Ins) (fr : Sf) (h : Hp) : Act Sf:=pop2 fr h fun a b st=>(reckon l a b kind i.a h).act fun v h=>push m fr st v h
def s8 (m : Me) (fr : Sf) (h : Hp) : Act Sf:=pop1 fr h fun v st=>kindly v 1 h (push m fr st ⟨2,v.n⟩ h)
def s9 (m : Me) (fr : Sf) (h : Hp) : Act Sf:=pop1 fr h fun v st=>kindly v 2 h (push m fr st ⟨1,wrap32 v.n⟩ h)
def s10 (m : Me) (fr : Sf) (h : Hp) : Act Sf:=pop2 fr h fun a b st=>kindly b 2 h (kindly a 2 h (push m fr st ⟨1,Num.cmp a.n b.n⟩ h))
def s12 (i : Ins) (fr : Sf) (h : Hp) : Act Sf:=pop1 fr h fun v st=>kindly v 1 h (.go (on fr st (if Num.holds i.b v.n then i.a.toNat else fr.at_ + 1)) h)
def s13 (i : Ins) (fr : Sf) (h : Hp) : Act Sf:=pop1 fr h fun v st=>kindly v 3 h (.go (on fr st (if v.n < 0 then i.a.toNat else fr.at_ + 1)) h)
def s14 (l : List Cls) (m : Me) (i : Ins) (fr : Sf) (h : Hp) : Act Sf:=(new l i.a h).act fun v h=>push m fr fr.stk v h
def s15 (l : List Cls) (m : Me) (i : Ins) (fr : Sf) (h : Hp) : Act Sf:=pop1 fr h fun v st=>(get l v i.a i.b h).act fun v h=>push m fr st v h
def s16 (l : List Cls) (i : Ins) (fr : Sf) (h : Hp) : Act Sf:=pop2 fr h fun r v st=>kindly r 3 h ((put l r i.a i.b v (ftype l i.a i.b) h).act fun _ h=>.go (on fr st (fr.at_ + 1)) h)
def s17 (l : List Cls) (m : Me) (i : Ins) (fr : Sf) (h : Hp) : Act Sf:=pop1 fr h fun v st=>(cast l v i.a h).act fun _ h=>push m fr st v h
def s18 (l : List Cls) (m : Me) (i : Ins) (fr : Sf) (h : Hp) : Act Sf:=pop1 fr h fun v st=>(isV l v i.a h).act fun v h=>push m fr st v h
def s19 (f : Fi) (i : Ins) (fr : Sf) (h : Hp) : Act Sf :=
  if fr.stk.length < (meAt f i.a.toNat).params.length then .stop 6 h
  else .call i.a.toNat (fr.stk.drop (fr.stk.length - (meAt f i.a.toNat).params.length)) (on fr (fr.stk.take (fr.stk.length - (meAt f i.a.toNat).params.length)) fr.at_) h
def s20 (l : List Cls) (m : Me) (fr : Sf) (h : Hp) : Act Sf :=
  if m.ret.kind = 0 then .back Vl.nil h else pop1 fr h fun v _=>if ofT l h v m.ret then .back v h else .stop 6 h
def s21 (l : List Cls) (fr : Sf) (h : Hp) : Act Sf:=pop1 fr h fun v _=>(throw l v h).act fun (_ : Unit) h=>.stop 6 h
def s22 (fr : Sf) (h : Hp) : Act Sf:=pop1 fr h fun _ st=>.go (on fr st (fr.at_ + 1)) h
def s23 (m : Me) (fr : Sf) (h : Hp) : Act Sf:=pop1 fr h fun v st=>if (size (st ++ [v,v]) : Int) ≤ m.stack then .go (on fr (st ++ [v,v]) (fr.at_ + 1)) h else .stop 6 h
def s24 (i : Ins) (fr : Sf) (h : Hp) : Act Sf:=pop1 fr h fun v st=>(emit v i.a h).act fun _ h=>.go (on fr st (fr.at_ + 1)) h
def s25 (m : Me) (input : List Int) (fr : Sf) (h : Hp) : Act Sf:=(takeIn input h).act fun v h=>push m fr fr.stk v h
def sstep (f : Fi) (input : List Int) (m : Me) (i : Ins) (fr : Sf) (h : Hp) : Act Sf :=
  if i.op = 1 then push m fr fr.stk ⟨1,i.n⟩ h
  else if i.op = 2 then push m fr fr.stk ⟨2,i.n⟩ h
  else if i.op = 3 then push m fr fr.stk ⟨3,-1⟩ h
  else if i.op = 4 then s4 m i fr h
  else if i.op = 5 then s5 i fr h
  else if i.op = 6 then s67 f.classes m 1 i fr h
  else if i.op = 7 then s67 f.classes m 2 i fr h
  else if i.op = 8 then s8 m fr h
  else if i.op = 9 then s9 m fr h
  else if i.op = 10 then s10 m fr h
  else if i.op = 11 then .go (on fr fr.stk i.a.toNat) h
  else if i.op = 12 then s12 i fr h
  else if i.op = 13 then s13 i fr h
  else if i.op = 14 then s14 f.classes m i fr h
  else if i.op = 15 then s15 f.classes m i fr h
  else if i.op = 16 then s16 f.classes i fr h
  else if i.op = 17 then s17 f.classes m i fr h
  else if i.op = 18 then s18 f.classes m i fr h
  else if i.op = 19 then s19 f i fr h
  else if i.op = 20 then s20 f.classes m fr h
  else if i.op = 21 then s21 f.classes fr h
  else if i.op = 22 then s22 fr h
  else if i.op = 23 then s23 m fr h
  else if i.op = 24 then s24 i fr h
  else if i.op = 25 then s25 m input fr h
  else .stop 6 h
def sresume (m callee : Me) (fr : Sf) (v : Vl) : Option Sf :=
  if callee.ret.kind = 0 then some (on fr fr.stk (fr.at_ + 1))
  else if (size (fr.stk ++ [v]) : Int) ≤ m.stack then some (on fr (fr.stk ++ [v]) (fr.at_ + 1)) else none
def scaught (m : Me) (fr : Sf) (at_ o : Nat) : Option Sf:=if 1 ≤ m.stack then some (on fr [⟨3,o⟩] at_) else none
def senter (m : Me) (args : List Vl) : Sf:=⟨stores (List.replicate m.locals.toNat Vl.nil) 0 args,[],0⟩
def SM : Mach Sf:=⟨Sf.at_,senter,sstep,sresume,scaught⟩
structure Rf where
  regs : List Vl
  at_ : Nat
  given : Vl
  got : Vl
def rd (fr : Rf) (a : Int) : Vl:=fr.regs.getD a.toNat Vl.nil
def rkind (v : Vl) (kind : Int) (h : Hp) (k : Act Rf) : Act Rf:=if v.kind = kind then k else .stop 6 h
def rgo (fr : Rf) (at_ : Nat) (h : Hp) : Act Rf:=.go ⟨fr.regs,at_,Vl.nil,Vl.nil⟩ h
def rset (fr : Rf) (a : Int) (v : Vl) (h : Hp) : Act Rf:=.go ⟨store fr.regs a.toNat v,fr.at_ + 1,Vl.nil,Vl.nil⟩ h
def rargs (fr : Rf) : List Int → List Ty → Option (List Vl)
  | _,[]=>some []
  | [],_ :: _=>none
  | a :: xs,t :: ts=>if (rd fr a).kind = t.kind then (rargs fr xs ts).map (rd fr a :: ·) else none
def r4 (i : Ins) (fr : Rf) (h : Hp) : Act Rf:=rkind (rd fr i.b) i.c h (rset fr i.a (rd fr i.b) h)
def r56 (l : List Cls) (kind : Int) (i : Ins) (fr : Rf) (h : Hp) : Act Rf:=(reckon l (rd fr i.b) (rd fr i.c) kind i.n h).act fun v h=>rset fr i.a v h
def r7 (i : Ins) (fr : Rf) (h : Hp) : Act Rf:=rkind (rd fr i.b) 1 h (rset fr i.a ⟨2,(rd fr i.b).n⟩ h)
def r8 (i : Ins) (fr : Rf) (h : Hp) : Act Rf:=rkind (rd fr i.b) 2 h (rset fr i.a ⟨1,wrap32 (rd fr i.b).n⟩ h)
def r9 (i : Ins) (fr : Rf) (h : Hp) : Act Rf:=rkind (rd fr i.b) 2 h (rkind (rd fr i.c) 2 h (rset fr i.a ⟨1,Num.cmp (rd fr i.b).n (rd fr i.c).n⟩ h))
def r11 (i : Ins) (fr : Rf) (h : Hp) : Act Rf:=rkind (rd fr i.c) 1 h (rgo fr (if Num.holds i.b (rd fr i.c).n then i.a.toNat else fr.at_ + 1) h)
def r12 (i : Ins) (fr : Rf) (h : Hp) : Act Rf:=rkind (rd fr i.c) 3 h (rgo fr (if (rd fr i.c).n < 0 then i.a.toNat else fr.at_ + 1) h)
def r13 (l : List Cls) (i : Ins) (fr : Rf) (h : Hp) : Act Rf:=(new l i.b h).act fun v h=>rset fr i.a v h
def r14 (l : List Cls) (i : Ins) (fr : Rf) (h : Hp) : Act Rf:=rkind (rd fr i.b) 3 h ((get l (rd fr i.b) i.c i.n h).act fun v h=>rset fr i.a v h)
def r15 (l : List Cls) (i : Ins) (fr : Rf) (h : Hp) : Act Rf:=rkind (rd fr i.b) 3 h (rkind (rd fr i.a) (ftype l i.c i.n).kind h ((put l (rd fr i.b) i.c i.n (rd fr i.a) (ftype l i.c i.n) h).act fun _ h=>rgo fr (fr.at_ + 1) h))
def r16 (l : List Cls) (i : Ins) (fr : Rf) (h : Hp) : Act Rf:=rkind (rd fr i.a) 3 h ((cast l (rd fr i.a) i.b h).act fun _ h=>rgo fr (fr.at_ + 1) h)
def r17 (l : List Cls) (i : Ins) (fr : Rf) (h : Hp) : Act Rf:=rkind (rd fr i.b) 3 h ((isV l (rd fr i.b) i.c h).act fun v h=>rset fr i.a v h)
def r18 (f : Fi) (i : Ins) (fr : Rf) (h : Hp) : Act Rf :=
  match rargs fr i.args (meAt f i.a.toNat).params with
  | none=>.stop 6 h
  | some args=>.call i.a.toNat args ⟨fr.regs,fr.at_,Vl.nil,Vl.nil⟩ h
def r19 (i : Ins) (fr : Rf) (h : Hp) : Act Rf:=rkind fr.given i.b h (rset fr i.a fr.given h)
def r20 (l : List Cls) (m : Me) (i : Ins) (fr : Rf) (h : Hp) : Act Rf :=
  if m.ret.kind = 0 then .back Vl.nil h else rkind (rd fr i.a) m.ret.kind h (if ofT l h (rd fr i.a) m.ret then .back (rd fr i.a) h else .stop 6 h)
def r21 (l : List Cls) (i : Ins) (fr : Rf) (h : Hp) : Act Rf:=rkind (rd fr i.a) 3 h ((throw l (rd fr i.a) h).act fun (_ : Unit) h=>.stop 6 h)
def r22 (i : Ins) (fr : Rf) (h : Hp) : Act Rf:=rkind fr.got 3 h (rset fr i.a fr.got h)
def r23 (i : Ins) (fr : Rf) (h : Hp) : Act Rf:=rkind (rd fr i.a) i.b h ((emit (rd fr i.a) i.b h).act fun _ h=>rgo fr (fr.at_ + 1) h)
def r24 (input : List Int) (i : Ins) (fr : Rf) (h : Hp) : Act Rf:=(takeIn input h).act fun v h=>rset fr i.a v h
def rstep (f : Fi) (input : List Int) (m : Me) (i : Ins) (fr : Rf) (h : Hp) : Act Rf :=
  if i.op = 1 then rset fr i.a ⟨1,i.n⟩ h
  else if i.op = 2 then rset fr i.a ⟨2,i.n⟩ h
  else if i.op = 3 then rset fr i.a ⟨3,-1⟩ h
  else if i.op = 4 then r4 i fr h
  else if i.op = 5 then r56 f.classes 1 i fr h
  else if i.op = 6 then r56 f.classes 2 i fr h
  else if i.op = 7 then r7 i fr h
  else if i.op = 8 then r8 i fr h
  else if i.op = 9 then r9 i fr h
  else if i.op = 10 then rgo fr i.a.toNat h
  else if i.op = 11 then r11 i fr h
  else if i.op = 12 then r12 i fr h
  else if i.op = 13 then r13 f.classes i fr h
  else if i.op = 14 then r14 f.classes i fr h
  else if i.op = 15 then r15 f.classes i fr h
  else if i.op = 16 then r16 f.classes i fr h
  else if i.op = 17 then r17 f.classes i fr h
  else if i.op = 18 then r18 f i fr h
  else if i.op = 19 then r19 i fr h
  else if i.op = 20 then r20 f.classes m i fr h
  else if i.op = 21 then r21 f.classes i fr h
  else if i.op = 22 then r22 i fr h
  else if i.op = 23 then r23 i fr h
  else if i.op = 24 then r24 input i fr h
  else .stop 6 h
def rresume (_ _ : Me) (fr : Rf) (v : Vl) : Option Rf:=some ⟨fr.regs,fr.at_ + 1,v,Vl.nil⟩
def rcaught (_ : Me) (fr : Rf) (at_ o : Nat) : Option Rf:=some ⟨fr.regs,at_,Vl.nil,⟨3,o⟩⟩
def renter (m : Me) (args : List Vl) : Rf:=⟨stores (List.replicate m.regs.toNat Vl.nil) 0 args,0,Vl.nil,Vl.nil⟩
def RM : Mach Rf:=⟨Rf.at_,renter,rstep,rresume,rcaught⟩
end Run
end Go.Proofs.Ytncmhenfgbcihab
