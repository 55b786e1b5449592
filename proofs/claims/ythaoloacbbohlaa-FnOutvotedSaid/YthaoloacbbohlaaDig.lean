/- The sponge of three lanes, as plain functions: a round, the bytes taken in, what is told; no program in sight. -/
import Derived.Laws.BitsLemmas
import Derived.WalkKit
import Derived.Deep.Draws
namespace Go.Proofs.Ythaoloacbbohlaa.Dig
open Go.RowKit
/-- A number's bits turned 13, 29, 41 places up. -/
def r13 (x : Int) : Int := Go.bits .or .u64 (IntKind.u64.wrap (x * 8192)) (x / 2251799813685248)
def r29 (x : Int) : Int := Go.bits .or .u64 (IntKind.u64.wrap (x * 536870912)) (x / 34359738368)
def r41 (x : Int) : Int := Go.bits .or .u64 (IntKind.u64.wrap (x * 2199023255552)) (x / 8388608)
/-- One round: the three lanes behind it. -/
def rnd0 (a b : Int) : Int := IntKind.u64.wrap (a + IntKind.u64.wrap (r13 b + 2654435761))
def rnd1 (b c a1 : Int) : Int := Go.bits .xor .u64 b (Go.bits .xor .u64 (r29 c) a1)
def rnd2 (c a1 b1 : Int) : Int := IntKind.u64.wrap (c + IntKind.u64.wrap (r41 a1 + Go.bits .xor .u64 b1 40503))
def rnd (s : Int × Int × Int) : Int × Int × Int := (rnd0 s.1 s.2.1, rnd1 s.2.1 s.2.2 (rnd0 s.1 s.2.1), rnd2 s.2.2 (rnd0 s.1 s.2.1) (rnd1 s.2.1 s.2.2 (rnd0 s.1 s.2.1)))
def rnds : Nat → Int × Int × Int → Int × Int × Int
  | 0, s => s
  | n + 1, s => rnds n (rnd s)
theorem rnds_succ (n : Nat) : ∀ s, rnds (n + 1) s = rnd (rnds n s) := by
  induction n with
  | zero => intro s; rfl
  | succ n ih => intro s; show rnds (n + 1) (rnd s) = _; rw [ih]; rfl
theorem rnds_add (m n : Nat) : ∀ s, rnds (m + n) s = rnds n (rnds m s) := by
  induction n with
  | zero => intro s; rfl
  | succ n ih => intro s; rw [← Nat.add_assoc, rnds_succ, rnds_succ, ih]
/-- A byte (or a count) goes into the first lane. -/
def mix (s : Int × Int × Int) (b : Int) : Int × Int × Int := (Go.bits .xor .u64 s.1 (IntKind.u64.wrap b), s.2.1, s.2.2)
def takes : List Int → Int × Int × Int → Int × Int × Int
  | [], s => s
  | b :: l, s => takes l (rnds 2 (mix s b))
theorem takes_snoc (l : List Int) (b : Int) : ∀ s, takes (l ++ [b]) s = rnds 2 (mix (takes l s) b) := by
  induction l with
  | nil => intro s; rfl
  | cons x l ih => intro s; exact ih _
/-- The state behind all bytes and their count, before the last rounds. -/
def taken (l : List Int) : Int × Int × Int := mix (takes l (1, 2, 3)) (l.length : Int)
/-- The lowest bits of the lanes. -/
def out (bits : Int) (s : Int × Int × Int) : Int := wrap64 (Go.bits .and .u64 (Go.bits .xor .u64 (Go.bits .xor .u64 s.1 s.2.1) s.2.2) (IntKind.u64.wrap (IntKind.u64.wrap (1 * 2 ^ min bits.toNat IntKind.u64.bits) - 1)))
/-- What is squeezed out: n numbers, two rounds between. -/
def squeeze (bits : Int) : Nat → Int × Int × Int → List Int
  | 0, _ => []
  | n + 1, s => out bits s :: squeeze bits n (rnds 2 s)
theorem squeeze_length (bits : Int) (n : Nat) : ∀ s, (squeeze bits n s).length = n := by
  induction n with
  | zero => intro s; rfl
  | succ n ih => intro s; simp [squeeze, ih]
theorem squeeze_snoc (bits : Int) (n : Nat) : ∀ s, squeeze bits n s ++ [out bits (rnds (2 * n) s)] = squeeze bits (n + 1) s := by
  induction n with
  | zero => intro s; rfl
  | succ n ih =>
    intro s
    have := ih (rnds 2 s)
    rw [← rnds_add, show 2 + 2 * n = 2 * (n + 1) by omega] at this
    show out bits s :: (squeeze bits n (rnds 2 s) ++ _) = _
    rw [this]
    rfl
theorem setCell_drewN (w : World) (n : Nat) (a : Addr) (v : Value) : (w.drewN n).setCell a v = (w.setCell a v).drewN n := rfl
theorem wrap_u64 (n : Int) : IntKind.u64.wrap n = n % 18446744073709551616 := by simp [IntKind.wrap, IntKind.bits, IntKind.signed]
theorem rnd0_left (a b : Int) : IntKind.u64.wrap (IntKind.u64.wrap (a + r13 b) + 2654435761) = rnd0 a b := by
  simp only [rnd0, wrap_u64]; omega
theorem xor_u64 (x y : Int) : Go.bits .xor .u64 x y = (((BitVec.ofInt 64 x ^^^ BitVec.ofInt 64 y).toNat : Nat) : Int) := by
  show IntKind.u64.wrap (((BitVec.ofInt 64 x ^^^ BitVec.ofInt 64 y).toNat : Nat) : Int) = _
  have := (BitVec.ofInt 64 x ^^^ BitVec.ofInt 64 y).isLt
  rw [wrap_u64]
  omega
theorem xor_assoc (x y z : Int) : Go.bits .xor .u64 (Go.bits .xor .u64 x y) z = Go.bits .xor .u64 x (Go.bits .xor .u64 y z) := by
  rw [xor_u64 x y, xor_u64 _ z, xor_u64 y z, xor_u64 x]
  simp only [BitVec.ofInt_natCast, BitVec.ofNat_toNat, BitVec.setWidth_eq, BitVec.xor_assoc]
theorem rnd1_left (b c a1 : Int) : Go.bits .xor .u64 (Go.bits .xor .u64 b (r29 c)) a1 = rnd1 b c a1 := xor_assoc _ _ _
theorem rnd2_left (c a1 b1 : Int) : IntKind.u64.wrap (IntKind.u64.wrap (c + r41 a1) + Go.bits .xor .u64 b1 40503) = rnd2 c a1 b1 := by
  simp only [rnd2, wrap_u64]; omega
/-- The digest of bytes; -1 where the bits or the length are not so. -/
def digest (bits : Int) (l : List Int) : Int := if 2 ≤ bits ∧ bits ≤ 60 then if l.length ≤ 4000 then out bits (rnds 6 (taken l)) else -1 else -1
/-- Squeeze's answer. -/
def squeezed (bits : Int) (l : List Int) (n : Int) : List Int × Bool := if (2 ≤ bits ∧ bits ≤ 60) ∧ l.length ≤ 4000 ∧ 1 ≤ n ∧ n ≤ 40 then (squeeze bits n.toNat (rnds 6 (taken l)), true) else ([], false)
theorem squeezed_length (bits : Int) (l : List Int) (n : Int) : (squeezed bits l n).1.length ≤ 40 := by
  unfold squeezed
  split
  · rw [squeeze_length]; omega
  · simp
theorem and_u64 (x y : Int) : Go.bits .and .u64 x y = (((BitVec.ofInt 64 x &&& BitVec.ofInt 64 y).toNat : Nat) : Int) := by
  show IntKind.u64.wrap (((BitVec.ofInt 64 x &&& BitVec.ofInt 64 y).toNat : Nat) : Int) = _
  have := (BitVec.ofInt 64 x &&& BitVec.ofInt 64 y).isLt
  rw [wrap_u64]
  omega
theorem two_pow_le (b : Nat) (h : b ≤ 60) : 2 ^ b ≤ 2 ^ 60 := Nat.pow_le_pow_right (by decide) h
theorem out_range (bits : Int) (h0 : 2 ≤ bits) (h1 : bits ≤ 60) (s : Int × Int × Int) : 0 ≤ out bits s ∧ out bits s < 2 ^ bits.toNat := by
  have hb : bits.toNat ≤ 60 := by omega
  have hp := two_pow_le bits.toNat hb
  have hp1 : 0 < 2 ^ bits.toNat := Nat.two_pow_pos _
  have e60 : (2 : Nat) ^ 60 = 1152921504606846976 := by decide
  have em : IntKind.u64.wrap (IntKind.u64.wrap (1 * 2 ^ min bits.toNat IntKind.u64.bits) - 1) = ((2 ^ bits.toNat - 1 : Nat) : Int) := by
    rw [Nat.min_eq_left (show bits.toNat ≤ IntKind.u64.bits by show bits.toNat ≤ 64; omega)]
    have ec : (2 : Int) ^ bits.toNat = ((2 ^ bits.toNat : Nat) : Int) := by simp
    rw [ec, wrap_u64, wrap_u64]
    omega
  unfold out
  rw [em, and_u64]
  generalize Go.bits .xor .u64 (Go.bits .xor .u64 s.1 s.2.1) s.2.2 = x
  have hle : (BitVec.ofInt 64 x &&& BitVec.ofInt 64 ((2 ^ bits.toNat - 1 : Nat) : Int)).toNat ≤ 2 ^ bits.toNat - 1 := by
    rw [BitVec.toNat_and, BitVec.ofInt_natCast, BitVec.toNat_ofNat]
    refine Nat.le_trans Nat.and_le_right ?_
    exact Nat.mod_le _ _
  have ec : (2 : Int) ^ bits.toNat = ((2 ^ bits.toNat : Nat) : Int) := by simp
  rw [ec]
  generalize (BitVec.ofInt 64 x &&& BitVec.ofInt 64 ((2 ^ bits.toNat - 1 : Nat) : Int)).toNat = y at hle
  unfold wrap64
  omega
theorem digest_range {bits : Int} {l : List Int} (h0 : 2 ≤ bits) (h1 : bits ≤ 60) (h : l.length ≤ 4000) : 0 ≤ digest bits l ∧ digest bits l < 2 ^ bits.toNat := by
  unfold digest
  rw [if_pos ⟨h0, h1⟩, if_pos h]
  exact out_range bits h0 h1 _
theorem digest_cases (bits : Int) (l : List Int) : (digest bits l = -1 ∧ ¬ ((2 ≤ bits ∧ bits ≤ 60) ∧ l.length ≤ 4000)) ∨ ((2 ≤ bits ∧ bits ≤ 60) ∧ l.length ≤ 4000 ∧ 0 ≤ digest bits l ∧ digest bits l < 2 ^ bits.toNat) := by
  by_cases h1 : 2 ≤ bits ∧ bits ≤ 60
  · by_cases h2 : l.length ≤ 4000
    · exact .inr ⟨h1, h2, digest_range h1.1 h1.2 h2⟩
    · refine .inl ⟨?_, fun h => h2 h.2⟩
      unfold digest
      rw [if_pos h1, if_neg h2]
  · refine .inl ⟨?_, fun h => h1 h.1⟩
    unfold digest
    rw [if_neg h1]
end Go.Proofs.Ythaoloacbbohlaa.Dig
