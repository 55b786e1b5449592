/- The field of 256 over natural numbers: products, powers, inverses; no program in sight. -/
namespace Go.Proofs.Ythaoloacbbohlaa
namespace Gf
set_option linter.unusedVariables false

def dbl (x : Nat) : Nat := if 2 * x > 255 then (2 * x) ^^^ 285 else 2 * x
def mulAux : Nat → Nat → Nat → Nat → Nat
  | 0, _, _, o => o
  | n + 1, x, y, o => mulAux n (dbl x) (y / 2) (if y % 2 = 1 then o ^^^ x else o)
def gm (a b : Nat) : Nat := mulAux 8 a b 0
def E : Nat → Nat
  | 0 => 1
  | n + 1 => dbl (E n)

theorem dbl_lt {x : Nat} (h : x < 256) : dbl x < 256 := by
  have : ∀ x : Fin 256, dbl x.1 < 256 := by decide +kernel
  exact this ⟨x, h⟩
theorem xor_lt {a b : Nat} (ha : a < 256) (hb : b < 256) : a ^^^ b < 256 := Nat.xor_lt_two_pow (n := 8) ha hb
theorem mulAux_lt (n : Nat) : ∀ x y o, x < 256 → o < 256 → mulAux n x y o < 256 := by
  induction n with
  | zero => intro x y o _ h; exact h
  | succ n ih =>
    intro x y o hx ho
    refine ih _ _ _ (dbl_lt hx) ?_
    split
    · exact xor_lt ho hx
    · exact ho
theorem gm_lt {a : Nat} (b : Nat) (ha : a < 256) : gm a b < 256 := mulAux_lt 8 a b 0 ha (by decide)

theorem mulAux_zero (n : Nat) : ∀ x o, mulAux n x 0 o = o := by
  induction n with
  | zero => intro x o; rfl
  | succ n ih => intro x o; simp [mulAux, ih]

-- dbl is linear
theorem dbl_eq {x : Nat} (h : x < 256) : dbl x = (2 * x) ^^^ (if x.testBit 7 then 285 else 0) := by
  have : ∀ x : Fin 256, dbl x.1 = (2 * x.1) ^^^ (if x.1.testBit 7 then 285 else 0) := by decide +kernel
  exact this ⟨x, h⟩
theorem two_mul_xor (a b : Nat) : 2 * (a ^^^ b) = (2 * a) ^^^ (2 * b) := by
  have := Nat.shiftLeft_xor_distrib (a := a) (b := b) (i := 1)
  simpa [Nat.shiftLeft_eq, Nat.mul_comm] using this
theorem xor_left_comm (a b c : Nat) : a ^^^ (b ^^^ c) = b ^^^ (a ^^^ c) := by rw [← Nat.xor_assoc, Nat.xor_comm a b, Nat.xor_assoc]
theorem xor_cancel (a b : Nat) : a ^^^ (a ^^^ b) = b := by rw [← Nat.xor_assoc, Nat.xor_self, Nat.zero_xor]
theorem dbl_xor {a b : Nat} (ha : a < 256) (hb : b < 256) : dbl (a ^^^ b) = dbl a ^^^ dbl b := by
  rw [dbl_eq ha, dbl_eq hb, dbl_eq (xor_lt ha hb), Nat.testBit_xor, two_mul_xor]
  cases a.testBit 7 <;> cases b.testBit 7 <;> simp only [Bool.xor_false, Bool.xor_true, Bool.not_true, Bool.not_false, if_true, if_false, Bool.false_eq_true, Nat.xor_zero, Nat.xor_assoc]
  · rw [Nat.xor_comm (2 * b) 285]
  · rw [xor_left_comm 285, Nat.xor_self, Nat.xor_zero]

-- the product is linear in its first factor's double
theorem mulAux_dbl (n : Nat) : ∀ x y o, x < 256 → o < 256 → mulAux n (dbl x) y (dbl o) = dbl (mulAux n x y o) := by
  induction n with
  | zero => intro x y o _ _; rfl
  | succ n ih =>
    intro x y o hx ho
    simp only [mulAux]
    by_cases h : y % 2 = 1
    · rw [if_pos h, if_pos h, ← dbl_xor ho hx]
      exact ih _ _ _ (dbl_lt hx) (xor_lt ho hx)
    · rw [if_neg h, if_neg h]
      exact ih _ _ _ (dbl_lt hx) ho
theorem gm_dbl {x : Nat} (y : Nat) (hx : x < 256) : gm (dbl x) y = dbl (gm x y) := by
  have := mulAux_dbl 8 x y 0 hx (by decide)
  exact this
theorem one_gm {y : Nat} (h : y < 256) : gm 1 y = y := by
  have : ∀ y : Fin 256, gm 1 y.1 = y.1 := by decide +kernel
  exact this ⟨y, h⟩
theorem E_lt (n : Nat) : E n < 256 := by
  induction n with
  | zero => decide
  | succ n ih => exact dbl_lt ih
theorem gm_E (i j : Nat) : gm (E i) (E j) = E (i + j) := by
  induction i with
  | zero => rw [Nat.zero_add]; exact one_gm (E_lt j)
  | succ i ih =>
    rw [show i + 1 + j = (i + j) + 1 by omega]
    show gm (dbl (E i)) (E j) = dbl (E (i + j))
    rw [gm_dbl _ (E_lt i), ih]
theorem E_255 : E 255 = 1 := by decide +kernel
theorem E_add (i j : Nat) (h : E i = E j) (m : Nat) : E (i + m) = E (j + m) := by
  rw [← gm_E, ← gm_E, h]
theorem E_period (n q : Nat) : E (n + 255 * q) = E n := by
  induction q with
  | zero => rfl
  | succ q ih =>
    rw [show n + 255 * (q + 1) = 255 + (n + 255 * q) by omega, E_add 255 0 E_255, Nat.zero_add, ih]
theorem E_mod (n : Nat) : E (n % 255) = E n := by
  have := E_period (n % 255) (n / 255)
  rw [Nat.mod_add_div] at this
  exact this.symm

-- logarithms: a table
def logs : List Nat := (List.range 256).map fun a => ((List.range 255).find? fun n => E n == a).getD 0
def findE : Nat → Nat → Nat → Nat → Nat   -- fuel, n, E n, a
  | 0, _, _, _ => 0
  | f + 1, n, e, a => if e = a then n else findE f (n + 1) (dbl e) a
def lg (a : Nat) : Nat := findE 255 0 1 a
theorem E_lg {a : Nat} (h : a < 256) (h0 : a ≠ 0) : E (lg a) = a ∧ lg a < 255 := by
  have key : ∀ f n a, E (findE f n (E n) a) = a ∧ n ≤ findE f n (E n) a ∧ findE f n (E n) a < n + f ∨ ∀ m, n ≤ m → m < n + f → E m ≠ a := by
    intro f
    induction f with
    | zero => intro n a; right; intro m h1 h2; omega
    | succ f ih =>
      intro n a
      by_cases e : E n = a
      · left; simp only [findE, if_pos e]; exact ⟨e, by omega, by omega⟩
      · simp only [findE, if_neg e]
        rcases ih (n + 1) a with h | h
        · left; exact ⟨h.1, by have := h.2.1; simp only [E] at this; omega, by have := h.2.2; simp only [E] at this; omega⟩
        · right; intro m h1 h2
          by_cases hm : m = n
          · subst hm; exact e
          · exact h m (by omega) (by omega)
  have all : ∀ a : Fin 256, a.1 ≠ 0 → findE 255 0 1 a.1 < 255 ∧ (a.1 = 1 ∨ findE 255 0 1 a.1 ≠ 0) := by decide +kernel
  rcases key 255 0 a with k | k
  · exact ⟨k.1, by have := k.2.2; rw [Nat.zero_add] at this; exact this⟩
  · exfalso
    have hs : ∀ a : Fin 256, a.1 ≠ 0 → (List.range 255).any (fun n => (E n == a.1)) = true := by decide +kernel
    have := hs ⟨a, h⟩ h0
    simp only [List.any_eq_true, List.mem_range, beq_iff_eq] at this
    obtain ⟨n, hn, he⟩ := this
    exact k n (by omega) (by omega) he
theorem E_ne (n : Nat) : E n ≠ 0 := by
  have h : ∀ n : Fin 255, E n.1 ≠ 0 := by decide +kernel
  rw [← E_mod]
  exact h ⟨n % 255, Nat.mod_lt _ (by decide)⟩
theorem E_inj {m n : Nat} (hm : m < 255) (hn : n < 255) (h : E m = E n) : m = n := by
  have key : ∀ n : Fin 255, lg (E n.1) = n.1 := by decide +kernel
  have a := key ⟨m, hm⟩
  have b := key ⟨n, hn⟩
  simp only at a b
  rw [← a, ← b, h]

theorem zero_gm (b : Nat) : gm 0 b = 0 := by
  have : ∀ n y, mulAux n 0 y 0 = 0 := by
    intro n
    induction n with
    | zero => intro y; rfl
    | succ n ih => intro y; simp [mulAux, dbl, ih]
  exact this 8 b
theorem gm_zero (a : Nat) : gm a 0 = 0 := mulAux_zero 8 a 0

theorem gm_comm {a b : Nat} (ha : a < 256) (hb : b < 256) : gm a b = gm b a := by
  by_cases h : a = 0
  · subst h; rw [zero_gm, gm_zero]
  by_cases k : b = 0
  · subst k; rw [zero_gm, gm_zero]
  rw [← (E_lg ha h).1, ← (E_lg hb k).1, gm_E, gm_E, Nat.add_comm]
theorem gm_assoc {a b c : Nat} (ha : a < 256) (hb : b < 256) (hc : c < 256) : gm (gm a b) c = gm a (gm b c) := by
  by_cases h : a = 0
  · subst h; rw [zero_gm, zero_gm, zero_gm]
  by_cases k : b = 0
  · subst k; rw [gm_zero, zero_gm, gm_zero]
  by_cases l : c = 0
  · subst l; rw [gm_zero, gm_zero, gm_zero]
  rw [← (E_lg ha h).1, ← (E_lg hb k).1, ← (E_lg hc l).1, gm_E, gm_E, gm_E, gm_E, Nat.add_assoc]
theorem gm_one {a : Nat} (h : a < 256) : gm a 1 = a := by rw [gm_comm h (by decide), one_gm h]
theorem gm_ne {a b : Nat} (ha : a < 256) (hb : b < 256) (h : a ≠ 0) (k : b ≠ 0) : gm a b ≠ 0 := by
  rw [← (E_lg ha h).1, ← (E_lg hb k).1, gm_E]; exact E_ne _

theorem xor_mod_two (a b : Nat) : (a ^^^ b) % 2 = (a % 2) ^^^ (b % 2) := Nat.xor_mod_two_pow (n := 1)
theorem xor_div_two (a b : Nat) : (a ^^^ b) / 2 = (a / 2) ^^^ (b / 2) := by
  have := Nat.shiftRight_xor_distrib (a := a) (b := b) (i := 1)
  simpa [Nat.shiftRight_eq_div_pow] using this
theorem mulAux_xor (n : Nat) : ∀ x y z o p, mulAux n x (y ^^^ z) (o ^^^ p) = mulAux n x y o ^^^ mulAux n x z p := by
  induction n with
  | zero => intro x y z o p; rfl
  | succ n ih =>
    intro x y z o p
    simp only [mulAux]
    rw [xor_div_two, xor_mod_two, ← ih]
    congr 1
    rcases Nat.mod_two_eq_zero_or_one y with hy | hy <;> rcases Nat.mod_two_eq_zero_or_one z with hz | hz <;> simp [hy, hz]
    · rw [Nat.xor_assoc]
    · rw [Nat.xor_assoc, Nat.xor_assoc, Nat.xor_comm p x]
    · rw [Nat.xor_assoc, ← Nat.xor_assoc x p x, Nat.xor_comm x p, Nat.xor_assoc p x x, Nat.xor_self, Nat.xor_zero]
theorem gm_xor (x y z : Nat) : gm x (y ^^^ z) = gm x y ^^^ gm x z := by
  have := mulAux_xor 8 x y z 0 0
  rw [Nat.xor_self] at this
  exact this
theorem xor_gm {x y z : Nat} (hx : x < 256) (hy : y < 256) (hz : z < 256) : gm (x ^^^ y) z = gm x z ^^^ gm y z := by
  rw [gm_comm (xor_lt hx hy) hz, gm_xor, gm_comm hz hx, gm_comm hz hy]

-- powers
def gp (a : Nat) : Nat → Nat
  | 0 => 1
  | n + 1 => gm (gp a n) a
theorem gp_lt {a : Nat} (ha : a < 256) (n : Nat) : gp a n < 256 := by
  induction n with
  | zero => exact (by decide : (1 : Nat) < 256)
  | succ n ih => exact gm_lt _ ih
theorem gp_E (i n : Nat) : gp (E i) n = E (i * n) := by
  induction n with
  | zero => rfl
  | succ n ih => show gm (gp (E i) n) (E i) = _; rw [ih, gm_E, Nat.mul_succ]
theorem gp_zero (n : Nat) : gp 0 (n + 1) = 0 := gm_zero _
theorem gp_mod {a : Nat} (ha : a < 256) (h0 : a ≠ 0) (n : Nat) : gp a (n % 255) = gp a n := by
  obtain ⟨e, _⟩ := E_lg ha h0
  rw [← e, gp_E, gp_E, ← E_mod (lg a * (n % 255)), ← E_mod (lg a * n)]
  congr 1
  rw [Nat.mul_mod, Nat.mod_mod, ← Nat.mul_mod]
theorem gp_add {a : Nat} (ha : a < 256) (m n : Nat) : gp a (m + n) = gm (gp a m) (gp a n) := by
  induction n with
  | zero => rw [Nat.add_zero]; exact (gm_one (gp_lt ha m)).symm
  | succ n ih =>
    show gm (gp a (m + n)) a = gm (gp a m) (gm (gp a n) a)
    rw [ih, gm_assoc (gp_lt ha m) (gp_lt ha n) ha]
theorem gp_sq {a : Nat} (ha : a < 256) (n : Nat) : gp (gm a a) n = gp a (2 * n) := by
  induction n with
  | zero => rfl
  | succ n ih =>
    show gm (gp (gm a a) n) (gm a a) = _
    have e2 : gp a 2 = gm a a := by
      simp only [gp]
      rw [one_gm ha]
    rw [ih, show 2 * (n + 1) = 2 * n + 2 by omega, gp_add ha (2 * n) 2, e2]
theorem two_pow {n : Nat} : gp 2 n = E n := by
  have : gp (E 1) n = E (1 * n) := gp_E 1 n
  rw [Nat.one_mul] at this
  exact this
def inv (a : Nat) : Nat := gp a 254
theorem inv_lt {a : Nat} (ha : a < 256) : inv a < 256 := gp_lt ha _
theorem gm_inv {a : Nat} (ha : a < 256) (h0 : a ≠ 0) : gm a (inv a) = 1 := by
  rw [gm_comm ha (inv_lt ha)]
  show gp a 255 = 1
  rw [← gp_mod ha h0 255]; rfl
theorem gp_period {a : Nat} (ha : a < 256) (h0 : a ≠ 0) (n : Nat) : gp a (n + 255) = gp a n := by
  rw [← gp_mod ha h0 (n + 255), Nat.add_mod_right, gp_mod ha h0]
end Gf
end Go.Proofs.Ythaoloacbbohlaa
