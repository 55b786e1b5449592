/- GfLagrange answers as the reference's GfLagrange, at every two lists of bytes (of at most 2^20 each) and every place. -/
import Derived.Test.YthaoloacbbohlaaPFnExactGfLagrangex
import Derived.Test.YthaoloacbbohlaaKit
import Derived.Test.YthaoloacbbohlaaGf
namespace Go.Proofs.Ythaoloacbbohlaa.Pure
open Go.RowKit Go.Proofs.Ythaoloacbbohlaa Go.Proofs.Ythaoloacbbohlaa.PFnExactGfLagrange Go.Proofs.YthaoloacbbohlaaW.PrintWords Go.Proofs.YthaoloacbbohlaaW.PrintLast Go.Proofs.YthaoloacbbohlaaW.PrintMore Go.Proofs.Ythaoloacbbohlaa.K
set_option linter.unusedVariables false

theorem toByteS_l0 (l : List Int) (hl : l.length ≤ 9223372036854775806) (n : Nat) : ∀ i : Nat, i + n = l.length →
    Ev (fun k => laws_toByteS.l0 k l (l.take i ++ List.replicate n 0) (i : Int)) l := by
  induction n with
  | zero =>
    intro i hi
    refine Ev.step (fun k => laws_toByteS.l0.eq_2 ..) ?_
    refine ev_neg (by omega) (ev_ret ?_)
    rw [List.replicate_zero, List.append_nil, List.take_of_length_le (by omega)]
  | succ n ih =>
    intro i hi
    refine Ev.step (fun k => laws_toByteS.l0.eq_2 ..) ?_
    have hlen : (l.take i).length = i := by rw [List.length_take]; omega
    refine ev_pos (by omega) (ev_pos (by omega) (ev_pos (by rw [List.length_append, hlen, List.length_replicate]; omega) ?_))
    rw [wr_succ (by omega), rd_nat, Int.toNat_natCast]
    have e := set_fill (l.take i) (l.getD i 0) 0 n
    rw [hlen, take_getD l 0 i (by omega)] at e
    rw [e]
    exact ih (i + 1) (by omega)
theorem toByteS (l : List Int) (hl : l.length ≤ 140737488355328) : Ev (fun k => laws_toByteS.f k l) l := by
  unfold laws_toByteS.f
  refine ev_pos (by omega) (ev_pos (by omega) ?_)
  have := toByteS_l0 l (by omega) l.length 0 (by omega)
  simpa using this
theorem eqByteS_l0 (l : List Int) (hl : l.length ≤ 9223372036854775806) (n : Nat) : ∀ i : Nat, i + n = l.length →
    Ev (fun k => laws_eqByteS.l0 k l l (i : Int)) true := by
  induction n with
  | zero =>
    intro i hi
    refine Ev.step (fun k => laws_eqByteS.l0.eq_2 ..) ?_
    exact ev_neg (by omega) (ev_ret rfl)
  | succ n ih =>
    intro i hi
    refine Ev.step (fun k => laws_eqByteS.l0.eq_2 ..) ?_
    refine ev_pos (by omega) (ev_pos (by omega) (ev_pos (by omega) (ev_pos rfl ?_)))
    rw [wr_succ (by omega)]
    exact ih (i + 1) (by omega)
theorem eqByteS (l : List Int) (hl : l.length ≤ 140737488355328) : Ev (fun k => laws_eqByteS.f k l l) true := by
  unfold laws_eqByteS.f
  exact ev_pos rfl (eqByteS_l0 l (by omega) l.length 0 (by omega))
theorem impl_mul_l0 (n : Nat) : ∀ (o x y : Nat), o < 256 → x < 256 → y < 2 ^ n → n ≤ 8 →
    Ev (fun k => impl_GfMul.l0 k (o : Int) (x : Int) (y : Int)) ((Gf.mulAux n x y o : Nat) : Int) := by
  induction n with
  | zero =>
    intro o x y ho hx hy _
    obtain rfl : y = 0 := by omega
    refine Ev.step (fun k => impl_GfMul.l0.eq_2 ..) ?_
    refine ev_neg (by omega) (ev_ret ?_)
    show (o : Int) % 256 = (o : Int)
    omega
  | succ n ih =>
    intro o x y ho hx hy hn
    have hy8 : y < 256 := Nat.lt_of_lt_of_le hy (Nat.pow_le_pow_right (by decide) hn : 2 ^ (n + 1) ≤ 2 ^ 8)
    refine Ev.step (fun k => impl_GfMul.l0.eq_2 ..) ?_
    by_cases h0 : y = 0
    · subst h0
      refine ev_neg (by omega) (ev_ret ?_)
      rw [Gf.mulAux_zero]
      omega
    refine ev_pos (by omega) ?_
    have e0 : Go.bits .and .i64 (y : Int) 1 = ((y % 2 : Nat) : Int) := odd64 (by omega)
    have e1 : wrap64 ((x : Int) * 2) = ((2 * x : Nat) : Int) := by rw [wr (by omega) (by omega)]; omega
    have e2 : Go.bits .xor .i64 (o : Int) (x : Int) = ((o ^^^ x : Nat) : Int) := xor64 (by omega) (by omega)
    have e3 : Go.bits .xor .i64 ((2 * x : Nat) : Int) 285 = (((2 * x) ^^^ 285 : Nat) : Int) := xor64 (b := 285) (by omega) (by omega)
    have e4 : ((y : Int) / 2) = ((y / 2 : Nat) : Int) := by omega
    simp only [e0, e1, e2, e3, e4]
    have hd := Gf.dbl_lt hx
    have hox := Gf.xor_lt ho hx
    have hy2 : y / 2 < 2 ^ n := by rw [Nat.pow_succ] at hy; omega
    simp only [Gf.mulAux]
    by_cases h1 : y % 2 = 1
    · refine ev_pos (by omega) ?_
      rw [if_pos h1]
      by_cases h2 : 2 * x > 255
      · refine ev_pos (by omega) ?_
        have := ih (o ^^^ x) (Gf.dbl x) (y / 2) hox hd hy2 (by omega)
        have e : Gf.dbl x = (2 * x) ^^^ 285 := if_pos h2
        rw [e] at this ⊢
        exact this
      · refine ev_neg (by omega) ?_
        have := ih (o ^^^ x) (Gf.dbl x) (y / 2) hox hd hy2 (by omega)
        have e : Gf.dbl x = 2 * x := if_neg h2
        rw [e] at this ⊢
        exact this
    · refine ev_neg (by omega) ?_
      rw [if_neg h1]
      by_cases h2 : 2 * x > 255
      · refine ev_pos (by omega) ?_
        have := ih o (Gf.dbl x) (y / 2) ho hd hy2 (by omega)
        have e : Gf.dbl x = (2 * x) ^^^ 285 := if_pos h2
        rw [e] at this ⊢
        exact this
      · refine ev_neg (by omega) ?_
        have := ih o (Gf.dbl x) (y / 2) ho hd hy2 (by omega)
        have e : Gf.dbl x = 2 * x := if_neg h2
        rw [e] at this ⊢
        exact this
theorem impl_mul {a b : Nat} (ha : a < 256) (hb : b < 256) : Ev (fun k => impl_GfMul.f k (a : Int) (b : Int)) ((Gf.gm a b : Nat) : Int) := by
  have := impl_mul_l0 8 0 a b (by decide) ha hb (by decide)
  unfold impl_GfMul.f
  rw [wrn (by omega), wrn (by omega)]
  exact this
theorem spec_mul_l0 (b : Nat) (hb : b < 256) (n : Nat) : ∀ (i o x : Nat), i + n = 8 → o < 256 → x < 256 →
    Ev (fun k => spec_GfMul.l0 k (b : Int) (x : Int) (o : Int) (i : Int)) ((Gf.mulAux n x (b / 2 ^ i) o : Nat) : Int) := by
  induction n with
  | zero =>
    intro i o x hi ho hx
    refine Ev.step (fun k => spec_GfMul.l0.eq_2 ..) ?_
    refine ev_neg (by omega) (ev_ret ?_)
    show (o : Int) % 256 = (o : Int)
    omega
  | succ n ih =>
    intro i o x hi ho hx
    refine Ev.step (fun k => spec_GfMul.l0.eq_2 ..) ?_
    refine ev_pos (by omega) (ev_pos (by omega) ?_)
    have e0 : Go.bits .and .i64 (shr .i64 (wrap64 (b : Int)) (i : Int)) 1 = ((b / 2 ^ i % 2 : Nat) : Int) := by
      have : shr .i64 (wrap64 (b : Int)) (i : Int) = ((b / 2 ^ i : Nat) : Int) := by
        unfold shr
        rw [wrn (by omega), Int.toNat_natCast, Nat.min_eq_left (show i ≤ IntKind.i64.bits by show i ≤ 64; omega)]
        simp
      rw [this]
      exact odd64 (Nat.lt_of_le_of_lt (Nat.div_le_self _ _) (by omega))
    have e1 : wrap64 ((x : Int) * 2) = ((2 * x : Nat) : Int) := by rw [wr (by omega) (by omega)]; omega
    have e2 : Go.bits .xor .i64 (o : Int) (x : Int) = ((o ^^^ x : Nat) : Int) := xor64 (by omega) (by omega)
    have e3 : Go.bits .xor .i64 ((2 * x : Nat) : Int) 285 = (((2 * x) ^^^ 285 : Nat) : Int) := xor64 (b := 285) (by omega) (by omega)
    have e4 : wrap64 ((i : Int) + 1) = ((i + 1 : Nat) : Int) := wr_succ (by omega)
    simp only [e0, e1, e2, e3, e4]
    have hd := Gf.dbl_lt hx
    have hox := Gf.xor_lt ho hx
    have e5 : b / 2 ^ i / 2 = b / 2 ^ (i + 1) := by rw [Nat.div_div_eq_div_mul, Nat.pow_succ]
    simp only [Gf.mulAux, e5]
    by_cases h1 : b / 2 ^ i % 2 = 1
    · refine ev_pos (by omega) ?_
      rw [if_pos h1]
      by_cases h2 : 2 * x > 255
      · refine ev_pos (by omega) ?_
        have := ih (i + 1) (o ^^^ x) (Gf.dbl x) (by omega) hox hd
        have e : Gf.dbl x = (2 * x) ^^^ 285 := if_pos h2
        rw [e] at this ⊢
        exact this
      · refine ev_neg (by omega) ?_
        have := ih (i + 1) (o ^^^ x) (Gf.dbl x) (by omega) hox hd
        have e : Gf.dbl x = 2 * x := if_neg h2
        rw [e] at this ⊢
        exact this
    · refine ev_neg (by omega) ?_
      rw [if_neg h1]
      by_cases h2 : 2 * x > 255
      · refine ev_pos (by omega) ?_
        have := ih (i + 1) o (Gf.dbl x) (by omega) ho hd
        have e : Gf.dbl x = (2 * x) ^^^ 285 := if_pos h2
        rw [e] at this ⊢
        exact this
      · refine ev_neg (by omega) ?_
        have := ih (i + 1) o (Gf.dbl x) (by omega) ho hd
        have e : Gf.dbl x = 2 * x := if_neg h2
        rw [e] at this ⊢
        exact this
theorem spec_mul {a b : Nat} (ha : a < 256) (hb : b < 256) : Ev (fun k => spec_GfMul.f k (a : Int) (b : Int)) ((Gf.gm a b : Nat) : Int) := by
  have := spec_mul_l0 b hb 8 0 0 a rfl (by decide) ha
  unfold spec_GfMul.f
  rw [wrn (by omega)]
  simpa [Gf.gm] using this
theorem impl_pow_l0 (n : Nat) : ∀ (m a o : Nat), m < 2 ^ n → n ≤ 62 → a < 256 → o < 256 →
    Ev (fun k => impl_GfPow.l0 k (a : Int) (m : Int) (o : Int)) ((Gf.gm o (Gf.gp a m) : Nat) : Int) := by
  induction n with
  | zero =>
    intro m a o hm _ ha ho
    obtain rfl : m = 0 := by omega
    refine Ev.step (fun k => impl_GfPow.l0.eq_2 ..) ?_
    refine ev_neg (by omega) (ev_ret ?_)
    show (o : Int) = ((Gf.gm o 1 : Nat) : Int)
    rw [Gf.gm_one ho]
  | succ n ih =>
    intro m a o hm hn ha ho
    have hm63 : m < 9223372036854775808 := by
      have : 2 ^ (n + 1) ≤ 2 ^ 63 := Nat.pow_le_pow_right (by decide) (by omega)
      omega
    refine Ev.step (fun k => impl_GfPow.l0.eq_2 ..) ?_
    by_cases h0 : m = 0
    · subst h0
      refine ev_neg (by omega) (ev_ret ?_)
      show (o : Int) = ((Gf.gm o 1 : Nat) : Int)
      rw [Gf.gm_one ho]
    refine ev_pos (by omega) ?_
    have e0 : Go.bits .and .i64 (m : Int) 1 = ((m % 2 : Nat) : Int) := odd64 hm63
    have e4 : ((m : Int) / 2) = ((m / 2 : Nat) : Int) := by omega
    simp only [e0, e4]
    have hm2 : m / 2 < 2 ^ n := by rw [Nat.pow_succ] at hm; omega
    have hs := Gf.gp_sq ha (m / 2)
    by_cases h1 : m % 2 = 1
    · refine ev_pos (by omega) (ev_bind (impl_mul ho ha) (ev_bind (impl_mul ha ha) ?_))
      have := ih (m / 2) (Gf.gm a a) (Gf.gm o a) hm2 (by omega) (Gf.gm_lt _ ha) (Gf.gm_lt _ ho)
      refine ev_eq this ?_
      rw [hs, Gf.gm_assoc ho ha (Gf.gp_lt ha _)]
      congr 2
      have e : 1 + 2 * (m / 2) = m := by omega
      have := Gf.gp_add ha 1 (2 * (m / 2))
      rw [e] at this
      rw [this]
      congr 1
      show a = Gf.gm 1 a
      exact (Gf.one_gm ha).symm
    · refine ev_neg (by omega) (ev_bind (impl_mul ha ha) ?_)
      have := ih (m / 2) (Gf.gm a a) o hm2 (by omega) (Gf.gm_lt _ ha) ho
      refine ev_eq this ?_
      rw [hs, show 2 * (m / 2) = m by omega]
/-- What a power is: 0 below 0, else the product. -/
def powOf (a : Nat) (n : Int) : Nat := if n < 0 then 0 else Gf.gp a n.toNat
theorem powOf_lt {a : Nat} (ha : a < 256) (n : Int) : powOf a n < 256 := by
  unfold powOf; split
  · decide
  · exact Gf.gp_lt ha _
theorem impl_pow {a : Nat} (ha : a < 256) {n : Int} (hn : n ≤ 9223372036854775807) : Ev (fun k => impl_GfPow.f k (a : Int) n) ((powOf a n : Nat) : Int) := by
  unfold impl_GfPow.f powOf
  by_cases h : n < 0
  · rw [if_pos h]
    refine ev_pos h ?_
    refine Ev.step (fun k => impl_GfPow.j0.eq_2 ..) ?_
    exact ev_pos rfl (ev_ret rfl)
  refine ev_neg h ?_
  rw [if_neg h]
  obtain ⟨m, rfl⟩ := Int.eq_ofNat_of_zero_le (by omega : 0 ≤ n)
  rw [Int.toNat_natCast]
  by_cases hm : m = 0
  · subst hm
    refine ev_neg (by omega) ?_
    refine Ev.step (fun k => impl_GfPow.j0.eq_2 ..) ?_
    exact ev_neg (by decide) (ev_pos rfl (ev_ret rfl))
  refine ev_pos (by omega) ?_
  refine Ev.step (fun k => impl_GfPow.j0.eq_2 ..) ?_
  by_cases h0 : a = 0
  · subst h0
    refine ev_pos (by decide) (ev_ret ?_)
    obtain ⟨q, rfl⟩ : ∃ q, m = q + 1 := ⟨m - 1, by omega⟩
    rw [Gf.gp_zero]; rfl
  · refine ev_neg (by simpa using h0) (ev_neg (by omega) ?_)
    have e : Int.tmod (m : Int) 255 = ((m % 255 : Nat) : Int) := by
      rw [Int.tmod_eq_emod_of_nonneg (by omega)]; omega
    rw [e]
    have := impl_pow_l0 8 (m % 255) a 1 (Nat.lt_trans (Nat.mod_lt _ (by decide)) (by decide)) (by decide) ha (by decide)
    refine ev_eq this ?_
    rw [Gf.one_gm (Gf.gp_lt ha _), Gf.gp_mod ha h0]
theorem spec_pow_l0 (a : Nat) (ha : a < 256) (m : Nat) (hm : m ≤ 255) (n : Nat) : ∀ (i : Nat), i + n = m →
    Ev (fun k => spec_GfPow.l0 k (a : Int) (m : Int) ((Gf.gp a i : Nat) : Int) (i : Int)) ((Gf.gp a m : Nat) : Int) := by
  induction n with
  | zero =>
    intro i hi
    obtain rfl : i = m := by omega
    refine Ev.step (fun k => spec_GfPow.l0.eq_2 ..) ?_
    exact ev_neg (by omega) (ev_ret rfl)
  | succ n ih =>
    intro i hi
    refine Ev.step (fun k => spec_GfPow.l0.eq_2 ..) ?_
    refine ev_pos (by omega) (ev_bind (spec_mul (Gf.gp_lt ha i) ha) ?_)
    rw [wr_succ (by omega)]
    exact ih (i + 1) (by omega)
theorem spec_pow {a : Nat} (ha : a < 256) {n : Int} (hn : n ≤ 9223372036854775807) : Ev (fun k => spec_GfPow.f k (a : Int) n) ((powOf a n : Nat) : Int) := by
  unfold spec_GfPow.f powOf
  by_cases h : n < 0
  · rw [if_pos h]
    exact ev_pos h (ev_ret rfl)
  refine ev_neg h ?_
  rw [if_neg h]
  obtain ⟨m, rfl⟩ := Int.eq_ofNat_of_zero_le (by omega : 0 ≤ n)
  rw [Int.toNat_natCast]
  by_cases hm : m = 0
  · subst hm
    exact ev_pos rfl (ev_ret rfl)
  refine ev_neg (by omega) ?_
  by_cases hb : m > 255
  · refine ev_pos (by omega) ?_
    refine Ev.step (fun k => spec_GfPow.j0.eq_2 ..) ?_
    have e : wrap64 (Int.tmod (wrap64 ((m : Int) - 1)) 255 + 1) = (((m - 1) % 255 + 1 : Nat) : Int) := by
      rw [wr (n := (m : Int) - 1) (by omega) (by omega), Int.tmod_eq_emod_of_nonneg (by omega), wr (by omega) (by omega)]
      omega
    rw [e]
    refine ev_eq (spec_pow_l0 a ha ((m - 1) % 255 + 1) (by omega) _ 0 (Nat.zero_add _)) ?_
    by_cases h0 : a = 0
    · subst h0
      obtain ⟨q, rfl⟩ : ∃ q, m = q + 1 := ⟨m - 1, by omega⟩
      rw [Gf.gp_zero, Gf.gp_zero]
    · rw [← Gf.gp_mod ha h0 m, ← Gf.gp_mod ha h0 ((m - 1) % 255 + 1)]
      congr 2
      omega
  · refine ev_neg (by omega) ?_
    refine Ev.step (fun k => spec_GfPow.j0.eq_2 ..) ?_
    exact spec_pow_l0 a ha m (by omega) _ 0 (Nat.zero_add _)
theorem impl_inv {a : Nat} (ha : a < 256) : Ev (fun k => impl_GfInv.f k (a : Int)) (((if a = 0 then 0 else Gf.inv a : Nat) : Int), decide (a ≠ 0)) := by
  unfold impl_GfInv.f
  by_cases h : a = 0
  · subst h
    exact ev_pos rfl (ev_ret rfl)
  · refine ev_neg (by omega) (ev_bind (impl_pow ha (by decide)) (ev_ret ?_))
    rw [if_neg h]
    simp [h, powOf, Gf.inv]
theorem spec_inv {a : Nat} (ha : a < 256) : Ev (fun k => spec_GfInv.f k (a : Int)) (((if a = 0 then 0 else Gf.inv a : Nat) : Int), decide (a ≠ 0)) := by
  unfold spec_GfInv.f
  by_cases h : a = 0
  · subst h
    exact ev_pos rfl (ev_ret rfl)
  · refine ev_neg (by omega) (ev_bind (spec_pow ha (by decide)) (ev_ret ?_))
    rw [if_neg h]
    simp [h, powOf, Gf.inv]
/-- The sum of the products, place by place. -/
def dotFrom : List Nat → List Nat → Nat → Nat
  | a :: l, b :: m, s => dotFrom l m (s ^^^ Gf.gm a b)
  | _, _, s => s
theorem impl_dot_l0 (a b : List Nat) (ha : ∀ c ∈ a, c < 256) (hb : ∀ c ∈ b, c < 256) (hl : a.length ≤ 140737488355328) (he : a.length = b.length) (n : Nat) : ∀ (i s : Nat), i + n = a.length → s < 256 →
    Ev (fun k => impl_GfDot.l0 k (I b) (s : Int) (I a) ((I a).length : Int) (i : Int)) (((dotFrom (a.drop i) (b.drop i) s : Nat) : Int), true) := by
  induction n with
  | zero =>
    intro i s hi hs
    refine Ev.step (fun k => impl_GfDot.l0.eq_2 ..) ?_
    refine ev_neg (by rw [I_length]; omega) (ev_ret ?_)
    rw [List.drop_eq_nil_of_le (by omega : a.length ≤ i)]; rfl
  | succ n ih =>
    intro i s hi hs
    refine Ev.step (fun k => impl_GfDot.l0.eq_2 ..) ?_
    have hx := getD_lt ha (by decide) i
    have hy := getD_lt hb (by decide) i
    refine ev_pos (by rw [I_length]; omega) (ev_pos (by omega) (ev_pos (by rw [I_length]; omega) (ev_pos (by rw [I_length]; omega) ?_)))
    rw [rd_I, rd_I, wr_succ (by omega)]
    refine ev_bind (impl_mul hx hy) ?_
    rw [xor8 hs (Gf.gm_lt _ hx), drop_getD a 0 i (by omega), drop_getD b 0 i (by omega)]
    exact ih (i + 1) _ (by omega) (Gf.xor_lt hs (Gf.gm_lt _ hx))
theorem impl_dot {a b : List Nat} (ha : ∀ c ∈ a, c < 256) (hb : ∀ c ∈ b, c < 256) (hl : a.length ≤ 140737488355328) :
    Ev (fun k => impl_GfDot.f k (I a) (I b)) (if a.length = b.length then (((dotFrom a b 0 : Nat) : Int), true) else (0, false)) := by
  unfold impl_GfDot.f
  by_cases h : a.length = b.length
  · rw [if_pos h]
    refine ev_pos (by rw [I_length, I_length, h]) ?_
    have := impl_dot_l0 a b ha hb hl h a.length 0 0 (by omega) (by decide)
    simpa using this
  · rw [if_neg h]
    refine ev_neg (by rw [I_length, I_length]; omega) (ev_ret rfl)
/-- The product of the ways from z to all places but the i-th. -/
def pr (z i : Nat) : List Nat → Nat → Nat → Nat
  | [], _, a => a
  | x :: l, j, a => if j = i then pr z i l (j + 1) a else pr z i l (j + 1) (Gf.gm a (z ^^^ x))
def inv0 (a : Nat) : Nat := if a = 0 then 0 else Gf.inv a
theorem inv0_lt {a : Nat} (h : a < 256) : inv0 a < 256 := by
  unfold inv0
  split
  · decide
  · exact Gf.inv_lt h
/-- How much the i-th place counts at z. -/
def wt (xs : List Nat) (z i : Nat) : Nat := Gf.gm (pr z i xs 0 1) (inv0 (pr (xs.getD i 0) i xs 0 1))
theorem pr_lt (z i : Nat) (l : List Nat) : ∀ j a, a < 256 → pr z i l j a < 256 := by
  induction l with
  | nil => intro j a h; exact h
  | cons x l ih =>
    intro j a h
    unfold pr
    split
    · exact ih _ _ h
    · exact ih _ _ (Gf.gm_lt _ h)
theorem wt_lt (xs : List Nat) (z i : Nat) : wt xs z i < 256 := Gf.gm_lt _ (pr_lt _ _ _ _ _ (by decide))
theorem impl_w_l1 (xs : List Nat) (hx : ∀ c ∈ xs, c < 256) (hl : xs.length ≤ 100) (z : Nat) (hz : z < 256) (o : List Nat) (ho : o.length ≤ 100) (i : Nat) (hi : i < xs.length) {R : List Int} (n : Nat) : ∀ j a b, j + n = xs.length → a < 256 → b < 256 →
    Ev (fun k => impl_weights.l0 k (I xs) (z : Int) (I (o ++ [Gf.gm (pr z i (xs.drop j) j a) (inv0 (pr (xs.getD i 0) i (xs.drop j) j b))])) (I xs) ((I xs).length : Int) (wrap64 ((i : Int) + 1))) R →
    Ev (fun k => impl_weights.l1 k (I xs) (z : Int) (I o) (i : Int) ((xs.getD i 0 : Nat) : Int) (a : Int) (b : Int) (I xs) ((I xs).length : Int) (i : Int) (I xs) ((I xs).length : Int) (j : Int)) R := by
  induction n with
  | zero =>
    intro j a b hj ha hb h
    rw [show xs.drop j = [] from List.drop_eq_nil_of_le (by omega)] at h
    refine Ev.step (fun k => impl_weights.l1.eq_2 ..) (ev_neg (by rw [I_length]; omega) (ev_bind (impl_inv hb) (ev_bind (impl_mul ha (inv0_lt hb)) (ev_pos (by rw [I_length]; omega) ?_))))
    rw [I_snoc]
    exact h
  | succ n ih =>
    intro j a b hj ha hb h
    rw [drop_getD xs 0 j (by omega)] at h
    have hxj := getD_lt hx (by decide) j
    have hxi := getD_lt hx (by decide) i
    refine Ev.step (fun k => impl_weights.l1.eq_2 ..) (ev_pos (by rw [I_length]; omega) (ev_pos (by omega) (ev_pos (by rw [I_length]; omega) ?_)))
    rw [rd_I, wr_succ (n := j) (by omega), xor8 hz hxj, xor8 hxi hxj]
    by_cases hij : j = i
    · subst hij
      refine ev_pos rfl (ih (j + 1) a b (by omega) ha hb ?_)
      unfold pr at h
      rw [if_pos rfl, if_pos rfl] at h
      exact h
    · refine ev_neg (by omega) (ev_bind (impl_mul ha (Gf.xor_lt hz hxj)) (ev_bind (impl_mul hb (Gf.xor_lt hxi hxj)) (ih (j + 1) _ _ (by omega) (Gf.gm_lt _ ha) (Gf.gm_lt _ hb) ?_)))
      unfold pr at h
      rw [if_neg hij, if_neg hij] at h
      exact h
theorem range_snoc {α : Type} (f : Nat → α) (i : Nat) : (List.range i).map f ++ [f i] = (List.range (i + 1)).map f := by rw [List.range_succ, List.map_append]; rfl
theorem impl_w_l0 (xs : List Nat) (hx : ∀ c ∈ xs, c < 256) (hl : xs.length ≤ 100) (z : Nat) (hz : z < 256) (n : Nat) : ∀ i : Nat, i + n = xs.length →
    Ev (fun k => impl_weights.l0 k (I xs) (z : Int) (I ((List.range i).map (wt xs z))) (I xs) ((I xs).length : Int) (i : Int)) (I ((List.range xs.length).map (wt xs z))) := by
  induction n with
  | zero =>
    intro i hi
    rw [show i = xs.length by omega]
    exact Ev.step (fun k => impl_weights.l0.eq_2 ..) (ev_neg (by rw [I_length]; omega) (ev_ret rfl))
  | succ n ih =>
    intro i hi
    have h := ih (i + 1) (by omega)
    rw [← range_snoc] at h
    refine Ev.step (fun k => impl_weights.l0.eq_2 ..) (ev_pos (by rw [I_length]; omega) (ev_pos (by omega) (ev_pos (by rw [I_length]; omega) ?_)))
    rw [rd_I]
    refine impl_w_l1 xs hx hl z hz _ (by simp; omega) i (by omega) xs.length 0 1 1 (by omega) (by decide) (by decide) ?_
    rw [wr_succ (by omega)]
    exact h
theorem impl_w {xs : List Nat} (hx : ∀ c ∈ xs, c < 256) (hl : xs.length ≤ 100) {z : Nat} (hz : z < 256) : Ev (fun k => impl_weights.f k (I xs) (z : Int)) (I ((List.range xs.length).map (wt xs z))) := by
  unfold impl_weights.f
  exact impl_w_l0 xs hx hl z hz xs.length 0 (by omega)
/-- The value at z of what runs through ys, summed over the first places. -/
def fy (ys xs : List Nat) (z : Nat) : Nat → Nat
  | 0 => 0
  | i + 1 => fy ys xs z i ^^^ Gf.gm (ys.getD i 0) (wt xs z i)
theorem fy_lt {ys : List Nat} (hy : ∀ c ∈ ys, c < 256) (xs : List Nat) (z i : Nat) : fy ys xs z i < 256 := by
  induction i with
  | zero => exact (by decide : 0 < 256)
  | succ i ih => exact Gf.xor_lt ih (Gf.gm_lt _ (getD_lt hy (by decide) i))
theorem spec_lag_l1 (xs ys : List Nat) (hx : ∀ c ∈ xs, c < 256) (hy : ∀ c ∈ ys, c < 256) (hl : xs.length ≤ 100) (he : ys.length = xs.length) (z : Nat) (hz : z < 256) (y : Nat) (hyy : y < 256) (i : Nat) (hi : i < xs.length) (hd : ∀ j, j < xs.length → j ≠ i → xs.getD j 0 ≠ xs.getD i 0) {R : Int × Bool} (n : Nat) : ∀ j a b, j + n = xs.length → a < 256 → b < 256 →
    Ev (fun k => spec_GfLagrange.l0 k (I xs) (I ys) (z : Int) ((y ^^^ Gf.gm (ys.getD i 0) (Gf.gm (pr z i (xs.drop j) j a) (inv0 (pr (xs.getD i 0) i (xs.drop j) j b))) : Nat) : Int) (wrap64 ((i : Int) + 1))) R →
    Ev (fun k => spec_GfLagrange.l1 k (I xs) (I ys) (z : Int) (y : Int) (i : Int) (a : Int) (b : Int) (j : Int)) R := by
  induction n with
  | zero =>
    intro j a b hj ha hb h
    rw [show xs.drop j = [] from List.drop_eq_nil_of_le (by omega)] at h
    have hyi := getD_lt hy (by decide) i
    refine Ev.step (fun k => spec_GfLagrange.l1.eq_2 ..) (ev_neg (by rw [I_length]; omega) (ev_bind (spec_inv hb) (ev_pos (by omega) (ev_pos (by rw [I_length]; omega) (ev_bind (spec_mul ha (inv0_lt hb)) ?_)))))
    rw [rd_I]
    refine ev_bind (spec_mul hyi (Gf.gm_lt _ ha)) ?_
    rw [xor8 hyy (Gf.gm_lt _ hyi)]
    exact h
  | succ n ih =>
    intro j a b hj ha hb h
    rw [drop_getD xs 0 j (by omega)] at h
    have hxj := getD_lt hx (by decide) j
    have hxi := getD_lt hx (by decide) i
    refine Ev.step (fun k => spec_GfLagrange.l1.eq_2 ..) (ev_pos (by rw [I_length]; omega) ?_)
    rw [rd_I, rd_I, wr_succ (n := j) (by omega), xor8 hz hxj, xor8 hxi hxj]
    by_cases hij : j = i
    · subst hij
      refine ev_pos rfl (ih (j + 1) a b (by omega) ha hb ?_)
      unfold pr at h
      rw [if_pos rfl, if_pos rfl] at h
      exact h
    · have hne := hd j (by omega) hij
      refine ev_neg (by omega) (ev_pos (by omega) (ev_pos (by omega) (ev_pos (by rw [I_length]; omega) (ev_neg (by omega) (ev_bind (spec_mul ha (Gf.xor_lt hz hxj)) (ev_bind (spec_mul hb (Gf.xor_lt hxi hxj)) (ih (j + 1) _ _ (by omega) (Gf.gm_lt _ ha) (Gf.gm_lt _ hb) ?_)))))))
      unfold pr at h
      rw [if_neg hij, if_neg hij] at h
      exact h
theorem spec_lag_l0 (xs ys : List Nat) (hx : ∀ c ∈ xs, c < 256) (hy : ∀ c ∈ ys, c < 256) (hl : xs.length ≤ 100) (he : ys.length = xs.length) (z : Nat) (hz : z < 256) (hd : ∀ i, i < xs.length → ∀ j, j < xs.length → j ≠ i → xs.getD j 0 ≠ xs.getD i 0) (n : Nat) : ∀ i : Nat, i + n = xs.length →
    Ev (fun k => spec_GfLagrange.l0 k (I xs) (I ys) (z : Int) ((fy ys xs z i : Nat) : Int) (i : Int)) (((fy ys xs z xs.length : Nat) : Int), true) := by
  induction n with
  | zero =>
    intro i hi
    rw [show i = xs.length by omega]
    exact Ev.step (fun k => spec_GfLagrange.l0.eq_2 ..) (ev_neg (by rw [I_length]; omega) (ev_ret rfl))
  | succ n ih =>
    intro i hi
    refine Ev.step (fun k => spec_GfLagrange.l0.eq_2 ..) (ev_pos (by rw [I_length]; omega) (spec_lag_l1 xs ys hx hy hl he z hz _ (fy_lt hy xs z i) i (by omega) (hd i (by omega)) xs.length 0 1 1 (by omega) (by decide) (by decide) ?_))
    rw [wr_succ (by omega)]
    exact ih (i + 1) (by omega)
theorem spec_lag {xs ys : List Nat} (hx : ∀ c ∈ xs, c < 256) (hy : ∀ c ∈ ys, c < 256) (h1 : 1 ≤ xs.length) (hl : xs.length ≤ 60) (he : ys.length = xs.length) {z : Nat} (hz : z < 256) (hd : ∀ i, i < xs.length → ∀ j, j < xs.length → j ≠ i → xs.getD j 0 ≠ xs.getD i 0) :
    Ev (fun k => spec_GfLagrange.f k (I xs) (I ys) (z : Int)) (((fy ys xs z xs.length : Nat) : Int), true) := by
  unfold spec_GfLagrange.f spec_l1In.f
  rw [I_length, I_length, he]
  refine ev_pure (a := true) ?_ (ev_pos rfl (Ev.step (fun k => spec_GfLagrange.j0.eq_2 ..) (ev_neg (by simp) (spec_lag_l0 xs ys hx hy (by omega) he z hz hd xs.length 0 (by omega)))))
  rw [if_pos (by omega)]
  simp
  omega
theorem map_at {α : Type} (f : Nat → α) (d : α) {n i : Nat} (h : i < n) : ((List.range n).map f).getD i d = f i := by
  rw [List.getD_eq_getElem?_getD, List.getElem?_map, List.getElem?_range h]
  rfl
theorem impl_in_60 (n : Nat) : impl_in.f (n : Int) 1 60 = some (decide (1 ≤ n ∧ n ≤ 60)) := by
  unfold impl_in.f
  by_cases h : (n : Int) ≥ 1
  · rw [if_pos h]
    exact congrArg some (decide_eq_decide.2 (by omega))
  · rw [if_neg h]
    exact congrArg some (decide_eq_false (by omega)).symm
theorem spec_in_60 (n : Nat) : spec_l1In.f (n : Int) 1 60 = some (decide (1 ≤ n ∧ n ≤ 60)) := by
  unfold spec_l1In.f
  by_cases h : (n : Int) ≥ 1
  · rw [if_pos h]
    exact congrArg some (decide_eq_decide.2 (by omega))
  · rw [if_neg h]
    exact congrArg some (decide_eq_false (by omega)).symm
theorem compact_le : ∀ l : List Int, (compact l).length ≤ l.length
  | [] => Nat.le_refl _
  | [_] => Nat.le_refl _
  | x :: y :: l => by
    have := compact_le (y :: l)
    unfold compact
    split
    · exact Nat.le_succ_of_le this
    · exact Nat.succ_le_succ this
theorem compact_nodup : ∀ l : List Int, l.Pairwise (fun a b => a ≤ b) → ((compact l).length = l.length ↔ l.Nodup)
  | [], _ => ⟨fun _ => List.nodup_nil, fun _ => rfl⟩
  | [x], _ => ⟨fun _ => by simp, fun _ => rfl⟩
  | x :: y :: l, h => by
    have ih := compact_nodup (y :: l) (List.pairwise_cons.1 h).2
    have hle := compact_le (y :: l)
    have h1 := (List.pairwise_cons.1 h).1
    have h2 := (List.pairwise_cons.1 (List.pairwise_cons.1 h).2).1
    unfold compact
    by_cases e : x = y
    · subst e
      rw [if_pos rfl]
      refine ⟨fun e2 => ?_, fun e2 => ?_⟩
      · simp only [List.length_cons] at e2 hle
        omega
      · exact absurd List.mem_cons_self (List.nodup_cons.1 e2).1
    · rw [if_neg e]
      show (compact (y :: l)).length + 1 = (y :: l).length + 1 ↔ _
      rw [Nat.add_right_cancel_iff, ih]
      refine ⟨fun k => List.nodup_cons.2 ⟨fun hm => ?_, k⟩, fun k => (List.nodup_cons.1 k).2⟩
      have hxy := h1 y List.mem_cons_self
      rcases List.mem_cons.1 hm with hm | hm
      · exact e hm
      · have := h2 x hm; omega
/-- No two places are alike. -/
def far (xs : List Nat) : Prop := ∀ i, i < xs.length → ∀ j, j < xs.length → j ≠ i → xs.getD j 0 ≠ xs.getD i 0
theorem far_of {xs : List Nat} (h : xs.Nodup) : far xs := by
  intro i hi j hj hne e
  have hp := List.pairwise_iff_getElem.1 h
  rw [List.getD_eq_getElem?_getD, List.getD_eq_getElem?_getD, List.getElem?_eq_getElem hi, List.getElem?_eq_getElem hj] at e
  rcases Nat.lt_or_gt_of_ne hne with k | k
  · exact hp j i hj hi k e
  · exact hp i j hi hj k e.symm
theorem of_far {xs : List Nat} (h : far xs) : xs.Nodup := by
  refine List.pairwise_iff_getElem.2 fun i j hi hj hij e => h j hj i hi (by omega) ?_
  rw [List.getD_eq_getElem?_getD, List.getD_eq_getElem?_getD, List.getElem?_eq_getElem hi, List.getElem?_eq_getElem hj]
  exact e
theorem I_nodup (xs : List Nat) : (I xs).Nodup ↔ xs.Nodup := by
  unfold I List.Nodup
  rw [List.pairwise_map]
  exact ⟨fun h => h.imp (fun k e => k (congrArg _ e)), fun h => h.imp (fun k e => k (Int.ofNat.inj e))⟩
theorem impl_distinctF (xs : List Nat) (h : 1 ≤ xs.length ∧ xs.length ≤ 60) : ∃ b : Bool, impl_distinct.f (I xs) = some b ∧ (b = true ↔ xs.Nodup) := by
  refine ⟨decide ((compact (sorted8 (I xs))).length = (I xs).length), ?_, ?_⟩
  · unfold impl_distinct.f
    rw [if_pos (by rw [I_length]; omega)]
  · have hp : (sorted8 (I xs)).Perm (I xs) := List.mergeSort_perm _ _
    have hs : (sorted8 (I xs)).Pairwise (fun a b => a ≤ b) := (List.pairwise_mergeSort (le := fun x y : Int => decide (x ≤ y)) (fun a b c h1 h2 => by simp at *; omega) (fun a b => by simp; omega) (I xs)).imp (fun h => of_decide_eq_true h)
    have h2 := compact_nodup _ hs
    rw [hp.length_eq, hp.nodup_iff, I_nodup] at h2
    rw [decide_eq_true_iff]
    exact h2
theorem dot_fy (xs ys : List Nat) (z : Nat) (hy : ∀ c ∈ ys, c < 256) (hl : ys.length = xs.length) (n : Nat) : ∀ i, i + n = xs.length → dotFrom (((List.range xs.length).map (wt xs z)).drop i) (ys.drop i) (fy ys xs z i) = fy ys xs z xs.length := by
  induction n with
  | zero =>
    intro i hi
    rw [show i = xs.length by omega, List.drop_eq_nil_of_le (by simp)]
    rfl
  | succ n ih =>
    intro i hi
    rw [drop_getD _ 0 i (by simp; omega), drop_getD ys 0 i (by omega), map_at _ _ (by omega)]
    have h := ih (i + 1) (by omega)
    rw [show fy ys xs z (i + 1) = fy ys xs z i ^^^ Gf.gm (ys.getD i 0) (wt xs z i) from rfl, Gf.gm_comm (getD_lt hy (by decide) i) (wt_lt xs z i)] at h
    exact h
theorem impl_lag {xs ys : List Nat} (hx : ∀ c ∈ xs, c < 256) (hy : ∀ c ∈ ys, c < 256) {z : Nat} (hz : z < 256) (h : (1 ≤ xs.length ∧ xs.length ≤ 60) ∧ ys.length = xs.length ∧ xs.Nodup) :
    Ev (fun k => impl_GfLagrange.f k (I xs) (I ys) (z : Int)) (((fy ys xs z xs.length : Nat) : Int), true) := by
  obtain ⟨h1, h2, h3⟩ := h
  obtain ⟨b, hb, hn⟩ := impl_distinctF xs h1
  have hbt := hn.2 h3
  subst hbt
  unfold impl_GfLagrange.f
  rw [I_length, I_length]
  refine ev_pure (impl_in_60 _) (ev_pos (decide_eq_true h1) (ev_pos (by omega) (ev_pure hb (Ev.step (fun k => impl_GfLagrange.j0.eq_2 ..) (ev_neg (by decide) (ev_bind (impl_w hx (by omega) hz) ?_))))))
  have hd := impl_dot (a := (List.range xs.length).map (wt xs z)) (b := ys) (fun c hc => by obtain ⟨t, _, rfl⟩ := List.mem_map.1 hc; exact wt_lt _ _ _) hy (by simp; omega)
  rw [if_pos (by simp [h2])] at hd
  refine ev_bind hd (ev_ret ?_)
  have := dot_fy xs ys z hy h2 xs.length 0 (by omega)
  rw [List.drop_zero, List.drop_zero] at this
  show (((dotFrom _ ys 0 : Nat) : Int), true) = _
  rw [show (0 : Nat) = fy ys xs z 0 from rfl, this]
theorem impl_lag_no {xs ys : List Nat} (z : Nat) (h : ¬ ((1 ≤ xs.length ∧ xs.length ≤ 60) ∧ ys.length = xs.length ∧ xs.Nodup)) :
    Ev (fun k => impl_GfLagrange.f k (I xs) (I ys) (z : Int)) (0, false) := by
  unfold impl_GfLagrange.f
  rw [I_length, I_length]
  refine ev_pure (impl_in_60 _) ?_
  by_cases h1 : 1 ≤ xs.length ∧ xs.length ≤ 60
  · refine ev_pos (decide_eq_true h1) ?_
    by_cases h2 : ys.length = xs.length
    · obtain ⟨b, hb, hn⟩ := impl_distinctF xs h1
      have hbf : b = false := by
        cases b with
        | false => rfl
        | true => exact absurd ⟨h1, h2, hn.1 rfl⟩ h
      subst hbf
      exact ev_pos (by omega) (ev_pure hb (Ev.step (fun k => impl_GfLagrange.j0.eq_2 ..) (ev_pos rfl (ev_ret rfl))))
    · exact ev_neg (by omega) (Ev.step (fun k => impl_GfLagrange.j0.eq_2 ..) (ev_pos rfl (ev_ret rfl)))
  · exact ev_neg (by simpa using h1) (Ev.step (fun k => impl_GfLagrange.j0.eq_2 ..) (ev_pos rfl (ev_ret rfl)))
theorem spec_dup_l1 (xs ys : List Nat) (hx : ∀ c ∈ xs, c < 256) (hl : xs.length ≤ 100) (z : Nat) (hz : z < 256) (y : Nat) (i : Nat) (hi : i < xs.length) (n : Nat) : ∀ j a b : Nat, j + n = xs.length → a < 256 → b < 256 → (∃ j', j ≤ j' ∧ j' < xs.length ∧ j' ≠ i ∧ xs.getD j' 0 = xs.getD i 0) →
    Ev (fun k => spec_GfLagrange.l1 k (I xs) (I ys) (z : Int) (y : Int) (i : Int) (a : Int) (b : Int) (j : Int)) (0, false) := by
  induction n with
  | zero =>
    rintro j a b hj ha hb ⟨j', h1, h2, _⟩
    omega
  | succ n ih =>
    rintro j a b hj ha hb ⟨j', h1, h2, h3, h4⟩
    have hxj := getD_lt hx (by decide) j
    have hxi := getD_lt hx (by decide) i
    refine Ev.step (fun k => spec_GfLagrange.l1.eq_2 ..) (ev_pos (by rw [I_length]; omega) ?_)
    rw [rd_I, rd_I, wr_succ (n := j) (by omega), xor8 hz hxj, xor8 hxi hxj]
    by_cases hij : j = i
    · subst hij
      exact ev_pos rfl (ih (j + 1) a b (by omega) ha hb ⟨j', by omega, h2, h3, h4⟩)
    · refine ev_neg (by omega) (ev_pos (by omega) (ev_pos (by omega) (ev_pos (by rw [I_length]; omega) ?_)))
      by_cases hne : xs.getD j 0 = xs.getD i 0
      · exact ev_pos (by rw [hne]) (ev_ret rfl)
      · exact ev_neg (by omega) (ev_bind (spec_mul ha (Gf.xor_lt hz hxj)) (ev_bind (spec_mul hb (Gf.xor_lt hxi hxj)) (ih (j + 1) _ _ (by omega) (Gf.gm_lt _ ha) (Gf.gm_lt _ hb) ⟨j', by
          have : j' ≠ j := fun e => hne (by rw [← e]; exact h4)
          omega, h2, h3, h4⟩)))
theorem spec_dup_l0 (xs ys : List Nat) (hx : ∀ c ∈ xs, c < 256) (hy : ∀ c ∈ ys, c < 256) (hl : xs.length ≤ 100) (he : ys.length = xs.length) (z : Nat) (hz : z < 256) (n : Nat) : ∀ (i y : Nat), i + n = xs.length → y < 256 → (∃ i', i ≤ i' ∧ i' < xs.length ∧ ∃ j', j' < xs.length ∧ j' ≠ i' ∧ xs.getD j' 0 = xs.getD i' 0) →
    Ev (fun k => spec_GfLagrange.l0 k (I xs) (I ys) (z : Int) (y : Int) (i : Int)) (0, false) := by
  induction n with
  | zero =>
    rintro i y hi _ ⟨i', h1, h2, _⟩
    omega
  | succ n ih =>
    rintro i y hi hy8 ⟨i', h1, h2, j', h3, h4, h5⟩
    refine Ev.step (fun k => spec_GfLagrange.l0.eq_2 ..) (ev_pos (by rw [I_length]; omega) ?_)
    by_cases hd : ∃ j', j' < xs.length ∧ j' ≠ i ∧ xs.getD j' 0 = xs.getD i 0
    · obtain ⟨q, q1, q2, q3⟩ := hd
      exact spec_dup_l1 xs ys hx hl z hz y i (by omega) xs.length 0 1 1 (by omega) (by decide) (by decide) ⟨q, by omega, q1, q2, q3⟩
    · refine spec_lag_l1 xs ys hx hy hl he z hz y hy8 i (by omega) (fun j hj hne e => hd ⟨j, hj, hne, e⟩) xs.length 0 1 1 (by omega) (by decide) (by decide) ?_
      rw [wr_succ (by omega)]
      refine ih (i + 1) _ (by omega) (Gf.xor_lt hy8 (Gf.gm_lt _ (getD_lt hy (by decide) i))) ⟨i', ?_, h2, j', h3, h4, h5⟩
      have : i' ≠ i := fun e => hd ⟨j', h3, by rw [← e]; exact h4, by rw [← e]; exact h5⟩
      omega
theorem spec_lag_no {xs ys : List Nat} (hx : ∀ c ∈ xs, c < 256) (hy : ∀ c ∈ ys, c < 256) {z : Nat} (hz : z < 256) (h : ¬ ((1 ≤ xs.length ∧ xs.length ≤ 60) ∧ ys.length = xs.length ∧ xs.Nodup)) :
    Ev (fun k => spec_GfLagrange.f k (I xs) (I ys) (z : Int)) (0, false) := by
  unfold spec_GfLagrange.f
  rw [I_length, I_length]
  refine ev_pure (spec_in_60 _) ?_
  by_cases h1 : 1 ≤ xs.length ∧ xs.length ≤ 60
  · refine ev_pos (decide_eq_true h1) (Ev.step (fun k => spec_GfLagrange.j0.eq_2 ..) ?_)
    by_cases h2 : ys.length = xs.length
    · refine ev_neg (by simp [h2]) (spec_dup_l0 xs ys hx hy (by omega) h2 z hz xs.length 0 0 (by omega) (by decide) ?_)
      by_cases h3 : far xs
      · exact absurd ⟨h1, h2, of_far h3⟩ h
      · unfold far at h3
        simp only [Classical.not_forall] at h3
        obtain ⟨i, hi, j, hj, hne, he⟩ := h3
        exact ⟨i, by omega, hi, j, hj, hne, Classical.not_not.1 he⟩
    · exact ev_pos (by simp; omega) (ev_ret rfl)
  · exact ev_neg (by simpa using h1) (Ev.step (fun k => spec_GfLagrange.j0.eq_2 ..) (ev_pos rfl (ev_ret rfl)))
theorem FnExactGfLagrange (x y : List Int) (z : Int) (hx : x.length ≤ maxLen ∧ ∀ v0 ∈ x, (Lit.int .u8 v0).wf = true) (hy : y.length ≤ maxLen ∧ ∀ v0 ∈ y, (Lit.int .u8 v0).wf = true) (hz : (Lit.int .u8 z).wf = true) (_ : x.length ≤ 1048576) (_ : y.length ≤ 1048576) :
    ∃ (r1 : Int) (r2 : Bool), (∃ k, spec_GfLagrange.f k x y z = some (r1, r2)) ∧ (∃ k, impl_GfLagrange.f k x y z = some (r1, r2)) := by
  obtain ⟨a, rfl, ha⟩ := bytes_of hx.2
  obtain ⟨b, rfl, hb⟩ := bytes_of hy.2
  obtain ⟨c, rfl, hc⟩ := byte_of hz
  by_cases h : (1 ≤ a.length ∧ a.length ≤ 60) ∧ b.length = a.length ∧ a.Nodup
  · exact ⟨_, _, (spec_lag ha hb h.1.1 h.1.2 h.2.1 hc (far_of h.2.2)).rounds, (impl_lag ha hb hc h).rounds⟩
  · exact ⟨_, _, (spec_lag_no ha hb hc h).rounds, (impl_lag_no c h).rounds⟩

end Go.Proofs.Ythaoloacbbohlaa.Pure
