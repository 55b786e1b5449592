/- Of every text of bytes: what GfSolve tells of the drawn rows goes with each of them, and it tells something where the reference does; logarithms are those of powers of 2. -/
import Derived.Test.YthaoloacbbohlaaPFnSolvedx7
import Derived.Test.YthaoloacbbohlaaKit
import Derived.Test.YthaoloacbbohlaaGf
namespace Go.Proofs.Ythaoloacbbohlaa.Pure
open Go.RowKit Go.Proofs.Ythaoloacbbohlaa Go.Proofs.Ythaoloacbbohlaa.PFnSolved Go.Proofs.YthaoloacbbohlaaW.PrintWords Go.Proofs.YthaoloacbbohlaaW.PrintLast Go.Proofs.YthaoloacbbohlaaW.PrintMore Go.Proofs.Ythaoloacbbohlaa.K
set_option linter.unusedVariables false

theorem at_ok {m : List Nat} (hm : ∀ c ∈ m, c < 256) (hl : m.length ≤ 1048576) (i : Nat) (hi : i ≤ 1000000) : ∃ n : Nat, n < 256 ∧ laws_at.f (I m) (i : Int) = some (n : Int) := by
  unfold laws_at.f
  by_cases h : i < m.length
  · refine ⟨m.getD i 0, getD_lt hm (by decide) i, ?_⟩
    have := getD_lt hm (by decide) i
    rw [if_pos (by rw [I_length]; omega), if_pos (by omega), rd_I, wrn (by omega)]
  · refine ⟨(i * 7 + m.length) % 256, Nat.mod_lt _ (by decide), ?_⟩
    rw [if_neg (by rw [I_length]; omega), I_length, wr (n := (i : Int) * 7) (by omega) (by omega), wr (by omega) (by omega), Int.tmod_eq_emod_of_nonneg (by omega)]
    congr 1
/-- What is left of a behind a taking of t; -1: t was too much. -/
def left (a : Int) (t : Nat) : Int := if a - (t : Int) < 0 then -1 else a - (t : Int)
theorem left_ok {a : Int} {t : Nat} (h : ¬ left a t < 0) : left a t = a - (t : Int) := by
  unfold left at h ⊢
  split
  · rename_i h2
    rw [if_pos h2] at h
    omega
  · rfl
theorem left_neg {a : Int} {t : Nat} (h : a - (t : Int) < 0) : left a t = -1 := if_pos h
theorem left_pos {a : Int} {t : Nat} (h : ¬ a - (t : Int) < 0) : left a t = a - (t : Int) := if_neg h
theorem len_max {n : Nat} (h : n ≤ maxLen) : n ≤ 9223372036854775807 := by unfold maxLen at h; omega
/-- The bytes of all texts together. -/
def tsum : List (List Int) → Nat
  | [] => 0
  | x :: l => x.length + tsum l
/-- .. and the texts. -/
def tot (l : List (List Int)) : Nat := l.length + tsum l
theorem tsum_le (l : List (List Int)) : tsum l ≤ tot l := Nat.le_add_left _ _
theorem tot_len (l : List (List Int)) : l.length ≤ tot l := Nat.le_add_right _ _
theorem tsum_mem {l : List (List Int)} {x : List Int} (h : x ∈ l) : x.length ≤ tsum l := by
  induction l with
  | nil => cases h
  | cons y l ih =>
    rcases List.mem_cons.1 h with rfl | h
    · unfold tsum; omega
    · have := ih h; unfold tsum; omega
theorem tsum_append (l m : List (List Int)) : tsum (l ++ m) = tsum l + tsum m := by
  induction l with
  | nil => simp [tsum]
  | cons x l ih => simp only [List.cons_append, tsum, ih]; omega
theorem rdB_nat (l : List (List Int)) (i : Nat) : rd_L2 l (i : Int) = l.getD i [] := by unfold rd_L2; rw [Int.toNat_natCast]
theorem getD_mem {l : List (List Int)} {i : Nat} (h : i < l.length) : l.getD i [] ∈ l := by
  rw [List.getD_eq_getElem?_getD, List.getElem?_eq_getElem h]
  exact List.getElem_mem h
theorem dropB {l : List (List Int)} {i : Nat} (h : i < l.length) : l.drop i = l.getD i [] :: l.drop (i + 1) := drop_getD l [] i h
theorem impl_mul_l0 (n : Nat) : ∀ (o x y : Nat), o < 256 → x < 256 → y < 2 ^ n → n ≤ 8 →
    Ev (fun k => impl_GfMul.l0 k (o : Int) (x : Int) (y : Int)) ((Gf.mulAux n x y o : Nat) : Int) := by
  induction n with
  | zero =>
    intro o x y ho hx hy _
    obtain rfl : y = 0 := by omega
    refine Ev.step (fun k => impl_GfMul.l0.eq_2 ..) ?_
    refine ev_neg (by omega) (ev_ret ?_)
    show (o : Int) % 256 = (o : Int)
    omega
  | succ n ih =>
    intro o x y ho hx hy hn
    have hy8 : y < 256 := Nat.lt_of_lt_of_le hy (Nat.pow_le_pow_right (by decide) hn : 2 ^ (n + 1) ≤ 2 ^ 8)
    refine Ev.step (fun k => impl_GfMul.l0.eq_2 ..) ?_
    by_cases h0 : y = 0
    · subst h0
      refine ev_neg (by omega) (ev_ret ?_)
      rw [Gf.mulAux_zero]
      omega
    refine ev_pos (by omega) ?_
    have e0 : Go.bits .and .i64 (y : Int) 1 = ((y % 2 : Nat) : Int) := odd64 (by omega)
    have e1 : wrap64 ((x : Int) * 2) = ((2 * x : Nat) : Int) := by rw [wr (by omega) (by omega)]; omega
    have e2 : Go.bits .xor .i64 (o : Int) (x : Int) = ((o ^^^ x : Nat) : Int) := xor64 (by omega) (by omega)
    have e3 : Go.bits .xor .i64 ((2 * x : Nat) : Int) 285 = (((2 * x) ^^^ 285 : Nat) : Int) := xor64 (b := 285) (by omega) (by omega)
    have e4 : ((y : Int) / 2) = ((y / 2 : Nat) : Int) := by omega
    simp only [e0, e1, e2, e3, e4]
    have hd := Gf.dbl_lt hx
    have hox := Gf.xor_lt ho hx
    have hy2 : y / 2 < 2 ^ n := by rw [Nat.pow_succ] at hy; omega
    simp only [Gf.mulAux]
    by_cases h1 : y % 2 = 1
    · refine ev_pos (by omega) ?_
      rw [if_pos h1]
      by_cases h2 : 2 * x > 255
      · refine ev_pos (by omega) ?_
        have := ih (o ^^^ x) (Gf.dbl x) (y / 2) hox hd hy2 (by omega)
        have e : Gf.dbl x = (2 * x) ^^^ 285 := if_pos h2
        rw [e] at this ⊢
        exact this
      · refine ev_neg (by omega) ?_
        have := ih (o ^^^ x) (Gf.dbl x) (y / 2) hox hd hy2 (by omega)
        have e : Gf.dbl x = 2 * x := if_neg h2
        rw [e] at this ⊢
        exact this
    · refine ev_neg (by omega) ?_
      rw [if_neg h1]
      by_cases h2 : 2 * x > 255
      · refine ev_pos (by omega) ?_
        have := ih o (Gf.dbl x) (y / 2) ho hd hy2 (by omega)
        have e : Gf.dbl x = (2 * x) ^^^ 285 := if_pos h2
        rw [e] at this ⊢
        exact this
      · refine ev_neg (by omega) ?_
        have := ih o (Gf.dbl x) (y / 2) ho hd hy2 (by omega)
        have e : Gf.dbl x = 2 * x := if_neg h2
        rw [e] at this ⊢
        exact this
theorem impl_mul {a b : Nat} (ha : a < 256) (hb : b < 256) : Ev (fun k => impl_GfMul.f k (a : Int) (b : Int)) ((Gf.gm a b : Nat) : Int) := by
  have := impl_mul_l0 8 0 a b (by decide) ha hb (by decide)
  unfold impl_GfMul.f
  rw [wrn (by omega), wrn (by omega)]
  exact this
theorem spec_mul_l0 (b : Nat) (hb : b < 256) (n : Nat) : ∀ (i o x : Nat), i + n = 8 → o < 256 → x < 256 →
    Ev (fun k => spec_GfMul.l0 k (b : Int) (x : Int) (o : Int) (i : Int)) ((Gf.mulAux n x (b / 2 ^ i) o : Nat) : Int) := by
  induction n with
  | zero =>
    intro i o x hi ho hx
    refine Ev.step (fun k => spec_GfMul.l0.eq_2 ..) ?_
    refine ev_neg (by omega) (ev_ret ?_)
    show (o : Int) % 256 = (o : Int)
    omega
  | succ n ih =>
    intro i o x hi ho hx
    refine Ev.step (fun k => spec_GfMul.l0.eq_2 ..) ?_
    refine ev_pos (by omega) (ev_pos (by omega) ?_)
    have e0 : Go.bits .and .i64 (shr .i64 (wrap64 (b : Int)) (i : Int)) 1 = ((b / 2 ^ i % 2 : Nat) : Int) := by
      have : shr .i64 (wrap64 (b : Int)) (i : Int) = ((b / 2 ^ i : Nat) : Int) := by
        unfold shr
        rw [wrn (by omega), Int.toNat_natCast, Nat.min_eq_left (show i ≤ IntKind.i64.bits by show i ≤ 64; omega)]
        simp
      rw [this]
      exact odd64 (Nat.lt_of_le_of_lt (Nat.div_le_self _ _) (by omega))
    have e1 : wrap64 ((x : Int) * 2) = ((2 * x : Nat) : Int) := by rw [wr (by omega) (by omega)]; omega
    have e2 : Go.bits .xor .i64 (o : Int) (x : Int) = ((o ^^^ x : Nat) : Int) := xor64 (by omega) (by omega)
    have e3 : Go.bits .xor .i64 ((2 * x : Nat) : Int) 285 = (((2 * x) ^^^ 285 : Nat) : Int) := xor64 (b := 285) (by omega) (by omega)
    have e4 : wrap64 ((i : Int) + 1) = ((i + 1 : Nat) : Int) := wr_succ (by omega)
    simp only [e0, e1, e2, e3, e4]
    have hd := Gf.dbl_lt hx
    have hox := Gf.xor_lt ho hx
    have e5 : b / 2 ^ i / 2 = b / 2 ^ (i + 1) := by rw [Nat.div_div_eq_div_mul, Nat.pow_succ]
    simp only [Gf.mulAux, e5]
    by_cases h1 : b / 2 ^ i % 2 = 1
    · refine ev_pos (by omega) ?_
      rw [if_pos h1]
      by_cases h2 : 2 * x > 255
      · refine ev_pos (by omega) ?_
        have := ih (i + 1) (o ^^^ x) (Gf.dbl x) (by omega) hox hd
        have e : Gf.dbl x = (2 * x) ^^^ 285 := if_pos h2
        rw [e] at this ⊢
        exact this
      · refine ev_neg (by omega) ?_
        have := ih (i + 1) (o ^^^ x) (Gf.dbl x) (by omega) hox hd
        have e : Gf.dbl x = 2 * x := if_neg h2
        rw [e] at this ⊢
        exact this
    · refine ev_neg (by omega) ?_
      rw [if_neg h1]
      by_cases h2 : 2 * x > 255
      · refine ev_pos (by omega) ?_
        have := ih (i + 1) o (Gf.dbl x) (by omega) ho hd
        have e : Gf.dbl x = (2 * x) ^^^ 285 := if_pos h2
        rw [e] at this ⊢
        exact this
      · refine ev_neg (by omega) ?_
        have := ih (i + 1) o (Gf.dbl x) (by omega) ho hd
        have e : Gf.dbl x = 2 * x := if_neg h2
        rw [e] at this ⊢
        exact this
theorem spec_mul {a b : Nat} (ha : a < 256) (hb : b < 256) : Ev (fun k => spec_GfMul.f k (a : Int) (b : Int)) ((Gf.gm a b : Nat) : Int) := by
  have := spec_mul_l0 b hb 8 0 0 a rfl (by decide) ha
  unfold spec_GfMul.f
  rw [wrn (by omega)]
  simpa [Gf.gm] using this
theorem impl_pow_l0 (n : Nat) : ∀ (m a o : Nat), m < 2 ^ n → n ≤ 62 → a < 256 → o < 256 →
    Ev (fun k => impl_GfPow.l0 k (a : Int) (m : Int) (o : Int)) ((Gf.gm o (Gf.gp a m) : Nat) : Int) := by
  induction n with
  | zero =>
    intro m a o hm _ ha ho
    obtain rfl : m = 0 := by omega
    refine Ev.step (fun k => impl_GfPow.l0.eq_2 ..) ?_
    refine ev_neg (by omega) (ev_ret ?_)
    show (o : Int) = ((Gf.gm o 1 : Nat) : Int)
    rw [Gf.gm_one ho]
  | succ n ih =>
    intro m a o hm hn ha ho
    have hm63 : m < 9223372036854775808 := by
      have : 2 ^ (n + 1) ≤ 2 ^ 63 := Nat.pow_le_pow_right (by decide) (by omega)
      omega
    refine Ev.step (fun k => impl_GfPow.l0.eq_2 ..) ?_
    by_cases h0 : m = 0
    · subst h0
      refine ev_neg (by omega) (ev_ret ?_)
      show (o : Int) = ((Gf.gm o 1 : Nat) : Int)
      rw [Gf.gm_one ho]
    refine ev_pos (by omega) ?_
    have e0 : Go.bits .and .i64 (m : Int) 1 = ((m % 2 : Nat) : Int) := odd64 hm63
    have e4 : ((m : Int) / 2) = ((m / 2 : Nat) : Int) := by omega
    simp only [e0, e4]
    have hm2 : m / 2 < 2 ^ n := by rw [Nat.pow_succ] at hm; omega
    have hs := Gf.gp_sq ha (m / 2)
    by_cases h1 : m % 2 = 1
    · refine ev_pos (by omega) (ev_bind (impl_mul ho ha) (ev_bind (impl_mul ha ha) ?_))
      have := ih (m / 2) (Gf.gm a a) (Gf.gm o a) hm2 (by omega) (Gf.gm_lt _ ha) (Gf.gm_lt _ ho)
      refine ev_eq this ?_
      rw [hs, Gf.gm_assoc ho ha (Gf.gp_lt ha _)]
      congr 2
      have e : 1 + 2 * (m / 2) = m := by omega
      have := Gf.gp_add ha 1 (2 * (m / 2))
      rw [e] at this
      rw [this]
      congr 1
      show a = Gf.gm 1 a
      exact (Gf.one_gm ha).symm
    · refine ev_neg (by omega) (ev_bind (impl_mul ha ha) ?_)
      have := ih (m / 2) (Gf.gm a a) o hm2 (by omega) (Gf.gm_lt _ ha) ho
      refine ev_eq this ?_
      rw [hs, show 2 * (m / 2) = m by omega]
/-- What a power is: 0 below 0, else the product. -/
def powOf (a : Nat) (n : Int) : Nat := if n < 0 then 0 else Gf.gp a n.toNat
theorem powOf_lt {a : Nat} (ha : a < 256) (n : Int) : powOf a n < 256 := by
  unfold powOf; split
  · decide
  · exact Gf.gp_lt ha _
theorem impl_pow {a : Nat} (ha : a < 256) {n : Int} (hn : n ≤ 9223372036854775807) : Ev (fun k => impl_GfPow.f k (a : Int) n) ((powOf a n : Nat) : Int) := by
  unfold impl_GfPow.f powOf
  by_cases h : n < 0
  · rw [if_pos h]
    refine ev_pos h ?_
    refine Ev.step (fun k => impl_GfPow.j0.eq_2 ..) ?_
    exact ev_pos rfl (ev_ret rfl)
  refine ev_neg h ?_
  rw [if_neg h]
  obtain ⟨m, rfl⟩ := Int.eq_ofNat_of_zero_le (by omega : 0 ≤ n)
  rw [Int.toNat_natCast]
  by_cases hm : m = 0
  · subst hm
    refine ev_neg (by omega) ?_
    refine Ev.step (fun k => impl_GfPow.j0.eq_2 ..) ?_
    exact ev_neg (by decide) (ev_pos rfl (ev_ret rfl))
  refine ev_pos (by omega) ?_
  refine Ev.step (fun k => impl_GfPow.j0.eq_2 ..) ?_
  by_cases h0 : a = 0
  · subst h0
    refine ev_pos (by decide) (ev_ret ?_)
    obtain ⟨q, rfl⟩ : ∃ q, m = q + 1 := ⟨m - 1, by omega⟩
    rw [Gf.gp_zero]; rfl
  · refine ev_neg (by simpa using h0) (ev_neg (by omega) ?_)
    have e : Int.tmod (m : Int) 255 = ((m % 255 : Nat) : Int) := by
      rw [Int.tmod_eq_emod_of_nonneg (by omega)]; omega
    rw [e]
    have := impl_pow_l0 8 (m % 255) a 1 (Nat.lt_trans (Nat.mod_lt _ (by decide)) (by decide)) (by decide) ha (by decide)
    refine ev_eq this ?_
    rw [Gf.one_gm (Gf.gp_lt ha _), Gf.gp_mod ha h0]
theorem spec_pow_l0 (a : Nat) (ha : a < 256) (m : Nat) (hm : m ≤ 255) (n : Nat) : ∀ (i : Nat), i + n = m →
    Ev (fun k => spec_GfPow.l0 k (a : Int) (m : Int) ((Gf.gp a i : Nat) : Int) (i : Int)) ((Gf.gp a m : Nat) : Int) := by
  induction n with
  | zero =>
    intro i hi
    obtain rfl : i = m := by omega
    refine Ev.step (fun k => spec_GfPow.l0.eq_2 ..) ?_
    exact ev_neg (by omega) (ev_ret rfl)
  | succ n ih =>
    intro i hi
    refine Ev.step (fun k => spec_GfPow.l0.eq_2 ..) ?_
    refine ev_pos (by omega) (ev_bind (spec_mul (Gf.gp_lt ha i) ha) ?_)
    rw [wr_succ (by omega)]
    exact ih (i + 1) (by omega)
theorem spec_pow {a : Nat} (ha : a < 256) {n : Int} (hn : n ≤ 9223372036854775807) : Ev (fun k => spec_GfPow.f k (a : Int) n) ((powOf a n : Nat) : Int) := by
  unfold spec_GfPow.f powOf
  by_cases h : n < 0
  · rw [if_pos h]
    exact ev_pos h (ev_ret rfl)
  refine ev_neg h ?_
  rw [if_neg h]
  obtain ⟨m, rfl⟩ := Int.eq_ofNat_of_zero_le (by omega : 0 ≤ n)
  rw [Int.toNat_natCast]
  by_cases hm : m = 0
  · subst hm
    exact ev_pos rfl (ev_ret rfl)
  refine ev_neg (by omega) ?_
  by_cases hb : m > 255
  · refine ev_pos (by omega) ?_
    refine Ev.step (fun k => spec_GfPow.j0.eq_2 ..) ?_
    have e : wrap64 (Int.tmod (wrap64 ((m : Int) - 1)) 255 + 1) = (((m - 1) % 255 + 1 : Nat) : Int) := by
      rw [wr (n := (m : Int) - 1) (by omega) (by omega), Int.tmod_eq_emod_of_nonneg (by omega), wr (by omega) (by omega)]
      omega
    rw [e]
    refine ev_eq (spec_pow_l0 a ha ((m - 1) % 255 + 1) (by omega) _ 0 (Nat.zero_add _)) ?_
    by_cases h0 : a = 0
    · subst h0
      obtain ⟨q, rfl⟩ : ∃ q, m = q + 1 := ⟨m - 1, by omega⟩
      rw [Gf.gp_zero, Gf.gp_zero]
    · rw [← Gf.gp_mod ha h0 m, ← Gf.gp_mod ha h0 ((m - 1) % 255 + 1)]
      congr 2
      omega
  · refine ev_neg (by omega) ?_
    refine Ev.step (fun k => spec_GfPow.j0.eq_2 ..) ?_
    exact spec_pow_l0 a ha m (by omega) _ 0 (Nat.zero_add _)
theorem impl_inv {a : Nat} (ha : a < 256) : Ev (fun k => impl_GfInv.f k (a : Int)) (((if a = 0 then 0 else Gf.inv a : Nat) : Int), decide (a ≠ 0)) := by
  unfold impl_GfInv.f
  by_cases h : a = 0
  · subst h
    exact ev_pos rfl (ev_ret rfl)
  · refine ev_neg (by omega) (ev_bind (impl_pow ha (by decide)) (ev_ret ?_))
    rw [if_neg h]
    simp [h, powOf, Gf.inv]
theorem spec_inv {a : Nat} (ha : a < 256) : Ev (fun k => spec_GfInv.f k (a : Int)) (((if a = 0 then 0 else Gf.inv a : Nat) : Int), decide (a ≠ 0)) := by
  unfold spec_GfInv.f
  by_cases h : a = 0
  · subst h
    exact ev_pos rfl (ev_ret rfl)
  · refine ev_neg (by omega) (ev_bind (spec_pow ha (by decide)) (ev_ret ?_))
    rw [if_neg h]
    simp [h, powOf, Gf.inv]
/-- Place by place: x and the product of k and y. -/
def axpy (k : Nat) : List Nat → List Nat → List Nat
  | a :: l, b :: m => (a ^^^ Gf.gm k b) :: axpy k l m
  | _, _ => []
theorem axpy_length (k : Nat) : ∀ (a b : List Nat), a.length = b.length → (axpy k a b).length = a.length := by
  intro a
  induction a with
  | nil => intro b h; rfl
  | cons x l ih =>
    intro b h
    cases b with
    | nil => simp at h
    | cons y m => simp only [axpy, List.length_cons]; rw [ih m (by simpa using h)]
theorem impl_axpy_l0 (c : Nat) (hc : c < 256) (a b : List Nat) (ha : ∀ c ∈ a, c < 256) (hb : ∀ c ∈ b, c < 256) (hl : a.length ≤ 140737488355327) (he : a.length = b.length) (n : Nat) : ∀ (i : Nat) (o : List Nat), i + n = a.length → o.length = i →
    Ev (fun k => impl_GfAxpy.l0 k (c : Int) (I b) (I o) (I a) ((I a).length : Int) (i : Int)) (I (o ++ axpy c (a.drop i) (b.drop i)), true) := by
  induction n with
  | zero =>
    intro i o hi ho
    refine Ev.step (fun k => impl_GfAxpy.l0.eq_2 ..) ?_
    refine ev_neg (by rw [I_length]; omega) (ev_ret ?_)
    rw [List.drop_eq_nil_of_le (by omega : a.length ≤ i)]
    simp [axpy]
  | succ n ih =>
    intro i o hi ho
    refine Ev.step (fun k => impl_GfAxpy.l0.eq_2 ..) ?_
    have hx := getD_lt ha (by decide) i
    have hy := getD_lt hb (by decide) i
    refine ev_pos (by rw [I_length]; omega) (ev_pos (by omega) (ev_pos (by rw [I_length]; omega) (ev_pos (by rw [I_length]; omega) ?_)))
    rw [rd_I, rd_I, wr_succ (by omega)]
    refine ev_bind (impl_mul hc hy) (ev_pos (by rw [I_length]; omega) ?_)
    rw [xor8 hx (Gf.gm_lt _ hc), drop_getD a 0 i (by omega), drop_getD b 0 i (by omega), I_snoc]
    have := ih (i + 1) (o ++ [a.getD i 0 ^^^ Gf.gm c (b.getD i 0)]) (by omega) (by simp [ho])
    rw [List.append_assoc] at this
    exact this
theorem impl_axpy {c : Nat} (hc : c < 256) {a b : List Nat} (ha : ∀ c ∈ a, c < 256) (hb : ∀ c ∈ b, c < 256) (hl : a.length ≤ 140737488355327) :
    Ev (fun k => impl_GfAxpy.f k (I a) (c : Int) (I b)) (if a.length = b.length then (I (axpy c a b), true) else ([], false)) := by
  unfold impl_GfAxpy.f
  by_cases h : a.length = b.length
  · rw [if_pos h]
    refine ev_pos (by rw [I_length, I_length, h]) ?_
    have := impl_axpy_l0 c hc a b ha hb hl h a.length 0 [] (by omega) rfl
    simpa [I_nil] using this
  · rw [if_neg h]
    refine ev_neg (by rw [I_length, I_length]; omega) (ev_ret rfl)
theorem spec_axpy_l0 (c : Nat) (hc : c < 256) (a b : List Nat) (ha : ∀ c ∈ a, c < 256) (hb : ∀ c ∈ b, c < 256) (hl : a.length ≤ 140737488355327) (he : a.length = b.length) (n : Nat) : ∀ (i : Nat) (o : List Nat), i + n = a.length → o.length = i →
    Ev (fun k => spec_GfAxpy.l0 k (I a) (c : Int) (I b) (I o) (i : Int)) (I (o ++ axpy c (a.drop i) (b.drop i)), true) := by
  induction n with
  | zero =>
    intro i o hi ho
    refine Ev.step (fun k => spec_GfAxpy.l0.eq_2 ..) ?_
    refine ev_neg (by rw [I_length]; omega) (ev_ret ?_)
    rw [List.drop_eq_nil_of_le (by omega : a.length ≤ i)]
    simp [axpy]
  | succ n ih =>
    intro i o hi ho
    refine Ev.step (fun k => spec_GfAxpy.l0.eq_2 ..) ?_
    have hx := getD_lt ha (by decide) i
    have hy := getD_lt hb (by decide) i
    refine ev_pos (by rw [I_length]; omega) (ev_pos (by omega) (ev_pos (by rw [I_length]; omega) ?_))
    rw [rd_I, rd_I, wr_succ (by omega)]
    refine ev_bind (spec_mul hc hy) (ev_pos (by rw [I_length]; omega) ?_)
    rw [xor8 hx (Gf.gm_lt _ hc), drop_getD a 0 i (by omega), drop_getD b 0 i (by omega), I_snoc]
    have := ih (i + 1) (o ++ [a.getD i 0 ^^^ Gf.gm c (b.getD i 0)]) (by omega) (by simp [ho])
    rw [List.append_assoc] at this
    exact this
theorem spec_axpy {c : Nat} (hc : c < 256) {a b : List Nat} (ha : ∀ c ∈ a, c < 256) (hb : ∀ c ∈ b, c < 256) (hl : a.length ≤ 140737488355327) :
    Ev (fun k => spec_GfAxpy.f k (I a) (c : Int) (I b)) (if a.length = b.length then (I (axpy c a b), true) else ([], false)) := by
  unfold spec_GfAxpy.f
  refine ev_some ?_
  by_cases h : a.length = b.length
  · rw [if_pos h]
    refine ev_pos (by rw [I_length, I_length, h]) ?_
    have := spec_axpy_l0 c hc a b ha hb hl h a.length 0 [] (by omega) rfl
    simpa [I_nil] using this
  · rw [if_neg h]
    refine ev_neg (by rw [I_length, I_length]; omega) (ev_ret rfl)
/-- The sum of the products, place by place. -/
def dotFrom : List Nat → List Nat → Nat → Nat
  | a :: l, b :: m, s => dotFrom l m (s ^^^ Gf.gm a b)
  | _, _, s => s
theorem impl_dot_l0 (a b : List Nat) (ha : ∀ c ∈ a, c < 256) (hb : ∀ c ∈ b, c < 256) (hl : a.length ≤ 140737488355328) (he : a.length = b.length) (n : Nat) : ∀ (i s : Nat), i + n = a.length → s < 256 →
    Ev (fun k => impl_GfDot.l0 k (I b) (s : Int) (I a) ((I a).length : Int) (i : Int)) (((dotFrom (a.drop i) (b.drop i) s : Nat) : Int), true) := by
  induction n with
  | zero =>
    intro i s hi hs
    refine Ev.step (fun k => impl_GfDot.l0.eq_2 ..) ?_
    refine ev_neg (by rw [I_length]; omega) (ev_ret ?_)
    rw [List.drop_eq_nil_of_le (by omega : a.length ≤ i)]; rfl
  | succ n ih =>
    intro i s hi hs
    refine Ev.step (fun k => impl_GfDot.l0.eq_2 ..) ?_
    have hx := getD_lt ha (by decide) i
    have hy := getD_lt hb (by decide) i
    refine ev_pos (by rw [I_length]; omega) (ev_pos (by omega) (ev_pos (by rw [I_length]; omega) (ev_pos (by rw [I_length]; omega) ?_)))
    rw [rd_I, rd_I, wr_succ (by omega)]
    refine ev_bind (impl_mul hx hy) ?_
    rw [xor8 hs (Gf.gm_lt _ hx), drop_getD a 0 i (by omega), drop_getD b 0 i (by omega)]
    exact ih (i + 1) _ (by omega) (Gf.xor_lt hs (Gf.gm_lt _ hx))
theorem impl_dot {a b : List Nat} (ha : ∀ c ∈ a, c < 256) (hb : ∀ c ∈ b, c < 256) (hl : a.length ≤ 140737488355328) :
    Ev (fun k => impl_GfDot.f k (I a) (I b)) (if a.length = b.length then (((dotFrom a b 0 : Nat) : Int), true) else (0, false)) := by
  unfold impl_GfDot.f
  by_cases h : a.length = b.length
  · rw [if_pos h]
    refine ev_pos (by rw [I_length, I_length, h]) ?_
    have := impl_dot_l0 a b ha hb hl h a.length 0 0 (by omega) (by decide)
    simpa using this
  · rw [if_neg h]
    refine ev_neg (by rw [I_length, I_length]; omega) (ev_ret rfl)
/-- Rows of bytes. -/
def IR (M : List (List Nat)) : List (List Int) := M.map I
theorem IR_length (M : List (List Nat)) : (IR M).length = M.length := by simp [IR]
theorem IR_drop (M : List (List Nat)) (i : Nat) : (IR M).drop i = IR (M.drop i) := by simp [IR]
theorem IR_set (M : List (List Nat)) (i : Nat) (r : List Nat) : (IR M).set i (I r) = IR (M.set i r) := by simp [IR]
theorem IR_snoc (M : List (List Nat)) (r : List Nat) : IR M ++ [I r] = IR (M ++ [r]) := by simp [IR]
theorem IR_getD (M : List (List Nat)) (i : Nat) : (IR M).getD i [] = I (M.getD i []) := by
  simp only [IR, List.getD_eq_getElem?_getD, List.getElem?_map]
  cases M[i]? <;> rfl
theorem I_getD (m : List Nat) (i : Nat) : (I m).getD i 0 = ((m.getD i 0 : Nat) : Int) := by rw [← rd_nat, rd_I]
theorem rows_of {l : List (List Int)} (h : ∀ r ∈ l, ∀ x ∈ r, (Lit.int .u8 x).wf = true) : ∃ M : List (List Nat), l = IR M ∧ ∀ r ∈ M, ∀ c ∈ r, c < 256 := by
  induction l with
  | nil => exact ⟨[], rfl, fun r hr => by cases hr⟩
  | cons x l ih =>
    obtain ⟨M, e, hM⟩ := ih fun r hr => h r (List.mem_cons_of_mem _ hr)
    obtain ⟨m, e2, hm⟩ := bytes_of (h x List.mem_cons_self)
    refine ⟨m :: M, by rw [e, e2]; rfl, fun r hr => ?_⟩
    rcases List.mem_cons.1 hr with rfl | hr
    · exact hm
    · exact hM r hr
theorem getR_mem {l : List (List Nat)} {i : Nat} (h : i < l.length) : l.getD i [] ∈ l := by
  rw [List.getD_eq_getElem?_getD, List.getElem?_eq_getElem h]
  exact List.getElem_mem h
/-- Each row but the i-th, less its i-th times the row. -/
def elimN (i : Nat) (row : List Nat) : Nat → List (List Nat) → List (List Nat)
  | _, [] => []
  | j, x :: l => (if j = i then x else axpy (x.getD i 0) x row) :: elimN i row (j + 1) l
/-- The first row from the p-th on whose i-th is not 0. -/
def pivN (i : Nat) : List (List Nat) → Nat → Option Nat
  | [], _ => none
  | x :: l, p => if x.getD i 0 = 0 then pivN i l (p + 1) else some p
/-- The p-th row, scaled so that its i-th is 1. -/
def rowN (i p : Nat) (M : List (List Nat)) : List Nat := (M.getD p []).map fun x => Gf.gm x (if (M.getD p []).getD i 0 = 0 then 0 else Gf.inv ((M.getD p []).getD i 0))
def stepN (i p : Nat) (M : List (List Nat)) : List (List Nat) := elimN i (rowN i p M) 0 ((M.set p (M.getD i [])).set i (rowN i p M))
def solveN (n : Nat) : Nat → List (List Nat) → Option (List (List Nat))
  | 0, M => some M
  | d + 1, M => match pivN (n - (d + 1)) (M.drop (n - (d + 1))) (n - (d + 1)) with
    | none => none
    | some p => solveN n d (stepN (n - (d + 1)) p M)
def lastN (n : Nat) : Option (List (List Nat)) → List Nat × Bool
  | none => ([], false)
  | some M => (M.map fun r => r.getD n 0, true)
/-- Each row, its right side behind it. -/
def aug : List (List Nat) → List Nat → List (List Nat)
  | r :: l, b :: m => (r ++ [b]) :: aug l m
  | _, _ => []
def gsolve (rows : List (List Nat)) (right : List Nat) : List Nat × Bool :=
  if (1 ≤ rows.length ∧ rows.length ≤ 12) ∧ right.length = rows.length ∧ ∀ r ∈ rows, r.length = rows.length then lastN rows.length (solveN rows.length rows.length (aug rows right)) else ([], false)
def MB (m : Nat) (M : List (List Nat)) : Prop := ∀ r ∈ M, r.length = m ∧ ∀ c ∈ r, c < 256
theorem MB.tail {m : Nat} {x : List Nat} {l : List (List Nat)} (h : MB m (x :: l)) : MB m l := fun r hr => h r (List.mem_cons_of_mem _ hr)
theorem MB.at {m : Nat} {M : List (List Nat)} (h : MB m M) {p : Nat} (hp : p < M.length) : (M.getD p []).length = m ∧ ∀ c ∈ M.getD p [], c < 256 := h _ (getR_mem hp)
theorem MB.set {m : Nat} {M : List (List Nat)} (h : MB m M) {p : Nat} {r : List Nat} (hr : r.length = m ∧ ∀ c ∈ r, c < 256) : MB m (M.set p r) := fun x hx => by
  rcases List.mem_or_eq_of_mem_set hx with h1 | h1
  · exact h x h1
  · rw [h1]; exact hr
theorem axpy_lt {c : Nat} (hc : c < 256) : ∀ (a b : List Nat), (∀ x ∈ a, x < 256) → (∀ x ∈ b, x < 256) → ∀ x ∈ axpy c a b, x < 256
  | [], _, _, _ => fun x hx => by cases hx
  | _ :: _, [], _, _ => fun x hx => by cases hx
  | y :: a, z :: b, h1, h2 => fun x hx => by
    rcases List.mem_cons.1 (show x ∈ (y ^^^ Gf.gm c z) :: axpy c a b from hx) with rfl | hx
    · exact Gf.xor_lt (h1 y List.mem_cons_self) (Gf.gm_lt _ hc)
    · exact axpy_lt hc a b (fun q hq => h1 q (List.mem_cons_of_mem _ hq)) (fun q hq => h2 q (List.mem_cons_of_mem _ hq)) x hx
theorem elimN_length (i : Nat) (row : List Nat) : ∀ (M : List (List Nat)) (j : Nat), (elimN i row j M).length = M.length
  | [], _ => rfl
  | x :: l, j => by simp only [elimN, List.length_cons, elimN_length i row l (j + 1)]
theorem elimN_MB {i m : Nat} {row : List Nat} (hr : row.length = m ∧ ∀ c ∈ row, c < 256) : ∀ {M : List (List Nat)} (j : Nat), MB m M → MB m (elimN i row j M)
  | [], _, _ => fun r hr => by cases hr
  | x :: l, j, h => fun r hx => by
    have h1 := h x List.mem_cons_self
    rcases List.mem_cons.1 (show r ∈ (if j = i then x else axpy (x.getD i 0) x row) :: elimN i row (j + 1) l from hx) with rfl | hx
    · split
      · exact h1
      · exact ⟨by rw [axpy_length _ _ _ (by omega)]; exact h1.1, axpy_lt (getD_lt h1.2 (by decide) i) _ _ h1.2 hr.2⟩
    · exact elimN_MB hr (j + 1) h.tail r hx
theorem pivN_some {i : Nat} : ∀ {l : List (List Nat)} {q p : Nat}, pivN i l q = some p → q ≤ p ∧ p < q + l.length ∧ (l.getD (p - q) []).getD i 0 ≠ 0
  | [], _, _, h => by cases h
  | x :: l, q, p, h => by
    unfold pivN at h
    by_cases e : x.getD i 0 = 0
    · rw [if_pos e] at h
      obtain ⟨h1, h2, h3⟩ := pivN_some h
      have e2 : p - q = (p - (q + 1)) + 1 := by omega
      rw [e2, List.length_cons]
      exact ⟨by omega, by omega, h3⟩
    · rw [if_neg e] at h
      cases h
      rw [Nat.sub_self, List.length_cons]
      exact ⟨Nat.le_refl _, by omega, e⟩
theorem inv1_lt {a : Nat} (ha : a < 256) : (if a = 0 then 0 else Gf.inv a) < 256 := by
  split
  · decide
  · exact Gf.inv_lt ha
theorem rowN_ok {i p m : Nat} {M : List (List Nat)} (hp : p < M.length) (h : MB m M) : (rowN i p M).length = m ∧ ∀ c ∈ rowN i p M, c < 256 := by
  have h1 := h.at hp
  refine ⟨by unfold rowN; rw [List.length_map]; exact h1.1, fun c hc => ?_⟩
  unfold rowN at hc
  obtain ⟨x, hx, rfl⟩ := List.mem_map.1 hc
  exact Gf.gm_lt _ (h1.2 x hx)
theorem stepN_length {i p : Nat} {M : List (List Nat)} : (stepN i p M).length = M.length := by unfold stepN; rw [elimN_length, List.length_set, List.length_set]
theorem stepN_MB {i p m : Nat} {M : List (List Nat)} (hi : i < M.length) (hp : p < M.length) (h : MB m M) : MB m (stepN i p M) :=
  elimN_MB (rowN_ok hp h) 0 ((h.set (h.at hi)).set (rowN_ok hp h))
theorem solveN_ok {n m : Nat} : ∀ {d : Nat} {M R : List (List Nat)}, d ≤ n → M.length = n → MB m M → solveN n d M = some R → R.length = n ∧ MB m R
  | 0, M, R, _, hl, hM, h => by cases h; exact ⟨hl, hM⟩
  | d + 1, M, R, hd, hl, hM, h => by
    unfold solveN at h
    cases hp : pivN (n - (d + 1)) (M.drop (n - (d + 1))) (n - (d + 1)) with
    | none => rw [hp] at h; cases h
    | some p =>
      rw [hp] at h
      have h1 := pivN_some hp
      rw [List.length_drop] at h1
      exact solveN_ok (by omega) (by rw [stepN_length]; exact hl) (stepN_MB (by omega) (by omega) hM) h
theorem piv_eq (i : Nat) : ∀ (M : List (List Nat)) (p : Nat), Mat.pivF i (IR M) p = pivN i M p
  | [], _ => rfl
  | x :: l, p => by
    show (if (I x).getD i 0 = 0 then Mat.pivF i (IR l) (p + 1) else some p) = if x.getD i 0 = 0 then pivN i l (p + 1) else some p
    rw [I_getD, piv_eq i l (p + 1)]
    by_cases e : x.getD i 0 = 0
    · rw [if_pos e, if_pos (by omega)]
    · rw [if_neg e, if_neg (by omega)]
/-- What both programs answer. -/
def finN (n : Nat) (M : List (List Nat)) : List Int × Bool := (I (lastN n (solveN n n M)).1, (lastN n (solveN n n M)).2)
section
variable {mul : Nat → Int → Int → Option Int} {inv : Nat → Int → Option (Int × Bool)} {ax : Nat → List Int → Int → List Int → Option (List Int × Bool)}
theorem ev_scale (hm : ∀ a b : Nat, a < 256 → b < 256 → Ev (fun k => mul k (a : Int) (b : Int)) ((Gf.gm a b : Nat) : Int)) {c : Nat} (hc : c < 256) (l : List Nat) (hl : ∀ x ∈ l, x < 256) :
    Ev (fun k => Mat.scaleF (mul k) (c : Int) (I l)) (I (l.map fun x => Gf.gm x c)) := by
  induction l with
  | nil => exact ev_ret rfl
  | cons x l ih =>
    show Ev (fun k => (mul k (x : Int) (c : Int)).bind fun y => (Mat.scaleF (mul k) (c : Int) (I l)).bind fun r => some (y :: r)) _
    exact ev_bind (hm x c (hl x List.mem_cons_self) hc) (ev_bind (ih fun y hy => hl y (List.mem_cons_of_mem _ hy)) (ev_ret rfl))
theorem ev_elim (hx : ∀ (c : Nat) (a b : List Nat), c < 256 → (∀ x ∈ a, x < 256) → (∀ x ∈ b, x < 256) → a.length ≤ 140737488355327 → Ev (fun k => ax k (I a) (c : Int) (I b)) (if a.length = b.length then (I (axpy c a b), true) else ([], false)))
    {i m : Nat} (hmm : m ≤ 1000) {row : List Nat} (hr : row.length = m ∧ ∀ c ∈ row, c < 256) (M : List (List Nat)) (hM : MB m M) : ∀ j, Ev (fun k => Mat.elimF (ax k) i (I row) j (IR M)) (IR (elimN i row j M)) := by
  induction M with
  | nil => intro j; exact ev_ret rfl
  | cons x l ih =>
    intro j
    obtain ⟨h1, h2⟩ := hM x List.mem_cons_self
    have hrest := ih hM.tail (j + 1)
    have key : Ev (fun k => if j = i then some (I x) else (ax k (I x) ((I x).getD i 0) (I row)).bind fun r => if r.1.length = (I row).length then some r.1 else none) (I (if j = i then x else axpy (x.getD i 0) x row)) := by
      by_cases h : j = i
      · rw [if_pos h]
        exact ev_pos h (ev_ret rfl)
      · rw [if_neg h, I_getD]
        have := hx (x.getD i 0) x row (getD_lt h2 (by decide) i) h2 hr.2 (by omega)
        rw [if_pos (by omega)] at this
        refine ev_neg h (ev_bind this (ev_pos ?_ (ev_ret rfl)))
        show (I (axpy _ _ _)).length = (I row).length
        rw [I_length, I_length, axpy_length _ _ _ (by omega)]
        omega
    show Ev (fun k => (if j = i then some (I x) else (ax k (I x) ((I x).getD i 0) (I row)).bind fun r => if r.1.length = (I row).length then some r.1 else none).bind fun y => (Mat.elimF (ax k) i (I row) (j + 1) (IR l)).bind fun r => some (y :: r)) _
    exact ev_bind key (ev_bind hrest (ev_ret rfl))
theorem ev_solve (hm : ∀ a b : Nat, a < 256 → b < 256 → Ev (fun k => mul k (a : Int) (b : Int)) ((Gf.gm a b : Nat) : Int))
    (hi : ∀ a : Nat, a < 256 → Ev (fun k => inv k (a : Int)) (((if a = 0 then 0 else Gf.inv a : Nat) : Int), decide (a ≠ 0)))
    (hx : ∀ (c : Nat) (a b : List Nat), c < 256 → (∀ x ∈ a, x < 256) → (∀ x ∈ b, x < 256) → a.length ≤ 140737488355327 → Ev (fun k => ax k (I a) (c : Int) (I b)) (if a.length = b.length then (I (axpy c a b), true) else ([], false)))
    {n m : Nat} (hmm : m ≤ 1000) : ∀ (d : Nat) (M : List (List Nat)), d ≤ n → M.length = n → MB m M →
    Ev (fun k => Mat.solveF (mul k) (inv k) (ax k) n d (IR M)) ((solveN n d M).map IR) := by
  intro d
  induction d with
  | zero => intro M _ _ _; exact ev_ret rfl
  | succ d ih =>
    intro M hd hl hM
    unfold Mat.solveF solveN
    simp only [IR_drop, piv_eq]
    cases hp : pivN (n - (d + 1)) (M.drop (n - (d + 1))) (n - (d + 1)) with
    | none => exact ev_ret rfl
    | some p =>
      obtain ⟨h1, h2, _⟩ := pivN_some hp
      rw [List.length_drop] at h2
      generalize n - (d + 1) = i at h1 h2 hp ⊢
      have hi2 : i < M.length := by omega
      have hp2 : p < M.length := by omega
      obtain ⟨r1, r2⟩ := hM.at hp2
      have ha := getD_lt r2 (by decide : 0 < 256) i
      have e1 := ev_scale hm (inv1_lt ha) (M.getD p []) r2
      have e2 := ev_elim hx hmm (rowN_ok (i := i) hp2 hM) _ ((hM.set (p := p) (hM.at hi2)).set (p := i) (rowN_ok (i := i) hp2 hM)) 0 (i := i)
      have e3 := ih (stepN i p M) (by omega) (by rw [stepN_length]; exact hl) (stepN_MB hi2 hp2 hM)
      simp only [IR_getD, I_getD]
      refine ev_bind (hi _ ha) (ev_bind e1 ?_)
      rw [IR_set, show I ((M.getD p []).map fun x => Gf.gm x (if (M.getD p []).getD i 0 = 0 then 0 else Gf.inv ((M.getD p []).getD i 0))) = I (rowN i p M) from rfl, IR_set]
      exact ev_bind e2 e3
theorem ev_tail (hm : ∀ a b : Nat, a < 256 → b < 256 → Ev (fun k => mul k (a : Int) (b : Int)) ((Gf.gm a b : Nat) : Int))
    (hi : ∀ a : Nat, a < 256 → Ev (fun k => inv k (a : Int)) (((if a = 0 then 0 else Gf.inv a : Nat) : Int), decide (a ≠ 0)))
    (hx : ∀ (c : Nat) (a b : List Nat), c < 256 → (∀ x ∈ a, x < 256) → (∀ x ∈ b, x < 256) → a.length ≤ 140737488355327 → Ev (fun k => ax k (I a) (c : Int) (I b)) (if a.length = b.length then (I (axpy c a b), true) else ([], false)))
    {n : Nat} (h1 : 1 ≤ n) (h2 : n ≤ 12) {M : List (List Nat)} (hl : M.length = n) (hM : MB (n + 1) M) :
    Ev (fun k => Mat.tailF (mul k) (inv k) (ax k) (n : Int) (IR M)) (finN n M) := by
  unfold Mat.tailF
  refine ev_pos ⟨by omega, by rw [IR_length]; omega, fun r hr => ?_⟩ ?_
  · obtain ⟨x, hx, rfl⟩ := List.mem_map.1 hr
    rw [I_length, (hM x hx).1]
    omega
  · rw [Int.toNat_natCast]
    obtain ⟨K, hK⟩ := ev_solve hm hi hx (n := n) (m := n + 1) (by omega) n M (Nat.le_refl _) hl hM
    refine ⟨K, fun k hk => ?_⟩
    show (Mat.solveF (mul k) (inv k) (ax k) n n (IR M)).map (Mat.lastF n) = _
    rw [show Mat.solveF (mul k) (inv k) (ax k) n n (IR M) = _ from hK k hk]
    unfold finN
    cases solveN n n M with
    | none => rfl
    | some R =>
      show some ((IR R).map (fun r => r.getD n 0), true) = some (I (R.map fun r => r.getD n 0), true)
      unfold IR I
      rw [List.map_map, List.map_map]
      refine congrArg (fun q => some (q, true)) (List.map_congr_left fun r _ => ?_)
      exact I_getD r n
end
theorem aug_length : ∀ (a : List (List Nat)) (b : List Nat), a.length = b.length → (aug a b).length = a.length
  | [], _, _ => rfl
  | _ :: _, [], h => by simp at h
  | x :: a, y :: b, h => by simp only [aug, List.length_cons]; rw [aug_length a b (by simpa using h)]
theorem aug_MB {n : Nat} : ∀ (a : List (List Nat)) (b : List Nat), (∀ r ∈ a, r.length = n ∧ ∀ c ∈ r, c < 256) → (∀ c ∈ b, c < 256) → MB (n + 1) (aug a b)
  | [], _, _, _ => fun r hr => by cases hr
  | _ :: _, [], _, _ => fun r hr => by cases hr
  | x :: a, y :: b, h, k => fun r hr => by
    rcases List.mem_cons.1 (show r ∈ (x ++ [y]) :: aug a b from hr) with rfl | hr
    · obtain ⟨h1, h2⟩ := h x List.mem_cons_self
      refine ⟨by rw [List.length_append, h1]; rfl, fun c hc => ?_⟩
      rcases List.mem_append.1 hc with hc | hc
      · exact h2 c hc
      · rw [List.mem_singleton.1 hc]; exact k y List.mem_cons_self
    · exact aug_MB a b (fun r hr => h r (List.mem_cons_of_mem _ hr)) (fun c hc => k c (List.mem_cons_of_mem _ hc)) r hr
theorem MB.append {m : Nat} {a b : List (List Nat)} (h : MB m a) (k : MB m b) : MB m (a ++ b) := fun r hr => by
  rcases List.mem_append.1 hr with hr | hr
  · exact h r hr
  · exact k r hr
theorem spec_build (rows : List (List Nat)) (right : List Nat) (n : Nat) (h1 : 1 ≤ n) (h2 : n ≤ 12) (hr : rows.length = n) (hb : right.length = n) (hR : ∀ r ∈ rows, ∀ c ∈ r, c < 256) (hB : ∀ c ∈ right, c < 256) (d : Nat) :
    ∀ (i : Nat) (o : List (List Nat)), i + d = n → o.length = i → MB (n + 1) o →
    Ev (fun k => spec_GfSolve.l0 k (IR rows) (I right) (n : Int) (IR o) (i : Int)) (if ∀ r ∈ rows.drop i, r.length = n then finN n (o ++ aug (rows.drop i) (right.drop i)) else ([], false)) := by
  induction d with
  | zero =>
    intro i o hi ho hM
    rw [List.drop_eq_nil_of_le (by omega : rows.length ≤ i), if_pos (fun r hr => by cases hr)]
    refine Ev.step (fun k => spec_GfSolve.l0.eq_2 ..) (ev_neg (by omega) ?_)
    rw [show aug [] (right.drop i) = [] from rfl, List.append_nil]
    exact ev_tail (fun a b ha hb => spec_mul ha hb) (fun a ha => spec_inv ha) (fun c a b hc ha hb hl => spec_axpy hc ha hb hl) h1 h2 (by omega) hM
  | succ d ih =>
    intro i o hi ho hM
    have hmem : rows.getD i [] ∈ rows := getR_mem (by omega)
    refine Ev.step (fun k => spec_GfSolve.l0.eq_2 ..) (ev_pos (by omega) (ev_pos (by omega) (ev_pos (by rw [IR_length]; omega) ?_)))
    rw [rdB_nat, IR_getD, drop_getD rows [] i (by omega)]
    by_cases hl : (rows.getD i []).length = n
    · refine ev_pos (by rw [I_length]; omega) (ev_pure (a := I (rows.getD i [])) ?_ (ev_pos (by rw [I_length]; omega) (ev_some (ev_pos (by rw [I_length]; simp only [List.length_cons, List.length_nil]; omega) (ev_some (ev_pos (by rw [IR_length]; simp only [List.length_cons, List.length_nil]; omega) ?_))))))
      · unfold spec_l1Bytes.f
        rw [Option.bind_some, if_pos (by rw [I_length]; simp only [List.length_nil]; omega), List.nil_append]
      · rw [rd_I, I_snoc, IR_snoc, wr_succ (by omega)]
        have := ih (i + 1) (o ++ [rows.getD i [] ++ [right.getD i 0]]) (by omega) (by rw [List.length_append, ho]; rfl) (hM.append (fun r hr => by
          rw [List.mem_singleton.1 hr]
          refine ⟨by rw [List.length_append, hl]; rfl, fun c hc => ?_⟩
          rcases List.mem_append.1 hc with hc | hc
          · exact hR _ hmem c hc
          · rw [List.mem_singleton.1 hc]; exact getD_lt hB (by decide) i))
        rw [drop_getD right 0 i (by omega)]
        refine ev_eq this ?_
        by_cases h : ∀ r ∈ rows.drop (i + 1), r.length = n
        · rw [if_pos h, if_pos (fun r hr => by rcases List.mem_cons.1 hr with rfl | hr; · exact hl
                                               · exact h r hr), List.append_assoc]
          rfl
        · rw [if_neg h, if_neg (fun k => h fun r hr => k r (List.mem_cons_of_mem _ hr))]
    · rw [if_neg (fun k => hl (k _ List.mem_cons_self))]
      exact ev_neg (by rw [I_length]; omega) (ev_ret rfl)
theorem impl_build (rows : List (List Nat)) (right : List Nat) (n : Nat) (h1 : 1 ≤ n) (h2 : n ≤ 12) (hr : rows.length = n) (hb : right.length = n) (hR : ∀ r ∈ rows, r.length = n ∧ ∀ c ∈ r, c < 256) (hB : ∀ c ∈ right, c < 256) (d : Nat) :
    ∀ (i : Nat) (o : List (List Nat)), i + d = n → o.length = i → MB (n + 1) o →
    Ev (fun k => impl_GfSolve.l0 k (I right) (IR o) (IR rows) (n : Int) (i : Int)) (finN n (o ++ aug (rows.drop i) (right.drop i))) := by
  induction d with
  | zero =>
    intro i o hi ho hM
    rw [List.drop_eq_nil_of_le (by omega : rows.length ≤ i)]
    refine Ev.step (fun k => impl_GfSolve.l0.eq_2 ..) (ev_neg (by omega) ?_)
    rw [show aug [] (right.drop i) = [] from rfl, List.append_nil]
    exact ev_tail (fun a b ha hb => impl_mul ha hb) (fun a ha => impl_inv ha) (fun c a b hc ha hb hl => impl_axpy hc ha hb hl) h1 h2 (by omega) hM
  | succ d ih =>
    intro i o hi ho hM
    have hmem : rows.getD i [] ∈ rows := getR_mem (by omega)
    have hl := (hR _ hmem).1
    refine Ev.step (fun k => impl_GfSolve.l0.eq_2 ..) (ev_pos (by omega) (ev_pos (by omega) (ev_pos (by rw [IR_length]; omega) ?_)))
    rw [rdB_nat, IR_getD, drop_getD rows [] i (by omega)]
    refine ev_pure (a := I (rows.getD i [])) ?_ (ev_pos (by rw [I_length]; omega) (ev_some (ev_pos (by rw [I_length]; simp only [List.length_cons, List.length_nil]; omega) (ev_some (ev_pos (by rw [IR_length]; simp only [List.length_cons, List.length_nil]; omega) ?_)))))
    · unfold slices_Clone_byte_byte.f
      rw [if_pos (by rw [I_length]; omega)]
    · rw [rd_I, I_snoc, IR_snoc, wr_succ (by omega)]
      have := ih (i + 1) (o ++ [rows.getD i [] ++ [right.getD i 0]]) (by omega) (by rw [List.length_append, ho]; rfl) (hM.append (fun r hr => by
        rw [List.mem_singleton.1 hr]
        refine ⟨by rw [List.length_append, hl]; rfl, fun c hc => ?_⟩
        rcases List.mem_append.1 hc with hc | hc
        · exact (hR _ hmem).2 c hc
        · rw [List.mem_singleton.1 hc]; exact getD_lt hB (by decide) i))
      rw [drop_getD right 0 i (by omega)]
      refine ev_eq this ?_
      rw [List.append_assoc]
      rfl
theorem spec_solve {rows : List (List Nat)} {right : List Nat} (hR : ∀ r ∈ rows, ∀ c ∈ r, c < 256) (hB : ∀ c ∈ right, c < 256) : Ev (fun k => spec_GfSolve.f k (IR rows) (I right)) (I (gsolve rows right).1, (gsolve rows right).2) := by
  unfold spec_GfSolve.f
  refine ev_pure (a := decide (1 ≤ rows.length ∧ rows.length ≤ 12)) (by
    unfold spec_l1In.f
    rw [IR_length]
    by_cases h : (rows.length : Int) ≥ 1
    · rw [if_pos h]; congr 1; apply decide_eq_decide.mpr; omega
    · rw [if_neg h]; congr 1; symm; apply decide_eq_false; omega) ?_
  unfold gsolve
  by_cases h : 1 ≤ rows.length ∧ rows.length ≤ 12
  · refine ev_pos (decide_eq_true h) (Ev.step (fun k => spec_GfSolve.j0.eq_2 ..) ?_)
    rw [IR_length, I_length]
    by_cases hb : right.length = rows.length
    · refine ev_neg (by rw [hb]; simp) ?_
      have := spec_build rows right rows.length h.1 h.2 rfl hb hR hB rows.length 0 [] (by omega) rfl (fun r hr => by cases hr)
      refine ev_eq this ?_
      rw [List.drop_zero, List.drop_zero, List.nil_append]
      by_cases hl : ∀ r ∈ rows, r.length = rows.length
      · rw [if_pos hl, if_pos ⟨h, hb, hl⟩]; rfl
      · rw [if_neg hl, if_neg (fun k => hl k.2.2)]; rfl
    · rw [if_neg (fun k => hb k.2.1)]
      exact ev_pos (bne_iff_ne.mpr (by omega)) (ev_ret rfl)
  · rw [if_neg (fun k => h k.1)]
    exact ev_neg (by simpa using h) (Ev.step (fun k => spec_GfSolve.j0.eq_2 ..) (ev_pos rfl (ev_ret rfl)))
theorem impl_solve {rows : List (List Nat)} {right : List Nat} (hR : ∀ r ∈ rows, ∀ c ∈ r, c < 256) (hB : ∀ c ∈ right, c < 256) : Ev (fun k => impl_GfSolve.f k (IR rows) (I right)) (I (gsolve rows right).1, (gsolve rows right).2) := by
  unfold impl_GfSolve.f
  have hall : ((IR rows).all fun b => !(b.length != (IR rows).length)) = true ↔ ∀ r ∈ rows, r.length = rows.length := by
    rw [List.all_eq_true, IR_length]
    constructor
    · intro h r hr
      have := h (I r) (List.mem_map.2 ⟨r, hr, rfl⟩)
      rw [I_length] at this
      simpa using this
    · intro h x hx
      obtain ⟨r, hr, rfl⟩ := List.mem_map.1 hx
      rw [I_length, h r hr]
      simp
  unfold gsolve
  by_cases hl : ∀ r ∈ rows, r.length = rows.length
  · refine ev_pos (hall.2 hl) ?_
    unfold impl_GfSolve.f0
    refine ev_pure (a := decide (1 ≤ rows.length ∧ rows.length ≤ 12)) (by
      unfold impl_in.f
      rw [IR_length]
      by_cases h : (rows.length : Int) ≥ 1
      · rw [if_pos h]; congr 1; apply decide_eq_decide.mpr; omega
      · rw [if_neg h]; congr 1; symm; apply decide_eq_false; omega) ?_
    by_cases h : 1 ≤ rows.length ∧ rows.length ≤ 12
    · refine ev_pos (decide_eq_true h) (Ev.step (fun k => impl_GfSolve.j0.eq_2 ..) ?_)
      rw [IR_length, I_length]
      by_cases hb : right.length = rows.length
      · refine ev_neg (by rw [hb]; simp) ?_
        have := impl_build rows right rows.length h.1 h.2 rfl hb (fun r hr => ⟨hl r hr, hR r hr⟩) hB rows.length 0 [] (by omega) rfl (fun r hr => by cases hr)
        refine ev_eq this ?_
        rw [List.drop_zero, List.drop_zero, List.nil_append, if_pos ⟨h, hb, hl⟩]
        rfl
      · rw [if_neg (fun k => hb k.2.1)]
        exact ev_pos (bne_iff_ne.mpr (by omega)) (ev_ret rfl)
    · rw [if_neg (fun k => h k.1)]
      exact ev_neg (by simpa using h) (Ev.step (fun k => impl_GfSolve.j0.eq_2 ..) (ev_pos rfl (ev_ret rfl)))
  · rw [if_neg (fun k => hl k.2.2)]
    exact ev_neg (fun k => hl (hall.1 k)) (ev_ret rfl)
theorem gsolve_le (rows : List (List Nat)) (right : List Nat) (hR : ∀ r ∈ rows, ∀ c ∈ r, c < 256) (hB : ∀ c ∈ right, c < 256) : (gsolve rows right).1.length ≤ 12 := by
  unfold gsolve
  split
  · rename_i h
    cases hs : solveN rows.length rows.length (aug rows right) with
    | none => exact Nat.zero_le _
    | some R =>
      have := (solveN_ok (m := rows.length + 1) (Nat.le_refl _) (aug_length rows right h.2.1.symm) (aug_MB rows right (fun r hr => ⟨h.2.2 r hr, hR r hr⟩) hB) hs).1
      show (R.map _).length ≤ 12
      rw [List.length_map, this]
      exact h.1.2
  · exact Nat.zero_le _
theorem xor0 {a b : Nat} (h : a ^^^ b = 0) : a = b := by
  have h2 : a ^^^ b ^^^ b = 0 ^^^ b := by rw [h]
  rwa [Nat.xor_assoc, Nat.xor_self, Nat.xor_zero, Nat.zero_xor] at h2
/-- The value of a polynomial, its lowest coefficient first. -/
def pev (x : Nat) : List Nat → Nat
  | [] => 0
  | c :: l => c ^^^ Gf.gm x (pev x l)
def B8 (l : List Nat) : Prop := ∀ c ∈ l, c < 256
theorem B8.tail {a : Nat} {l : List Nat} (h : B8 (a :: l)) : B8 l := fun c hc => h c (List.mem_cons_of_mem _ hc)
theorem B8.head {a : Nat} {l : List Nat} (h : B8 (a :: l)) : a < 256 := h a List.mem_cons_self
theorem B8.cons {a : Nat} {l : List Nat} (h : a < 256) (k : B8 l) : B8 (a :: l) := fun c hc => by
  rcases List.mem_cons.1 hc with rfl | hc
  · exact h
  · exact k c hc
theorem B8.nil : B8 [] := fun c hc => by cases hc
theorem pev_lt {x : Nat} (hx : x < 256) : ∀ {l : List Nat}, B8 l → pev x l < 256
  | [], _ => (by decide : (0 : Nat) < 256)
  | _ :: _, h => Gf.xor_lt h.head (Gf.gm_lt _ hx)
/-- Functions that a polynomial of so many coefficients tells. -/
def PF (n : Nat) (f : Nat → Nat) : Prop := ∃ l, l.length = n ∧ B8 l ∧ ∀ x, x < 256 → f x = pev x l
theorem xor4 (a b c d : Nat) : (a ^^^ b) ^^^ (c ^^^ d) = (a ^^^ c) ^^^ (b ^^^ d) := by rw [Nat.xor_assoc, Nat.xor_assoc, Gf.xor_left_comm b c d]
theorem pev_add (x : Nat) (hx : x < 256) : ∀ (a b : List Nat), a.length = b.length → B8 a → B8 b → ∃ c, c.length = a.length ∧ B8 c ∧ ∀ x, x < 256 → pev x a ^^^ pev x b = pev x c
  | [], [], _, _, _ => ⟨[], rfl, B8.nil, fun _ _ => Nat.xor_self 0⟩
  | a :: l, b :: m, he, ha, hb => by
    obtain ⟨c, h1, h2, h3⟩ := pev_add x hx l m (by simpa using he) ha.tail hb.tail
    refine ⟨(a ^^^ b) :: c, by simp [h1], B8.cons (Gf.xor_lt ha.head hb.head) h2, fun y hy => ?_⟩
    show (a ^^^ Gf.gm y (pev y l)) ^^^ (b ^^^ Gf.gm y (pev y m)) = (a ^^^ b) ^^^ Gf.gm y (pev y c)
    rw [xor4, ← Gf.gm_xor, h3 y hy]
theorem PF.add {n : Nat} {f g : Nat → Nat} (hf : PF n f) (hg : PF n g) : PF n (fun x => f x ^^^ g x) := by
  obtain ⟨a, a1, a2, a3⟩ := hf
  obtain ⟨b, b1, b2, b3⟩ := hg
  obtain ⟨c, c1, c2, c3⟩ := pev_add 0 (by decide) a b (by omega) a2 b2
  exact ⟨c, by omega, c2, fun x hx => by show f x ^^^ g x = _; rw [a3 x hx, b3 x hx, c3 x hx]⟩
theorem pev_scale {k : Nat} (hk : k < 256) {x : Nat} (hx : x < 256) : ∀ l : List Nat, B8 l → pev x (l.map (Gf.gm k)) = Gf.gm k (pev x l)
  | [], _ => (Gf.gm_zero k).symm
  | a :: l, h => by
    show Gf.gm k a ^^^ Gf.gm x (pev x (l.map (Gf.gm k))) = Gf.gm k (a ^^^ Gf.gm x (pev x l))
    rw [pev_scale hk hx l h.tail, Gf.gm_xor, ← Gf.gm_assoc hx hk (pev_lt hx h.tail), Gf.gm_comm hx hk, Gf.gm_assoc hk hx (pev_lt hx h.tail)]
theorem PF.scale {n k : Nat} {f : Nat → Nat} (hk : k < 256) (hf : PF n f) : PF n (fun x => Gf.gm k (f x)) := by
  obtain ⟨a, a1, a2, a3⟩ := hf
  refine ⟨a.map (Gf.gm k), by simp [a1], fun c hc => ?_, fun x hx => ?_⟩
  · obtain ⟨d, _, rfl⟩ := List.mem_map.1 hc
    exact Gf.gm_lt _ hk
  · show Gf.gm k (f x) = _
    rw [a3 x hx, pev_scale hk hx a a2]
theorem PF.lt {n : Nat} {f : Nat → Nat} (hf : PF n f) {x : Nat} (hx : x < 256) : f x < 256 := by
  obtain ⟨a, a1, a2, a3⟩ := hf
  rw [a3 x hx]
  exact pev_lt hx a2
theorem PF.congr {n : Nat} {f g : Nat → Nat} (hf : PF n f) (h : ∀ x, x < 256 → g x = f x) : PF n g := by
  obtain ⟨a, a1, a2, a3⟩ := hf
  exact ⟨a, a1, a2, fun x hx => (h x hx).trans (a3 x hx)⟩
theorem pev_one (x c : Nat) : pev x [c] = c := by unfold pev pev; rw [Gf.gm_zero, Nat.xor_zero]
theorem pev_snoc0 (x : Nat) (l : List Nat) : pev x (l ++ [0]) = pev x l := by
  induction l with
  | nil => exact pev_one x 0
  | cons a l ih => rw [List.cons_append]; unfold pev; rw [ih]
/-- One coefficient more. -/
theorem PF.up {n : Nat} {f : Nat → Nat} (hf : PF n f) : PF (n + 1) f := by
  obtain ⟨a, a1, a2, a3⟩ := hf
  refine ⟨a ++ [0], by simp [a1], fun c hc => ?_, fun x hx => by rw [pev_snoc0]; exact a3 x hx⟩
  rcases List.mem_append.1 hc with hc | hc
  · exact a2 c hc
  · rw [List.mem_singleton.1 hc]; decide
/-- Times x - a. -/
theorem PF.lin {n a : Nat} {f : Nat → Nat} (ha : a < 256) (hf : PF n f) : PF (n + 1) (fun x => Gf.gm (f x) (x ^^^ a)) := by
  have h1 : PF (n + 1) (fun x => Gf.gm x (f x)) := by
    obtain ⟨l, l1, l2, l3⟩ := hf
    refine ⟨0 :: l, by simp [l1], B8.cons (by decide) l2, fun x hx => ?_⟩
    show Gf.gm x (f x) = 0 ^^^ Gf.gm x (pev x l)
    rw [l3 x hx, Nat.zero_xor]
  have h2 := (hf.scale ha).up
  refine (h1.add h2).congr fun x hx => ?_
  show Gf.gm (f x) (x ^^^ a) = Gf.gm x (f x) ^^^ Gf.gm a (f x)
  rw [Gf.gm_comm (hf.lt hx) (Gf.xor_lt hx ha), Gf.xor_gm hx ha (hf.lt hx)]
theorem PF.const {c : Nat} (hc : c < 256) : PF 1 (fun _ => c) := ⟨[c], rfl, B8.cons hc B8.nil, fun x _ => (show pev x [c] = c by unfold pev pev; rw [Gf.gm_zero, Nat.xor_zero]).symm⟩
theorem PF.zero : ∀ n : Nat, PF n (fun _ => 0)
  | 0 => ⟨[], rfl, B8.nil, fun _ _ => rfl⟩
  | n + 1 => (PF.zero n).up
/-- Divided by x - a. -/
theorem pev_div {a : Nat} (ha : a < 256) (n : Nat) : ∀ l : List Nat, l.length = n + 1 → B8 l → ∃ q r, q.length = n ∧ B8 q ∧ r < 256 ∧ ∀ x, x < 256 → pev x l = Gf.gm (x ^^^ a) (pev x q) ^^^ r := by
  induction n with
  | zero =>
    intro l hl h
    match l, hl, h with
    | [c], _, h => exact ⟨[], c, rfl, B8.nil, h.head, fun x _ => by show c ^^^ Gf.gm x 0 = Gf.gm _ 0 ^^^ c; rw [Gf.gm_zero, Gf.gm_zero, Nat.xor_zero, Nat.zero_xor]⟩
  | succ n ih =>
    intro l hl h
    match l, hl, h with
    | c :: l, hl, h =>
      obtain ⟨q, r, h1, h2, h3, h4⟩ := ih l (by simpa using hl) h.tail
      refine ⟨r :: q, c ^^^ Gf.gm a r, by simp [h1], B8.cons h3 h2, Gf.xor_lt h.head (Gf.gm_lt _ ha), fun x hx => ?_⟩
      show c ^^^ Gf.gm x (pev x l) = Gf.gm (x ^^^ a) (r ^^^ Gf.gm x (pev x q)) ^^^ (c ^^^ Gf.gm a r)
      have hp := pev_lt hx h2
      have hxa := Gf.xor_lt hx ha
      have e1 : Gf.gm x (Gf.gm (x ^^^ a) (pev x q)) = Gf.gm (x ^^^ a) (Gf.gm x (pev x q)) := by rw [← Gf.gm_assoc hx hxa hp, Gf.gm_comm hx hxa, Gf.gm_assoc hxa hx hp]
      have e2 : Gf.gm x r = Gf.gm (x ^^^ a) r ^^^ Gf.gm a r := by rw [Gf.xor_gm hx ha h3, Nat.xor_assoc, Nat.xor_self, Nat.xor_zero]
      rw [h4 x hx, Gf.gm_xor, Gf.gm_xor, e1, e2]
      generalize Gf.gm (x ^^^ a) (Gf.gm x (pev x q)) = u
      generalize Gf.gm (x ^^^ a) r = v
      generalize Gf.gm a r = w
      rw [Gf.xor_left_comm u v w, Gf.xor_left_comm c v, Nat.xor_assoc v u, Gf.xor_left_comm u c w, Gf.xor_left_comm c u w]
/-- As many roots as coefficients: it is naught. -/
theorem PF.roots (n : Nat) : ∀ (f : Nat → Nat), PF n f → ∀ xs : List Nat, xs.length = n → B8 xs → xs.Nodup → (∀ a ∈ xs, f a = 0) → ∀ x, x < 256 → f x = 0 := by
  induction n with
  | zero =>
    intro f hf xs _ _ _ _ x hx
    obtain ⟨l, l1, l2, l3⟩ := hf
    rw [l3 x hx, List.eq_nil_of_length_eq_zero l1]
    rfl
  | succ n ih =>
    intro f hf xs hl hb hn h0 x hx
    match xs, hl, hb, hn, h0 with
    | a :: xs, hl, hb, hn, h0 =>
      obtain ⟨l, l1, l2, l3⟩ := hf
      obtain ⟨q, r, q1, q2, q3, q4⟩ := pev_div hb.head n l l1 l2
      have hr : r = 0 := by
        have h := h0 a List.mem_cons_self
        rw [l3 a hb.head, q4 a hb.head, Nat.xor_self, Gf.zero_gm, Nat.zero_xor] at h
        exact h
      subst hr
      have hq := ih (fun x => pev x q) ⟨q, q1, q2, fun _ _ => rfl⟩ xs (by simpa using hl) hb.tail (List.nodup_cons.1 hn).2 (fun b hbm => by
        have h := h0 b (List.mem_cons_of_mem _ hbm)
        have hb2 := hb b (List.mem_cons_of_mem _ hbm)
        rw [l3 b hb2, q4 b hb2, Nat.xor_zero] at h
        have hne : b ^^^ a ≠ 0 := fun e => by
          have : b = a := xor0 e
          subst this
          exact (List.nodup_cons.1 hn).1 hbm
        by_cases hz : pev b q = 0
        · exact hz
        · exact absurd h (Gf.gm_ne (Gf.xor_lt hb2 hb.head) (pev_lt hb2 q2) hne hz)) x hx
      rw [l3 x hx, q4 x hx, Nat.xor_zero]
      show Gf.gm _ (pev x q) = 0
      rw [show pev x q = 0 from hq, Gf.gm_zero]
/-- Two polynomials with as many common values as coefficients are one. -/
theorem PF.same {n : Nat} {f g : Nat → Nat} (hf : PF n f) (hg : PF n g) {xs : List Nat} (hl : xs.length = n) (hb : B8 xs) (hn : xs.Nodup) (h : ∀ a ∈ xs, f a = g a) {x : Nat} (hx : x < 256) : f x = g x := by
  have := PF.roots n _ (hf.add hg) xs hl hb hn (fun a ha => by show f a ^^^ g a = 0; rw [h a ha, Nat.xor_self]) x hx
  exact xor0 this
theorem map_getD (f : Nat → Nat) (h0 : f 0 = 0) (l : List Nat) (c : Nat) : (l.map f).getD c 0 = f (l.getD c 0) := by
  simp only [List.getD_eq_getElem?_getD, List.getElem?_map]
  cases l[c]? with
  | none => exact h0.symm
  | some x => rfl
theorem axpy_at (k : Nat) : ∀ (a b : List Nat) (c : Nat), a.length = b.length → (axpy k a b).getD c 0 = a.getD c 0 ^^^ Gf.gm k (b.getD c 0)
  | [], [], c, _ => by
    show (List.getD [] c 0) = _
    simp [Gf.gm_zero]
  | [], _ :: _, _, h => by simp at h
  | _ :: _, [], _, h => by simp at h
  | x :: a, y :: b, 0, _ => rfl
  | x :: a, y :: b, c + 1, h => axpy_at k a b c (by simpa using h)
theorem elimN_at (i : Nat) (row : List Nat) : ∀ (M : List (List Nat)) (j0 j : Nat), j < M.length → (elimN i row j0 M).getD j [] = if j0 + j = i then M.getD j [] else axpy ((M.getD j []).getD i 0) (M.getD j []) row
  | [], _, _, h => by simp at h
  | x :: l, j0, 0, _ => rfl
  | x :: l, j0, j + 1, h => by
    have := elimN_at i row l (j0 + 1) j (by simpa using h)
    rw [show j0 + 1 + j = j0 + (j + 1) by omega] at this
    exact this
theorem setR_at (M : List (List Nat)) (p : Nat) (r : List Nat) (j : Nat) (hp : p < M.length) : (M.set p r).getD j [] = if j = p then r else M.getD j [] := by
  by_cases h : j = p
  · subst h
    rw [if_pos rfl, List.getD_eq_getElem?_getD, List.getElem?_set_self hp]
    rfl
  · rw [if_neg h, List.getD_eq_getElem?_getD, List.getElem?_set_ne (fun e => h e.symm), ← List.getD_eq_getElem?_getD]
/-- A row taken with v. -/
theorem dot_lt : ∀ (a b : List Nat) (s : Nat), B8 a → s < 256 → dotFrom a b s < 256
  | [], _, _, _, h => h
  | _ :: _, [], _, _, h => h
  | x :: a, y :: b, s, ha, h => dot_lt a b _ ha.tail (Gf.xor_lt h (Gf.gm_lt _ ha.head))
theorem dot_axpy {k : Nat} (hk : k < 256) : ∀ (a b v : List Nat) (s t : Nat), a.length = b.length → B8 a → B8 b → B8 v → s < 256 → t < 256 →
    dotFrom (axpy k a b) v (s ^^^ Gf.gm k t) = dotFrom a v s ^^^ Gf.gm k (dotFrom b v t)
  | [], [], _, _, _, _, _, _, _, _, _ => rfl
  | [], _ :: _, _, _, _, h, _, _, _, _, _ => by simp at h
  | _ :: _, [], _, _, _, h, _, _, _, _, _ => by simp at h
  | _ :: _, _ :: _, [], _, _, _, _, _, _, _, _ => rfl
  | x :: a, y :: b, z :: v, s, t, h, ha, hb, hv, hs, ht => by
    show dotFrom (axpy k a b) v ((s ^^^ Gf.gm k t) ^^^ Gf.gm (x ^^^ Gf.gm k y) z) = dotFrom a v (s ^^^ Gf.gm x z) ^^^ Gf.gm k (dotFrom b v (t ^^^ Gf.gm y z))
    rw [Gf.xor_gm ha.head (Gf.gm_lt _ hk) hv.head, Gf.gm_assoc hk hb.head hv.head, xor4, ← Gf.gm_xor]
    exact dot_axpy hk a b v _ _ (by simpa using h) ha.tail hb.tail hv.tail (Gf.xor_lt hs (Gf.gm_lt _ ha.head)) (Gf.xor_lt ht (Gf.gm_lt _ hb.head))
theorem dot_scale {k : Nat} (hk : k < 256) : ∀ (a v : List Nat) (s : Nat), B8 a → B8 v → s < 256 → dotFrom (a.map fun x => Gf.gm x k) v (Gf.gm k s) = Gf.gm k (dotFrom a v s)
  | [], _, _, _, _, _ => rfl
  | _ :: _, [], _, _, _, _ => rfl
  | x :: a, y :: v, s, ha, hv, hs => by
    show dotFrom (a.map fun x => Gf.gm x k) v (Gf.gm k s ^^^ Gf.gm (Gf.gm x k) y) = Gf.gm k (dotFrom a v (s ^^^ Gf.gm x y))
    rw [Gf.gm_comm ha.head hk, Gf.gm_assoc hk ha.head hv.head, ← Gf.gm_xor]
    exact dot_scale hk a v _ ha.tail hv.tail (Gf.xor_lt hs (Gf.gm_lt _ ha.head))
theorem dot_snoc (y z : Nat) : ∀ (a b : List Nat) (s : Nat), a.length = b.length → dotFrom (a ++ [y]) (b ++ [z]) s = dotFrom a b s ^^^ Gf.gm y z
  | [], [], _, _ => rfl
  | [], _ :: _, _, h => by simp at h
  | _ :: _, [], _, h => by simp at h
  | x :: a, w :: b, s, h => dot_snoc y z a b _ (by simpa using h)
theorem dot_zero : ∀ (a b : List Nat) (s : Nat), (∀ c, c < a.length → a.getD c 0 = 0) → dotFrom a b s = s
  | [], _, _, _ => rfl
  | _ :: _, [], _, _ => rfl
  | x :: a, y :: b, s, h => by
    have h0 : x = 0 := h 0 (Nat.succ_pos _)
    subst h0
    show dotFrom a b (s ^^^ Gf.gm 0 y) = s
    rw [Gf.zero_gm, Nat.xor_zero]
    exact dot_zero a b s fun c hc => h (c + 1) (Nat.succ_lt_succ hc)
theorem dot_unit : ∀ (a b : List Nat) (j s : Nat), a.length = b.length → B8 b → j < a.length → (∀ c, c < a.length → a.getD c 0 = if c = j then 1 else 0) → dotFrom a b s = s ^^^ b.getD j 0
  | [], _, _, _, _, _, h, _ => by simp at h
  | _ :: _, [], _, _, h, _, _, _ => by simp at h
  | x :: a, y :: b, 0, s, hl, hb, _, h => by
    have h0 : x = 1 := h 0 (Nat.succ_pos _)
    subst h0
    show dotFrom a b (s ^^^ Gf.gm 1 y) = s ^^^ y
    rw [Gf.one_gm hb.head]
    exact dot_zero a b _ fun c hc => h (c + 1) (Nat.succ_lt_succ hc)
  | x :: a, y :: b, j + 1, s, hl, hb, hj, h => by
    have h0 : x = 0 := h 0 (Nat.succ_pos _)
    subst h0
    show dotFrom a b (s ^^^ Gf.gm 0 y) = s ^^^ b.getD j 0
    rw [Gf.zero_gm, Nat.xor_zero]
    exact dot_unit a b j s (by simpa using hl) hb.tail (by simpa using hj) fun c hc => by
      have := h (c + 1) (Nat.succ_lt_succ hc)
      rw [show ((0 :: a).getD (c + 1) 0) = a.getD c 0 from rfl] at this
      rw [this]
      by_cases e : c = j
      · rw [if_pos e, if_pos (by omega)]
      · rw [if_neg e, if_neg (by omega)]
/-- Every row comes to 0 with v. -/
def Away (M : List (List Nat)) (v : List Nat) : Prop := ∀ j, j < M.length → dotFrom (M.getD j []) v 0 = 0
/-- What the step leaves at j. -/
theorem stepN_at {i p j : Nat} {M : List (List Nat)} (hi : i < M.length) (hp : p < M.length) (hj : j < M.length) :
    (stepN i p M).getD j [] = if j = i then rowN i p M else axpy ((if j = p then M.getD i [] else M.getD j []).getD i 0) (if j = p then M.getD i [] else M.getD j []) (rowN i p M) := by
  unfold stepN
  rw [elimN_at _ _ _ _ _ (by rw [List.length_set, List.length_set]; exact hj), Nat.zero_add, setR_at _ _ _ _ (by rw [List.length_set]; exact hi), setR_at _ _ _ _ hp]
  by_cases h : j = i
  · rw [if_pos h, if_pos h, if_pos h]
  · rw [if_neg h, if_neg h, if_neg h]
theorem step_away {i p m : Nat} {M : List (List Nat)} {v : List Nat} (hi : i < M.length) (hp : p < M.length) (hM : MB m M) (hv : B8 v) (h0 : (M.getD p []).getD i 0 ≠ 0) (h : Away (stepN i p M) v) : Away M v := by
  obtain ⟨q1, q2⟩ := rowN_ok (i := i) hp hM
  obtain ⟨p1, p2⟩ := hM.at hp
  have hk := getD_lt p2 (by decide : 0 < 256) i
  have hrow : dotFrom (rowN i p M) v 0 = 0 := by
    have := h i (by rw [stepN_length]; exact hi)
    rwa [stepN_at hi hp hi, if_pos rfl] at this
  have hpiv : dotFrom (M.getD p []) v 0 = 0 := by
    have e := dot_scale (Gf.inv_lt hk) (M.getD p []) v 0 p2 hv (by decide)
    rw [Gf.gm_zero] at e
    have e2 : rowN i p M = (M.getD p []).map fun x => Gf.gm x (Gf.inv ((M.getD p []).getD i 0)) := by unfold rowN; rw [if_neg h0]
    rw [e2, e] at hrow
    have hd := dot_lt (M.getD p []) v 0 p2 (by decide)
    have e3 := congrArg (Gf.gm ((M.getD p []).getD i 0)) hrow
    rw [← Gf.gm_assoc hk (Gf.inv_lt hk) hd, Gf.gm_inv hk h0, Gf.one_gm hd, Gf.gm_zero] at e3
    exact e3
  have other : ∀ j, j < M.length → j ≠ i → dotFrom (if j = p then M.getD i [] else M.getD j []) v 0 = 0 := by
    intro j hj hji
    have := h j (by rw [stepN_length]; exact hj)
    rw [stepN_at hi hp hj, if_neg hji] at this
    generalize hX : (if j = p then M.getD i [] else M.getD j []) = X at this ⊢
    have hXb : X.length = m ∧ ∀ c ∈ X, c < 256 := by
      rw [← hX]
      split
      · exact hM.at hi
      · exact hM.at hj
    have e := dot_axpy (getD_lt hXb.2 (by decide : 0 < 256) i) X (rowN i p M) v 0 0 (by omega) hXb.2 q2 hv (by decide) (by decide)
    rw [Gf.gm_zero, Nat.xor_zero, hrow, Gf.gm_zero, Nat.xor_zero] at e
    rw [← e]
    exact this
  intro j hj
  by_cases hjp : j = p
  · rw [hjp]; exact hpiv
  · by_cases hji : j = i
    · subst hji
      have := other p hp (fun e => hjp e.symm)
      rwa [if_pos rfl] at this
    · have := other j hj hji
      rwa [if_neg hjp] at this
/-- The first t columns are those of the unit rows. -/
def Cols (t n : Nat) (M : List (List Nat)) : Prop := ∀ j, j < n → ∀ c, c < t → (M.getD j []).getD c 0 = if c = j then 1 else 0
theorem step_unit {i p m n : Nat} {M : List (List Nat)} (hl : M.length = n) (hip : i ≤ p) (hp : p < n) (hM : MB m M) (h0 : (M.getD p []).getD i 0 ≠ 0) (h : Cols i n M) : Cols (i + 1) n (stepN i p M) := by
  have hi : i < n := by omega
  obtain ⟨q1, q2⟩ := rowN_ok (i := i) (p := p) (by omega) hM
  obtain ⟨p1, p2⟩ := hM.at (p := p) (by omega)
  have hk := getD_lt p2 (by decide : 0 < 256) i
  have r1 : ∀ c, c < i → (rowN i p M).getD c 0 = 0 := by
    intro c hc
    unfold rowN
    rw [map_getD (fun x => Gf.gm x _) (Gf.zero_gm _), h p hp c hc, if_neg (by omega), Gf.zero_gm]
  have r2 : (rowN i p M).getD i 0 = 1 := by
    unfold rowN
    rw [map_getD (fun x => Gf.gm x _) (Gf.zero_gm _), if_neg h0, Gf.gm_inv hk h0]
  intro j hj c hc
  rw [stepN_at (by omega) (by omega) (by omega)]
  by_cases hji : j = i
  · rw [if_pos hji]
    by_cases e : c = i
    · rw [e, r2, if_pos hji.symm]
    · rw [r1 c (by omega), if_neg (by omega)]
  · rw [if_neg hji]
    generalize hX : (if j = p then M.getD i [] else M.getD j []) = X
    have hXb : X.length = m ∧ ∀ c ∈ X, c < 256 := by
      rw [← hX]
      split
      · exact hM.at (by omega)
      · exact hM.at (by omega)
    have hXi := getD_lt hXb.2 (by decide : 0 < 256) i
    rw [axpy_at _ _ _ _ (by omega)]
    by_cases e : c = i
    · rw [e, r2, Gf.gm_one hXi, Nat.xor_self, if_neg (fun k => hji k.symm)]
    · rw [r1 c (by omega), Gf.gm_zero, Nat.xor_zero, ← hX]
      by_cases ejp : j = p
      · rw [if_pos ejp, h i hi c (by omega), if_neg e, if_neg (by omega)]
      · rw [if_neg ejp, h j hj c (by omega)]
theorem solve_sound {n m : Nat} {v : List Nat} (hv : B8 v) : ∀ {d : Nat} {M R : List (List Nat)}, d ≤ n → M.length = n → MB m M → Cols (n - d) n M → solveN n d M = some R → Cols n n R ∧ (Away R v → Away M v)
  | 0, M, R, _, hl, hM, hU, h => by cases h; exact ⟨hU, id⟩
  | d + 1, M, R, hd, hl, hM, hU, h => by
    unfold solveN at h
    cases hp : pivN (n - (d + 1)) (M.drop (n - (d + 1))) (n - (d + 1)) with
    | none => rw [hp] at h; cases h
    | some p =>
      rw [hp] at h
      obtain ⟨h1, h2, h3⟩ := pivN_some hp
      rw [List.length_drop] at h2
      have e3 : ((M.drop (n - (d + 1))).getD (p - (n - (d + 1))) []) = M.getD p [] := by
        rw [List.getD_eq_getElem?_getD, List.getElem?_drop, show n - (d + 1) + (p - (n - (d + 1))) = p by omega, ← List.getD_eq_getElem?_getD]
      rw [e3] at h3
      have hU2 := step_unit (m := m) hl h1 (by omega) hM h3 hU
      rw [show n - (d + 1) + 1 = n - d by omega] at hU2
      obtain ⟨u1, u2⟩ := solve_sound hv (by omega) (by rw [stepN_length]; exact hl) (stepN_MB (by omega) (by omega) hM) hU2 h
      exact ⟨u1, fun k => step_away (by omega) (by omega) hM hv h3 (u2 k)⟩
theorem aug_at : ∀ (a : List (List Nat)) (b : List Nat) (j : Nat), a.length = b.length → j < a.length → (aug a b).getD j [] = a.getD j [] ++ [b.getD j 0]
  | [], _, _, _, h => by simp at h
  | _ :: _, [], _, h, _ => by simp at h
  | x :: a, y :: b, 0, _, _ => rfl
  | x :: a, y :: b, j + 1, h, k => aug_at a b j (by simpa using h) (by simpa using k)
/-- What is told goes with every row. -/
theorem gsolve_sound {rows : List (List Nat)} {right : List Nat} (hR : ∀ r ∈ rows, ∀ c ∈ r, c < 256) (hB : ∀ c ∈ right, c < 256) (h : (gsolve rows right).2 = true) :
    (gsolve rows right).1.length = rows.length ∧ B8 (gsolve rows right).1 ∧ right.length = rows.length ∧ rows.length ≤ 12 ∧ ∀ j, j < rows.length → (rows.getD j []).length = rows.length ∧ dotFrom (rows.getD j []) (gsolve rows right).1 0 = right.getD j 0 := by
  unfold gsolve at h ⊢
  by_cases hg : (1 ≤ rows.length ∧ rows.length ≤ 12) ∧ right.length = rows.length ∧ ∀ r ∈ rows, r.length = rows.length
  · rw [if_pos hg] at h ⊢
    generalize hn : rows.length = n at hg h ⊢
    have hl : (aug rows right).length = n := by rw [aug_length rows right (by omega)]; exact hn
    have hM : MB (n + 1) (aug rows right) := aug_MB rows right (fun r hr => ⟨hg.2.2 r hr, hR r hr⟩) hB
    cases hs : solveN n n (aug rows right) with
    | none => rw [hs] at h; cases h
    | some R =>
      obtain ⟨hRl, hRM⟩ := solveN_ok (m := n + 1) (Nat.le_refl _) hl hM hs
      have hx : B8 (R.map fun r => r.getD n 0) := fun c hc => by
        obtain ⟨r, hr, rfl⟩ := List.mem_map.1 hc
        exact getD_lt (hRM r hr).2 (by decide) n
      have hxl : (R.map fun r => r.getD n 0).length = n := by rw [List.length_map, hRl]
      have hv : B8 ((R.map fun r => r.getD n 0) ++ [1]) := fun c hc => by
        rcases List.mem_append.1 hc with hc | hc
        · exact hx c hc
        · rw [List.mem_singleton.1 hc]; decide
      obtain ⟨u1, u2⟩ := solve_sound hv (Nat.le_refl n) hl hM (by rw [Nat.sub_self]; exact fun _ _ c hc => absurd hc (Nat.not_lt_zero c)) hs
      have hA := u2 (fun j hj => by
        have hjn : j < n := by omega
        obtain ⟨r1, r2⟩ := hRM.at (p := j) (by omega)
        have e : R.getD j [] = (R.getD j []).take n ++ [(R.getD j []).getD n 0] := by
          rw [take_getD _ _ _ (by omega), List.take_of_length_le (by omega)]
        have hxj : (R.map fun r => r.getD n 0).getD j 0 = (R.getD j []).getD n 0 := by
          simp only [List.getD_eq_getElem?_getD, List.getElem?_map]
          rw [List.getElem?_eq_getElem (by omega : j < R.length)]
          rfl
        rw [e, dot_snoc _ _ _ _ _ (by rw [List.length_take, hxl]; omega), dot_unit _ _ j _ (by rw [List.length_take, hxl]; omega) hx (by rw [List.length_take]; omega) (fun c hc => by
          rw [List.length_take] at hc
          rw [List.getD_eq_getElem?_getD, List.getElem?_take_of_lt (by omega), ← List.getD_eq_getElem?_getD]
          exact u1 j hjn c (by omega)), hxj, Nat.zero_xor, Gf.gm_one (getD_lt r2 (by decide) n), Nat.xor_self])
      refine ⟨hxl, hx, hg.2.1, hg.1.2, fun j hj => ?_⟩
      have hrj := hg.2.2 _ (getR_mem (l := rows) (i := j) (by omega))
      have := hA j (by omega)
      rw [aug_at _ _ _ (by omega) (by omega), dot_snoc _ _ _ _ _ (by rw [hrj]; exact hxl.symm), Gf.gm_one (getD_lt hB (by decide) j)] at this
      exact ⟨hrj, xor0 this⟩
  · rw [if_neg hg] at h
    cases h
/-- The first place from n on at which a power of 2 is a. -/
def logFrom (a : Nat) : Nat → Nat → Int × Bool
  | 0, _ => (-1, false)
  | f + 1, n => if Gf.E n = a then ((n : Int), true) else logFrom a f (n + 1)
theorem impl_log_l0 {a : Nat} (n : Nat) : ∀ i : Nat, i + n = 255 → Ev (fun k => impl_GfLog.l0 k (a : Int) (i : Int)) (logFrom a n i) := by
  induction n with
  | zero =>
    intro i hi
    refine Ev.step (fun k => impl_GfLog.l0.eq_2 ..) ?_
    exact ev_neg (by omega) (ev_ret rfl)
  | succ n ih =>
    intro i hi
    refine Ev.step (fun k => impl_GfLog.l0.eq_2 ..) ?_
    refine ev_pos (by omega) (ev_bind (impl_pow (a := 2) (by decide) (n := (i : Int)) (by omega)) ?_)
    have e : powOf 2 (i : Int) = Gf.E i := by
      unfold powOf
      rw [if_neg (by omega), Int.toNat_natCast, Gf.two_pow]
    rw [e]
    by_cases h : Gf.E i = a
    · refine ev_pos (by rw [h]) (ev_ret ?_)
      simp only [logFrom, if_pos h]
    · refine ev_neg (fun c => h (Int.ofNat.inj c)) ?_
      rw [wr_succ (by omega)]
      simp only [logFrom, if_neg h]
      exact ih (i + 1) (by omega)
theorem impl_log (a : Nat) : Ev (fun k => impl_GfLog.f k (a : Int)) (logFrom a 255 0) := by
  unfold impl_GfLog.f
  exact impl_log_l0 255 0 rfl
theorem and_bits_lt (x : Int) (j : Nat) (hj : j ≤ 62) (y : Int) (hy : y = ((2 ^ j - 1 : Nat) : Int)) : 0 ≤ Go.bits .and .i64 x y ∧ Go.bits .and .i64 x y < 2 ^ j := by
  subst hy
  have hp : 0 < 2 ^ j := Nat.two_pow_pos j
  have hle : (BitVec.ofInt 64 x &&& BitVec.ofInt 64 ((2 ^ j - 1 : Nat) : Int)).toNat ≤ 2 ^ j - 1 := by
    rw [BitVec.toNat_and, BitVec.ofInt_natCast, BitVec.toNat_ofNat]
    exact Nat.le_trans Nat.and_le_right (Nat.mod_le _ _)
  have h62 : 2 ^ j ≤ 2 ^ 62 := Nat.pow_le_pow_right (by decide) hj
  have e62 : (2 : Nat) ^ 62 = 4611686018427387904 := by decide
  have ec : (2 : Int) ^ j = ((2 ^ j : Nat) : Int) := by simp
  have h0 : (0 : Int) ≤ (((BitVec.ofInt 64 x &&& BitVec.ofInt 64 ((2 ^ j - 1 : Nat) : Int)).toNat : Nat) : Int) := Int.natCast_nonneg _
  have h1 : (((BitVec.ofInt 64 x &&& BitVec.ofInt 64 ((2 ^ j - 1 : Nat) : Int)).toNat : Nat) : Int) < 2 ^ 63 := by
    have : (2 : Int) ^ 63 = 9223372036854775808 := by decide
    omega
  have e : Go.bits .and .i64 x ((2 ^ j - 1 : Nat) : Int) = (((BitVec.ofInt 64 x &&& BitVec.ofInt 64 ((2 ^ j - 1 : Nat) : Int)).toNat : Nat) : Int) := wraps_i64 _ h0 h1
  rw [e, ec]
  omega
theorem and255 (x : Int) : 0 ≤ Go.bits .and .i64 x 255 ∧ Go.bits .and .i64 x 255 < 256 := by
  have := and_bits_lt x 8 (by decide) 255 (by decide)
  simpa using this
/-- Where a cursor stands: inside its bytes. -/
def Cur (b : List Int) (i : Int) : Prop := 0 ≤ i ∧ i ≤ b.length ∧ b.length ≤ 1048576
theorem d_new (l : List Int) (hl : l.length ≤ 1048576) : ∃ h, Ev (fun k => spec_l1New.f k l) (l, 0, h) := by
  have key : ∀ (n i : Nat) (h : Int), i + n = l.length → ∃ h', Ev (fun k => spec_l1New.l0 k l h (i : Int)) (l, 0, h') := by
    intro n
    induction n with
    | zero =>
      intro i h hi
      exact ⟨h, Ev.step (fun k => spec_l1New.l0.eq_2 ..) (ev_neg (by omega) (ev_ret rfl))⟩
    | succ n ih =>
      intro i h hi
      by_cases h4 : (i : Int) < 4000
      · obtain ⟨h', e⟩ := ih (i + 1) _ (by omega)
        refine ⟨h', Ev.step (fun k => spec_l1New.l0.eq_2 ..) (ev_pos (by omega) (ev_pos h4 (ev_pos (by omega) ?_)))⟩
        rw [wr_succ (by omega)]
        exact e
      · exact ⟨h, Ev.step (fun k => spec_l1New.l0.eq_2 ..) (ev_pos (by omega) (ev_neg h4 (ev_ret rfl)))⟩
  obtain ⟨h, e⟩ := key l.length 0 (wrap64 (88088 + (l.length : Int))) (Nat.zero_add _)
  exact ⟨h, e⟩
theorem d_cur {l : List Int} (hl : l.length ≤ 1048576) : Cur l 0 := ⟨Int.le_refl _, by omega, hl⟩
theorem d_byte {b : List Int} {i : Int} (h : Int) (hc : Cur b i) : ∃ v i' h', spec_l1Byte.f b i h = some (v, i', h') ∧ 0 ≤ v ∧ v < 256 ∧ Cur b i' := by
  obtain ⟨h0, h1, h2⟩ := hc
  unfold spec_l1Byte.f
  by_cases hi : i < (b.length : Int)
  · rw [if_pos hi, if_pos h0]
    exact ⟨_, _, _, rfl, (and255 _).1, (and255 _).2, by rw [wr (by omega) (by omega)]; omega, by rw [wr (by omega) (by omega)]; omega, h2⟩
  · rw [if_neg hi]
    exact ⟨_, _, _, rfl, (and255 _).1, (and255 _).2, h0, h1, h2⟩
theorem d_below {b : List Int} {i : Int} (h : Int) (hc : Cur b i) (n : Int) (hn : n ≤ 1000000) : ∃ v i' h', spec_l1Below.f b i h n = some (v, i', h') ∧ 0 ≤ v ∧ (v < n ∨ v = 0) ∧ Cur b i' := by
  unfold spec_l1Below.f
  by_cases h0 : n ≤ 0
  · rw [if_pos h0]
    exact ⟨_, _, _, rfl, Int.le_refl _, .inr rfl, hc⟩
  rw [if_neg h0]
  obtain ⟨v, i1, h1, e1, v0, v1, c1⟩ := d_byte h hc
  by_cases h256 : n ≤ 256
  · rw [if_pos h256, e1, Option.bind_some, if_neg (by omega)]
    refine ⟨_, _, _, rfl, ?_, .inl ?_, c1⟩
    · rw [Int.tmod_eq_emod_of_nonneg v0]; exact Int.emod_nonneg _ (by omega)
    · rw [Int.tmod_eq_emod_of_nonneg v0]; exact Int.emod_lt_of_pos _ (by omega)
  · rw [if_neg h256, e1, Option.bind_some]
    obtain ⟨x, i2, h2, e2, x0, x1, c2⟩ := d_byte h1 c1
    rw [e2, Option.bind_some]
    obtain ⟨y, i3, h3, e3, y0, y1, c3⟩ := d_byte h2 c2
    rw [e3, Option.bind_some]
    obtain ⟨z, i4, h4, e4, z0, z1, c4⟩ := d_byte h3 c3
    rw [e4, Option.bind_some, if_neg (by omega)]
    have ew : wrap64 ((wrap64 ((wrap64 ((wrap64 (v * 16777216)) + (wrap64 (x * 65536)))) + (wrap64 (y * 256)))) + z) = v * 16777216 + x * 65536 + y * 256 + z := by
      rw [wr (n := v * 16777216) (by omega) (by omega), wr (n := x * 65536) (by omega) (by omega), wr (n := v * 16777216 + x * 65536) (by omega) (by omega), wr (n := y * 256) (by omega) (by omega), wr (n := v * 16777216 + x * 65536 + y * 256) (by omega) (by omega), wr (by omega) (by omega)]
    refine ⟨_, _, _, rfl, ?_, .inl ?_, c4⟩
    · show 0 ≤ Int.tmod (wrap64 ((wrap64 ((wrap64 ((wrap64 (v * 16777216)) + (wrap64 (x * 65536)))) + (wrap64 (y * 256)))) + z)) n
      rw [ew, Int.tmod_eq_emod_of_nonneg (by omega)]
      exact Int.emod_nonneg _ (by omega)
    · show Int.tmod (wrap64 ((wrap64 ((wrap64 ((wrap64 (v * 16777216)) + (wrap64 (x * 65536)))) + (wrap64 (y * 256)))) + z)) n < n
      rw [ew, Int.tmod_eq_emod_of_nonneg (by omega)]
      exact Int.emod_lt_of_pos _ (by omega)
theorem d_once {b : List Int} {i : Int} (h : Int) (hc : Cur b i) (n : Int) (hn : n ≤ 1000000) : ∃ v i' h', spec_l1Once.f b i h n = some (v, i', h') ∧ Cur b i' := by
  obtain ⟨v, i', h', e, _, _, c⟩ := d_below h hc n hn
  unfold spec_l1Once.f
  rw [e, Option.bind_some]
  exact ⟨_, _, _, rfl, c⟩
theorem d_pick {b : List Int} {i : Int} (h : Int) (hc : Cur b i) (l : List Int) (h0 : 0 < l.length) (h1 : l.length ≤ 100) : ∃ v i' h', spec_l1PickInt.f b i h l = some (v, i', h') ∧ v ∈ l ∧ Cur b i' := by
  obtain ⟨v, i', h', e, v0, v1, c⟩ := d_below h hc (l.length : Int) (by omega)
  unfold spec_l1PickInt.f
  rw [e, Option.bind_some]
  have hv : v < (l.length : Int) := by omega
  rw [if_pos v0, if_pos hv]
  refine ⟨_, _, _, rfl, ?_, c⟩
  show rd l v ∈ l
  unfold rd
  rw [List.getD_eq_getElem?_getD, List.getElem?_eq_getElem (by omega)]
  exact List.getElem_mem _
theorem nat_of {l : List Int} (h : ∀ x ∈ l, 0 ≤ x ∧ x < 256) : ∃ m : List Nat, l = I m ∧ ∀ c ∈ m, c < 256 := by
  refine ⟨l.map Int.toNat, ?_, fun c hc => ?_⟩
  · unfold I
    rw [List.map_map]
    refine (List.map_id l).symm.trans (List.map_congr_left fun x hx => ?_)
    have := h x hx
    show x = ((x.toNat : Nat) : Int)
    omega
  · obtain ⟨x, hx, rfl⟩ := List.mem_map.1 hc
    have := h x hx
    omega
theorem d_l4 {b : List Int} {i : Int} (h : Int) (hc : Cur b i) : ∃ (v : Nat) (i' h' : Int), spec_l4Draw.f b i h = some ((v : Int), i', h') ∧ v < 256 ∧ Cur b i' := by
  unfold spec_l4Draw.f
  obtain ⟨o, i1, h1, e1, c1⟩ := d_once h hc 6 (by decide)
  rw [e1, Option.bind_some]
  have key : ∀ v : Int, ∃ n : Nat, v % 256 = (n : Int) ∧ n < 256 := fun v => ⟨(v % 256).toNat, by omega, by omega⟩
  cases o with
  | true =>
    rw [if_pos rfl]
    obtain ⟨v, i2, h2, e2, _, c2⟩ := d_pick h1 c1 [0, 1, 2, 255] (by decide) (by decide)
    obtain ⟨n, en, hn⟩ := key v
    exact ⟨n, i2, h2, by rw [e2, Option.bind_some, en], hn, c2⟩
  | false =>
    rw [if_neg (by simp)]
    obtain ⟨v, i2, h2, e2, _, _, c2⟩ := d_byte h1 c1
    obtain ⟨n, en, hn⟩ := key v
    exact ⟨n, i2, h2, by rw [e2, Option.bind_some, en], hn, c2⟩
theorem I_set (m : List Nat) (i x : Nat) : (I m).set i (x : Int) = I (m.set i x) := by simp [I]
theorem draw_rows_end {b : List Int} {p h : Int} (hc : Cur b p) {n : Nat} (hn : n ≤ 13) {o : List (List Nat)} {q : List Nat} (ho : o.length = n) (hq : q.length = n) (hr : ∀ r ∈ o, r.length = n ∧ ∀ c ∈ r, c < 256) (hqb : ∀ c ∈ q, c < 256) :
    ∃ (R : List (List Nat)) (r : List Nat), Ev (fun k => spec_DrawGfSolve.l0 k (n : Int) (IR o) (I q) (n : Int) b p h) (IR R, I r) ∧ (∀ x ∈ R, ∀ c ∈ x, c < 256) ∧ ∀ c ∈ r, c < 256 := by
  have hrb : ∀ x ∈ o, ∀ c ∈ x, c < 256 := fun x hx => (hr x hx).2
  have setb : ∀ {k : Nat} {y : List Nat}, (∀ c ∈ y, c < 256) → ∀ x ∈ o.set k y, ∀ c ∈ x, c < 256 := fun hy x hx => by
    rcases List.mem_or_eq_of_mem_set hx with h1 | h1
    · exact hrb x h1
    · rw [h1]; exact hy
  by_cases h1 : 1 < n
  · have m0 : o.getD 0 [] ∈ o := getR_mem (by omega)
    have m1 : o.getD 1 [] ∈ o := getR_mem (by omega)
    have l0 := (hr _ m0).1
    have l1 := (hr _ m1).1
    have e0 : rd_L2 (IR o) 0 = I (o.getD 0 []) := by rw [show (0 : Int) = ((0 : Nat) : Int) from rfl, rdB_nat, IR_getD]
    have e1 : rd_L2 (IR o) 1 = I (o.getD 1 []) := by rw [show (1 : Int) = ((1 : Nat) : Int) from rfl, rdB_nat, IR_getD]
    obtain ⟨v, i1, h2, e2, hv, _, _⟩ := d_below h hc 8 (by decide)
    by_cases c0 : v = 0
    · refine ⟨o.set 0 (o.getD 1 []), q, Ev.step (fun k => spec_DrawGfSolve.l0.eq_2 ..) (ev_neg (by omega) (ev_pos (by omega) (ev_pure e2 (ev_pos c0 (ev_pos (by rw [IR_length]; omega) (ev_pure (a := I (o.getD 1 [])) ?_ (ev_pos (by rw [IR_length]; omega) (ev_ret ?_)))))))), setb (hrb _ m1), hqb⟩
      · rw [e1]
        unfold spec_l1Bytes.f
        rw [Option.bind_some, if_pos (by rw [I_length]; simp only [List.length_nil]; omega), List.nil_append]
      · exact congrArg (fun z => (z, I q)) (IR_set o 0 _)
    by_cases c1 : v = 1
    · refine ⟨o.set 0 ((o.getD 0 []).set 0 0), q, Ev.step (fun k => spec_DrawGfSolve.l0.eq_2 ..) (ev_neg (by omega) (ev_pos (by omega) (ev_pure e2 (ev_neg c0 (ev_pos c1 (ev_pos (by rw [IR_length]; omega) (ev_pos (by rw [e0, I_length]; omega) (ev_ret ?_)))))))), setb fun c hc => ?_, hqb⟩
      · rw [e0, show (I (o.getD 0 [])).set (0 : Int).toNat 0 = I ((o.getD 0 []).set 0 0) from I_set _ 0 0]
        exact congrArg (fun z => (z, I q)) (IR_set o 0 _)
      · rcases List.mem_or_eq_of_mem_set hc with h3 | h3
        · exact hrb _ m0 c h3
        · rw [h3]; decide
    by_cases c2 : v = 2
    · refine ⟨o.set 1 (o.getD 1 [] ++ [1]), q, Ev.step (fun k => spec_DrawGfSolve.l0.eq_2 ..) (ev_neg (by omega) (ev_pos (by omega) (ev_pure e2 (ev_neg c0 (ev_neg c1 (ev_pos c2 (ev_pos (by rw [IR_length]; omega) (ev_pos (by rw [e1, I_length]; omega) (ev_ret ?_))))))))), setb fun c hc => ?_, hqb⟩
      · rw [e1, show I (o.getD 1 []) ++ [(1 : Int)] = I (o.getD 1 [] ++ [1]) from I_snoc _ 1]
        exact congrArg (fun z => (z, I q)) (IR_set o 1 _)
      · rcases List.mem_append.1 hc with h3 | h3
        · exact hrb _ m1 c h3
        · rw [List.mem_singleton.1 h3]; decide
    by_cases c3 : v = 3
    · exact ⟨o, q.drop 1, Ev.step (fun k => spec_DrawGfSolve.l0.eq_2 ..) (ev_neg (by omega) (ev_pos (by omega) (ev_pure e2 (ev_neg c0 (ev_neg c1 (ev_neg c2 (ev_pos c3 (ev_pos (by rw [I_length]; omega) (ev_ret (congrArg (fun z => (IR o, z)) (I_drop q 1)))))))))))
        , hrb, fun c hc => hqb c (List.mem_of_mem_drop hc)⟩
    · exact ⟨o, q, Ev.step (fun k => spec_DrawGfSolve.l0.eq_2 ..) (ev_neg (by omega) (ev_pos (by omega) (ev_pure e2 (ev_neg c0 (ev_neg c1 (ev_neg c2 (ev_neg c3 (ev_ret rfl)))))))), hrb, hqb⟩
  · exact ⟨o, q, Ev.step (fun k => spec_DrawGfSolve.l0.eq_2 ..) (ev_neg (by omega) (ev_neg (by omega) (ev_ret rfl))), hrb, hqb⟩
theorem draw_rows {b : List Int} {n : Nat} (hn : n ≤ 13) (d : Nat) : ∀ (i : Nat) (o : List (List Nat)) (q : List Nat) (p h : Int), i + d = n → Cur b p → o.length = i → q.length = i → (∀ r ∈ o, r.length = n ∧ ∀ c ∈ r, c < 256) → (∀ c ∈ q, c < 256) →
    ∃ (R : List (List Nat)) (r : List Nat), Ev (fun k => spec_DrawGfSolve.l0 k (n : Int) (IR o) (I q) (i : Int) b p h) (IR R, I r) ∧ (∀ x ∈ R, ∀ c ∈ x, c < 256) ∧ ∀ c ∈ r, c < 256 := by
  induction d with
  | zero =>
    intro i o q p h hi hc ho hq hr hqb
    obtain rfl : i = n := by omega
    exact draw_rows_end hc hn ho hq hr hqb
  | succ d ih =>
    intro i o q p h hi hc ho hq hr hqb
    have inner : ∀ (e j : Nat) (row : List Nat) (p h : Int), j + e = n → Cur b p → row.length = j → (∀ c ∈ row, c < 256) →
        ∃ (R : List (List Nat)) (r : List Nat), Ev (fun k => spec_DrawGfSolve.l1 k (n : Int) (IR o) (I q) (i : Int) (I row) (j : Int) b p h) (IR R, I r) ∧ (∀ x ∈ R, ∀ c ∈ x, c < 256) ∧ ∀ c ∈ r, c < 256 := by
      intro e
      induction e with
      | zero =>
        intro j row p h hj hc hl hb
        obtain ⟨v, i2, h2, e2, hv, c2⟩ := d_l4 h hc
        obtain ⟨R, r, k1, k2, k3⟩ := ih (i + 1) (o ++ [row]) (q ++ [v]) i2 h2 (by omega) c2 (by rw [List.length_append, ho]; rfl) (by rw [List.length_append, hq]; rfl)
          (fun x hx => by
            rcases List.mem_append.1 hx with hx | hx
            · exact hr x hx
            · rw [List.mem_singleton.1 hx]; exact ⟨by omega, hb⟩)
          (fun c hc => by
            rcases List.mem_append.1 hc with hc | hc
            · exact hqb c hc
            · rw [List.mem_singleton.1 hc]; exact hv)
        rw [← IR_snoc, ← I_snoc, ← wr_succ (by omega)] at k1
        exact ⟨R, r, Ev.step (fun k => spec_DrawGfSolve.l1.eq_2 ..) (ev_neg (by omega) (ev_pos (by rw [IR_length]; omega) (ev_pure e2 (ev_pos (by rw [I_length]; omega) k1)))), k2, k3⟩
      | succ e ie =>
        intro j row p h hj hc hl hb
        obtain ⟨v, i2, h2, e2, hv, c2⟩ := d_l4 h hc
        obtain ⟨R, r, k1, k2, k3⟩ := ie (j + 1) (row ++ [v]) i2 h2 (by omega) c2 (by rw [List.length_append, hl]; rfl)
          (fun c hc => by
            rcases List.mem_append.1 hc with hc | hc
            · exact hb c hc
            · rw [List.mem_singleton.1 hc]; exact hv)
        rw [← I_snoc, ← wr_succ (by omega)] at k1
        exact ⟨R, r, Ev.step (fun k => spec_DrawGfSolve.l1.eq_2 ..) (ev_pos (by omega) (ev_pure e2 (ev_pos (by rw [I_length]; omega) k1))), k2, k3⟩
    obtain ⟨R, r, k1, k2, k3⟩ := inner n 0 [] p h (by omega) hc rfl (fun c hc => by cases hc)
    exact ⟨R, r, Ev.step (fun k => spec_DrawGfSolve.l0.eq_2 ..) (ev_pos (by omega) k1), k2, k3⟩
theorem draw_gfsolve (l : List Int) (hl : l.length ≤ 1048576) : ∃ (R : List (List Nat)) (r : List Nat), Ev (fun k => spec_DrawGfSolve.f k l) (IR R, I r) ∧ (∀ x ∈ R, ∀ c ∈ x, c < 256) ∧ ∀ c ∈ r, c < 256 := by
  unfold spec_DrawGfSolve.f
  obtain ⟨h, e⟩ := d_new l hl
  obtain ⟨v, i1, h1, e1, v0, v1, c1⟩ := d_below h (d_cur hl) 5 (by decide)
  obtain ⟨w, i2, h2, e2, c2⟩ := d_once h1 c1 40 (by decide)
  cases w with
  | true =>
    obtain ⟨u, i3, h3, e3, hu, c3⟩ := d_pick h2 c2 [0, 12, 13] (by decide) (by decide)
    obtain ⟨n, rfl, hn⟩ : ∃ n : Nat, u = (n : Int) ∧ n ≤ 13 := by
      simp only [List.mem_cons, List.not_mem_nil, or_false] at hu
      exact ⟨u.toNat, by omega, by omega⟩
    obtain ⟨R, r, k1, k2, k3⟩ := draw_rows hn n 0 [] [] i3 h3 (by omega) c3 rfl rfl (fun x hx => by cases hx) (fun c hc => by cases hc)
    exact ⟨R, r, ev_bind e (ev_pure e1 (ev_pure e2 (ev_pos rfl (ev_pure e3 (Ev.step (fun k => spec_DrawGfSolve.j0.eq_2 ..) k1))))), k2, k3⟩
  | false =>
    obtain ⟨n, en, hn⟩ : ∃ n : Nat, wrap64 (1 + v) = (n : Int) ∧ n ≤ 13 := ⟨(1 + v).toNat, by rw [wr (by omega) (by omega)]; omega, by omega⟩
    obtain ⟨R, r, k1, k2, k3⟩ := draw_rows hn n 0 [] [] i2 h2 (by omega) c2 rfl rfl (fun x hx => by cases hx) (fun c hc => by cases hc)
    rw [← en] at k1
    exact ⟨R, r, ev_bind e (ev_pure e1 (ev_pure e2 (ev_neg (by simp) (Ev.step (fun k => spec_DrawGfSolve.j0.eq_2 ..) k1)))), k2, k3⟩
theorem logFrom_hit (a : Nat) : ∀ f n : Nat, (∃ j, n ≤ j ∧ j < n + f ∧ Gf.E j = a) → ∃ j : Nat, n ≤ j ∧ j < n + f ∧ Gf.E j = a ∧ logFrom a f n = ((j : Int), true)
  | 0, _, ⟨_, _, _, _⟩ => by omega
  | f + 1, n, ⟨j, h1, h2, h3⟩ => by
    unfold logFrom
    by_cases h : Gf.E n = a
    · exact ⟨n, Nat.le_refl _, by omega, h, if_pos h⟩
    · have hj : n ≠ j := fun e => h (by rw [e]; exact h3)
      obtain ⟨k, k1, k2, k3, k4⟩ := logFrom_hit a f (n + 1) ⟨j, by omega, by omega, h3⟩
      exact ⟨k, by omega, by omega, k3, by rw [if_neg h]; exact k4⟩
theorem logFrom_miss : ∀ f n : Nat, logFrom 0 f n = (-1, false)
  | 0, _ => rfl
  | f + 1, n => by
    unfold logFrom
    rw [if_neg (Gf.E_ne n)]
    exact logFrom_miss f (n + 1)
theorem solved_end {c : List Nat} (hc : ∀ x ∈ c, x < 256) (hcl : c.length ≤ 1048576) (x3 : List (List Int)) (x4 x5 : List Int) (x6 : Bool) (x9 : Int) : Ev (fun k => laws_FnSolved.j2 k (I c) x3 x4 x5 x6 x9 false) true := by
  have hk : Ev (fun k => impl_GfSolve.f k [[2, 0], [0, 1]] [4, 9]) ([2, 9], true) := by
    have e : gsolve [[2, 0], [0, 1]] [4, 9] = ([2, 9], true) := by decide +kernel
    have := impl_solve (rows := [[2, 0], [0, 1]]) (right := [4, 9]) (by decide) (by decide)
    rw [e] at this
    exact this
  obtain ⟨a, ha8, ha⟩ := at_ok hc hcl 0 (by decide)
  refine Ev.step (fun k => laws_FnSolved.j2.eq_2 ..) (ev_neg (by simp) (ev_pure ha ?_))
  rw [show ((a : Int) % 256) = (a : Int) by omega]
  have hl := impl_log a
  by_cases h0 : a = 0
  · subst h0
    rw [logFrom_miss] at hl
    exact ev_bind hl (ev_bind hk (ev_pos rfl (ev_neg (by simp) (ev_pos rfl (ev_pos rfl (ev_pos (by simp) (ev_pos rfl (ev_pos (by simp) (ev_ret rfl)))))))))
  · obtain ⟨j, _, h2, h3, h4⟩ := logFrom_hit a 255 0 ⟨Gf.lg a, Nat.zero_le _, by have := (Gf.E_lg ha8 h0).2; omega, (Gf.E_lg ha8 h0).1⟩
    rw [h4] at hl
    have hb : ((a : Int) != 0) = true := bne_iff_ne.mpr (by omega)
    have hp := impl_pow (a := 2) (by decide) (n := (j : Int)) (by omega)
    have e : powOf 2 (j : Int) = a := by
      unfold powOf
      rw [if_neg (by omega), Int.toNat_natCast, Gf.two_pow, h3]
    rw [e] at hp
    exact ev_bind hl (ev_bind hk (ev_pos (by rw [hb]; rfl) (ev_pos rfl (ev_bind hp (ev_pos rfl (ev_pos (by show (j : Int) < 255; omega) (ev_pos rfl (ev_pos (by simp) (ev_pos rfl (ev_pos (by simp) (ev_ret rfl)))))))))))
theorem solved_rows {c : List Nat} (hc : ∀ x ∈ c, x < 256) (hcl : c.length ≤ 1048576) {R : List (List Nat)} {r x : List Nat} (hR : ∀ x ∈ R, ∀ c ∈ x, c < 256) (hx : B8 x) (hxl : x.length = R.length) (hr : r.length = R.length) (hn : R.length ≤ 12)
    (h : ∀ j, j < R.length → (R.getD j []).length = R.length ∧ dotFrom (R.getD j []) x 0 = r.getD j 0) (d : Nat) : ∀ i : Nat, i + d = R.length → Ev (fun k => laws_FnSolved.l0 k (I c) (IR R) (I r) (I x) true (i : Int)) true := by
  induction d with
  | zero =>
    intro i hi
    exact Ev.step (fun k => laws_FnSolved.l0.eq_2 ..) (ev_neg (by rw [IR_length]; omega) (solved_end hc hcl _ _ _ _ _))
  | succ d ih =>
    intro i hi
    obtain ⟨h1, h2⟩ := h i (by omega)
    have hd := impl_dot (hR _ (getR_mem (l := R) (i := i) (by omega))) hx (by omega)
    rw [if_pos (by omega), h2] at hd
    have hnx := ih (i + 1) (by omega)
    rw [← wr_succ (by omega)] at hnx
    refine Ev.step (fun k => laws_FnSolved.l0.eq_2 ..) (ev_pos (by rw [IR_length]; omega) (Ev.step (fun k => laws_FnSolved.j2.eq_2 ..) (ev_pos rfl (ev_pos (by omega) (ev_pos (by rw [IR_length]; omega) ?_)))))
    rw [rdB_nat, IR_getD]
    exact ev_bind hd (ev_pos rfl (ev_pos (by rw [I_length]; omega) (ev_pos (by rw [rd_I]) hnx)))
theorem FnSolved : laws_FnSolved.Pure := by
  intro l _ _ wb
  obtain ⟨c, rfl, hc⟩ := bytes_of wb
  refine Ev.rounds ?_
  unfold laws_FnSolved.f
  refine ev_pure (a := decide (((I c).length : Int) > 1048576)) rfl ?_
  by_cases h : ((I c).length : Int) > 1048576
  · exact ev_pos (by simp [h]) (ev_ret rfl)
  refine ev_neg (by simp only [decide_eq_true_eq]; exact h) ?_
  rw [I_length] at h
  obtain ⟨R, r, e, hR, hr⟩ := draw_gfsolve (I c) (by rw [I_length]; omega)
  refine ev_bind e (ev_bind (impl_solve hR hr) (ev_bind (spec_solve hR hr) (ev_neg (by simp) ?_)))
  by_cases ok : (gsolve R r).2 = true
  · obtain ⟨s1, s2, s3, s4, s5⟩ := gsolve_sound hR hr ok
    refine ev_pos ok (Ev.step (fun k => laws_FnSolved.j0.eq_2 ..) (ev_neg ?_ ?_))
    · show ¬ (((I (gsolve R r).1).length : Int) != ((IR R).length : Int)) = true
      rw [I_length, IR_length, s1]
      simp
    · have := solved_rows hc (by omega) hR s2 s1 s3 s4 s5 R.length 0 (by omega)
      show Ev (fun k => laws_FnSolved.l0 k (I c) (IR R) (I r) (I (gsolve R r).1) (gsolve R r).2 0) true
      rw [ok]
      exact this
  · have ok2 : (gsolve R r).2 = false := Bool.eq_false_iff.mpr ok
    refine ev_neg ok (Ev.step (fun k => laws_FnSolved.j0.eq_2 ..) (ev_neg (by simp) (Ev.step (fun k => laws_FnSolved.l0.eq_2 ..) ?_)))
    by_cases h0 : (0 : Int) < ((IR R).length : Int)
    · refine ev_pos h0 ?_
      have := solved_end hc (by omega) (IR R) (I r) (I (gsolve R r).1) (gsolve R r).2 0
      rw [show (laws_FnSolved.j2 · (I c) (IR R) (I r) (I (gsolve R r).1) (gsolve R r).2 0 false) = (laws_FnSolved.j2 · (I c) (IR R) (I r) (I (gsolve R r).1) (gsolve R r).2 0 (gsolve R r).2) by rw [ok2]] at this
      exact this
    · exact ev_neg h0 (solved_end hc (by omega) _ _ _ _ _)

end Go.Proofs.Ythaoloacbbohlaa.Pure
