/- Of every text of bytes: through the values of the drawn polynomial at as many places as it has coefficients goes that polynomial alone; a place told twice is refused. -/
import Derived.Test.YthaoloacbbohlaaPFnInterpolatedx3
import Derived.Test.YthaoloacbbohlaaKit
import Derived.Test.YthaoloacbbohlaaGf
namespace Go.Proofs.Ythaoloacbbohlaa.Pure
open Go.RowKit Go.Proofs.Ythaoloacbbohlaa Go.Proofs.Ythaoloacbbohlaa.PFnInterpolated Go.Proofs.YthaoloacbbohlaaW.PrintWords Go.Proofs.YthaoloacbbohlaaW.PrintLast Go.Proofs.YthaoloacbbohlaaW.PrintMore Go.Proofs.Ythaoloacbbohlaa.K
set_option linter.unusedVariables false

theorem at_ok {m : List Nat} (hm : ∀ c ∈ m, c < 256) (hl : m.length ≤ 1048576) (i : Nat) (hi : i ≤ 1000000) : ∃ n : Nat, n < 256 ∧ laws_at.f (I m) (i : Int) = some (n : Int) := by
  unfold laws_at.f
  by_cases h : i < m.length
  · refine ⟨m.getD i 0, getD_lt hm (by decide) i, ?_⟩
    have := getD_lt hm (by decide) i
    rw [if_pos (by rw [I_length]; omega), if_pos (by omega), rd_I, wrn (by omega)]
  · refine ⟨(i * 7 + m.length) % 256, Nat.mod_lt _ (by decide), ?_⟩
    rw [if_neg (by rw [I_length]; omega), I_length, wr (n := (i : Int) * 7) (by omega) (by omega), wr (by omega) (by omega), Int.tmod_eq_emod_of_nonneg (by omega)]
    congr 1
theorem impl_mul_l0 (n : Nat) : ∀ (o x y : Nat), o < 256 → x < 256 → y < 2 ^ n → n ≤ 8 →
    Ev (fun k => impl_GfMul.l0 k (o : Int) (x : Int) (y : Int)) ((Gf.mulAux n x y o : Nat) : Int) := by
  induction n with
  | zero =>
    intro o x y ho hx hy _
    obtain rfl : y = 0 := by omega
    refine Ev.step (fun k => impl_GfMul.l0.eq_2 ..) ?_
    refine ev_neg (by omega) (ev_ret ?_)
    show (o : Int) % 256 = (o : Int)
    omega
  | succ n ih =>
    intro o x y ho hx hy hn
    have hy8 : y < 256 := Nat.lt_of_lt_of_le hy (Nat.pow_le_pow_right (by decide) hn : 2 ^ (n + 1) ≤ 2 ^ 8)
    refine Ev.step (fun k => impl_GfMul.l0.eq_2 ..) ?_
    by_cases h0 : y = 0
    · subst h0
      refine ev_neg (by omega) (ev_ret ?_)
      rw [Gf.mulAux_zero]
      omega
    refine ev_pos (by omega) ?_
    have e0 : Go.bits .and .i64 (y : Int) 1 = ((y % 2 : Nat) : Int) := odd64 (by omega)
    have e1 : wrap64 ((x : Int) * 2) = ((2 * x : Nat) : Int) := by rw [wr (by omega) (by omega)]; omega
    have e2 : Go.bits .xor .i64 (o : Int) (x : Int) = ((o ^^^ x : Nat) : Int) := xor64 (by omega) (by omega)
    have e3 : Go.bits .xor .i64 ((2 * x : Nat) : Int) 285 = (((2 * x) ^^^ 285 : Nat) : Int) := xor64 (b := 285) (by omega) (by omega)
    have e4 : ((y : Int) / 2) = ((y / 2 : Nat) : Int) := by omega
    simp only [e0, e1, e2, e3, e4]
    have hd := Gf.dbl_lt hx
    have hox := Gf.xor_lt ho hx
    have hy2 : y / 2 < 2 ^ n := by rw [Nat.pow_succ] at hy; omega
    simp only [Gf.mulAux]
    by_cases h1 : y % 2 = 1
    · refine ev_pos (by omega) ?_
      rw [if_pos h1]
      by_cases h2 : 2 * x > 255
      · refine ev_pos (by omega) ?_
        have := ih (o ^^^ x) (Gf.dbl x) (y / 2) hox hd hy2 (by omega)
        have e : Gf.dbl x = (2 * x) ^^^ 285 := if_pos h2
        rw [e] at this ⊢
        exact this
      · refine ev_neg (by omega) ?_
        have := ih (o ^^^ x) (Gf.dbl x) (y / 2) hox hd hy2 (by omega)
        have e : Gf.dbl x = 2 * x := if_neg h2
        rw [e] at this ⊢
        exact this
    · refine ev_neg (by omega) ?_
      rw [if_neg h1]
      by_cases h2 : 2 * x > 255
      · refine ev_pos (by omega) ?_
        have := ih o (Gf.dbl x) (y / 2) ho hd hy2 (by omega)
        have e : Gf.dbl x = (2 * x) ^^^ 285 := if_pos h2
        rw [e] at this ⊢
        exact this
      · refine ev_neg (by omega) ?_
        have := ih o (Gf.dbl x) (y / 2) ho hd hy2 (by omega)
        have e : Gf.dbl x = 2 * x := if_neg h2
        rw [e] at this ⊢
        exact this
theorem impl_mul {a b : Nat} (ha : a < 256) (hb : b < 256) : Ev (fun k => impl_GfMul.f k (a : Int) (b : Int)) ((Gf.gm a b : Nat) : Int) := by
  have := impl_mul_l0 8 0 a b (by decide) ha hb (by decide)
  unfold impl_GfMul.f
  rw [wrn (by omega), wrn (by omega)]
  exact this
theorem impl_pow_l0 (n : Nat) : ∀ (m a o : Nat), m < 2 ^ n → n ≤ 62 → a < 256 → o < 256 →
    Ev (fun k => impl_GfPow.l0 k (a : Int) (m : Int) (o : Int)) ((Gf.gm o (Gf.gp a m) : Nat) : Int) := by
  induction n with
  | zero =>
    intro m a o hm _ ha ho
    obtain rfl : m = 0 := by omega
    refine Ev.step (fun k => impl_GfPow.l0.eq_2 ..) ?_
    refine ev_neg (by omega) (ev_ret ?_)
    show (o : Int) = ((Gf.gm o 1 : Nat) : Int)
    rw [Gf.gm_one ho]
  | succ n ih =>
    intro m a o hm hn ha ho
    have hm63 : m < 9223372036854775808 := by
      have : 2 ^ (n + 1) ≤ 2 ^ 63 := Nat.pow_le_pow_right (by decide) (by omega)
      omega
    refine Ev.step (fun k => impl_GfPow.l0.eq_2 ..) ?_
    by_cases h0 : m = 0
    · subst h0
      refine ev_neg (by omega) (ev_ret ?_)
      show (o : Int) = ((Gf.gm o 1 : Nat) : Int)
      rw [Gf.gm_one ho]
    refine ev_pos (by omega) ?_
    have e0 : Go.bits .and .i64 (m : Int) 1 = ((m % 2 : Nat) : Int) := odd64 hm63
    have e4 : ((m : Int) / 2) = ((m / 2 : Nat) : Int) := by omega
    simp only [e0, e4]
    have hm2 : m / 2 < 2 ^ n := by rw [Nat.pow_succ] at hm; omega
    have hs := Gf.gp_sq ha (m / 2)
    by_cases h1 : m % 2 = 1
    · refine ev_pos (by omega) (ev_bind (impl_mul ho ha) (ev_bind (impl_mul ha ha) ?_))
      have := ih (m / 2) (Gf.gm a a) (Gf.gm o a) hm2 (by omega) (Gf.gm_lt _ ha) (Gf.gm_lt _ ho)
      refine ev_eq this ?_
      rw [hs, Gf.gm_assoc ho ha (Gf.gp_lt ha _)]
      congr 2
      have e : 1 + 2 * (m / 2) = m := by omega
      have := Gf.gp_add ha 1 (2 * (m / 2))
      rw [e] at this
      rw [this]
      congr 1
      show a = Gf.gm 1 a
      exact (Gf.one_gm ha).symm
    · refine ev_neg (by omega) (ev_bind (impl_mul ha ha) ?_)
      have := ih (m / 2) (Gf.gm a a) o hm2 (by omega) (Gf.gm_lt _ ha) ho
      refine ev_eq this ?_
      rw [hs, show 2 * (m / 2) = m by omega]
/-- What a power is: 0 below 0, else the product. -/
def powOf (a : Nat) (n : Int) : Nat := if n < 0 then 0 else Gf.gp a n.toNat
theorem powOf_lt {a : Nat} (ha : a < 256) (n : Int) : powOf a n < 256 := by
  unfold powOf; split
  · decide
  · exact Gf.gp_lt ha _
theorem impl_pow {a : Nat} (ha : a < 256) {n : Int} (hn : n ≤ 9223372036854775807) : Ev (fun k => impl_GfPow.f k (a : Int) n) ((powOf a n : Nat) : Int) := by
  unfold impl_GfPow.f powOf
  by_cases h : n < 0
  · rw [if_pos h]
    refine ev_pos h ?_
    refine Ev.step (fun k => impl_GfPow.j0.eq_2 ..) ?_
    exact ev_pos rfl (ev_ret rfl)
  refine ev_neg h ?_
  rw [if_neg h]
  obtain ⟨m, rfl⟩ := Int.eq_ofNat_of_zero_le (by omega : 0 ≤ n)
  rw [Int.toNat_natCast]
  by_cases hm : m = 0
  · subst hm
    refine ev_neg (by omega) ?_
    refine Ev.step (fun k => impl_GfPow.j0.eq_2 ..) ?_
    exact ev_neg (by decide) (ev_pos rfl (ev_ret rfl))
  refine ev_pos (by omega) ?_
  refine Ev.step (fun k => impl_GfPow.j0.eq_2 ..) ?_
  by_cases h0 : a = 0
  · subst h0
    refine ev_pos (by decide) (ev_ret ?_)
    obtain ⟨q, rfl⟩ : ∃ q, m = q + 1 := ⟨m - 1, by omega⟩
    rw [Gf.gp_zero]; rfl
  · refine ev_neg (by simpa using h0) (ev_neg (by omega) ?_)
    have e : Int.tmod (m : Int) 255 = ((m % 255 : Nat) : Int) := by
      rw [Int.tmod_eq_emod_of_nonneg (by omega)]; omega
    rw [e]
    have := impl_pow_l0 8 (m % 255) a 1 (Nat.lt_trans (Nat.mod_lt _ (by decide)) (by decide)) (by decide) ha (by decide)
    refine ev_eq this ?_
    rw [Gf.one_gm (Gf.gp_lt ha _), Gf.gp_mod ha h0]
theorem impl_inv {a : Nat} (ha : a < 256) : Ev (fun k => impl_GfInv.f k (a : Int)) (((if a = 0 then 0 else Gf.inv a : Nat) : Int), decide (a ≠ 0)) := by
  unfold impl_GfInv.f
  by_cases h : a = 0
  · subst h
    exact ev_pos rfl (ev_ret rfl)
  · refine ev_neg (by omega) (ev_bind (impl_pow ha (by decide)) (ev_ret ?_))
    rw [if_neg h]
    simp [h, powOf, Gf.inv]
/-- The sum of the products, place by place. -/
def dotFrom : List Nat → List Nat → Nat → Nat
  | a :: l, b :: m, s => dotFrom l m (s ^^^ Gf.gm a b)
  | _, _, s => s
theorem impl_dot_l0 (a b : List Nat) (ha : ∀ c ∈ a, c < 256) (hb : ∀ c ∈ b, c < 256) (hl : a.length ≤ 140737488355328) (he : a.length = b.length) (n : Nat) : ∀ (i s : Nat), i + n = a.length → s < 256 →
    Ev (fun k => impl_GfDot.l0 k (I b) (s : Int) (I a) ((I a).length : Int) (i : Int)) (((dotFrom (a.drop i) (b.drop i) s : Nat) : Int), true) := by
  induction n with
  | zero =>
    intro i s hi hs
    refine Ev.step (fun k => impl_GfDot.l0.eq_2 ..) ?_
    refine ev_neg (by rw [I_length]; omega) (ev_ret ?_)
    rw [List.drop_eq_nil_of_le (by omega : a.length ≤ i)]; rfl
  | succ n ih =>
    intro i s hi hs
    refine Ev.step (fun k => impl_GfDot.l0.eq_2 ..) ?_
    have hx := getD_lt ha (by decide) i
    have hy := getD_lt hb (by decide) i
    refine ev_pos (by rw [I_length]; omega) (ev_pos (by omega) (ev_pos (by rw [I_length]; omega) (ev_pos (by rw [I_length]; omega) ?_)))
    rw [rd_I, rd_I, wr_succ (by omega)]
    refine ev_bind (impl_mul hx hy) ?_
    rw [xor8 hs (Gf.gm_lt _ hx), drop_getD a 0 i (by omega), drop_getD b 0 i (by omega)]
    exact ih (i + 1) _ (by omega) (Gf.xor_lt hs (Gf.gm_lt _ hx))
theorem impl_dot {a b : List Nat} (ha : ∀ c ∈ a, c < 256) (hb : ∀ c ∈ b, c < 256) (hl : a.length ≤ 140737488355328) :
    Ev (fun k => impl_GfDot.f k (I a) (I b)) (if a.length = b.length then (((dotFrom a b 0 : Nat) : Int), true) else (0, false)) := by
  unfold impl_GfDot.f
  by_cases h : a.length = b.length
  · rw [if_pos h]
    refine ev_pos (by rw [I_length, I_length, h]) ?_
    have := impl_dot_l0 a b ha hb hl h a.length 0 0 (by omega) (by decide)
    simpa using this
  · rw [if_neg h]
    refine ev_neg (by rw [I_length, I_length]; omega) (ev_ret rfl)
/-- The value of a polynomial, coefficient by coefficient. -/
def atFrom (x : Nat) : List Nat → Nat → Nat
  | [], s => s
  | c :: l, s => atFrom x l (Gf.gm s x ^^^ c)
theorem impl_at_l0 (m : List Nat) (hm : ∀ c ∈ m, c < 256) (hl : m.length ≤ 140737488355328) {x : Nat} (hx : x < 256) (n : Nat) : ∀ (i s : Nat), i + n = m.length → s < 256 →
    Ev (fun k => impl_GfAt.l0 k (x : Int) (s : Int) (I m) ((I m).length : Int) (i : Int)) ((atFrom x (m.drop i) s : Nat) : Int) := by
  induction n with
  | zero =>
    intro i s hi hs
    refine Ev.step (fun k => impl_GfAt.l0.eq_2 ..) ?_
    refine ev_neg (by rw [I_length]; omega) (ev_ret ?_)
    rw [List.drop_eq_nil_of_le (by omega)]; rfl
  | succ n ih =>
    intro i s hi hs
    refine Ev.step (fun k => impl_GfAt.l0.eq_2 ..) ?_
    refine ev_pos (by rw [I_length]; omega) (ev_pos (by omega) (ev_pos (by rw [I_length]; omega) (ev_bind (impl_mul hs hx) ?_)))
    have hc := getD_lt hm (by decide) i
    rw [wr_succ (by omega), rd_I, xor8 (Gf.gm_lt _ hs) hc, drop_getD m 0 i (by omega)]
    exact ih (i + 1) _ (by omega) (Gf.xor_lt (Gf.gm_lt _ hs) hc)
theorem impl_at {m : List Nat} (hm : ∀ c ∈ m, c < 256) (hl : m.length ≤ 140737488355328) {x : Nat} (hx : x < 256) : Ev (fun k => impl_GfAt.f k (I m) (x : Int)) ((atFrom x m 0 : Nat) : Int) := by
  unfold impl_GfAt.f
  have := impl_at_l0 m hm hl hx m.length 0 0 (by omega) (by decide)
  simpa using this
/-- The product of the ways from z to all places but the i-th. -/
def pr (z i : Nat) : List Nat → Nat → Nat → Nat
  | [], _, a => a
  | x :: l, j, a => if j = i then pr z i l (j + 1) a else pr z i l (j + 1) (Gf.gm a (z ^^^ x))
def inv0 (a : Nat) : Nat := if a = 0 then 0 else Gf.inv a
theorem inv0_lt {a : Nat} (h : a < 256) : inv0 a < 256 := by
  unfold inv0
  split
  · decide
  · exact Gf.inv_lt h
/-- How much the i-th place counts at z. -/
def wt (xs : List Nat) (z i : Nat) : Nat := Gf.gm (pr z i xs 0 1) (inv0 (pr (xs.getD i 0) i xs 0 1))
theorem pr_lt (z i : Nat) (l : List Nat) : ∀ j a, a < 256 → pr z i l j a < 256 := by
  induction l with
  | nil => intro j a h; exact h
  | cons x l ih =>
    intro j a h
    unfold pr
    split
    · exact ih _ _ h
    · exact ih _ _ (Gf.gm_lt _ h)
theorem wt_lt (xs : List Nat) (z i : Nat) : wt xs z i < 256 := Gf.gm_lt _ (pr_lt _ _ _ _ _ (by decide))
theorem impl_w_l1 (xs : List Nat) (hx : ∀ c ∈ xs, c < 256) (hl : xs.length ≤ 100) (z : Nat) (hz : z < 256) (o : List Nat) (ho : o.length ≤ 100) (i : Nat) (hi : i < xs.length) {R : List Int} (n : Nat) : ∀ j a b, j + n = xs.length → a < 256 → b < 256 →
    Ev (fun k => impl_weights.l0 k (I xs) (z : Int) (I (o ++ [Gf.gm (pr z i (xs.drop j) j a) (inv0 (pr (xs.getD i 0) i (xs.drop j) j b))])) (I xs) ((I xs).length : Int) (wrap64 ((i : Int) + 1))) R →
    Ev (fun k => impl_weights.l1 k (I xs) (z : Int) (I o) (i : Int) ((xs.getD i 0 : Nat) : Int) (a : Int) (b : Int) (I xs) ((I xs).length : Int) (i : Int) (I xs) ((I xs).length : Int) (j : Int)) R := by
  induction n with
  | zero =>
    intro j a b hj ha hb h
    rw [show xs.drop j = [] from List.drop_eq_nil_of_le (by omega)] at h
    refine Ev.step (fun k => impl_weights.l1.eq_2 ..) (ev_neg (by rw [I_length]; omega) (ev_bind (impl_inv hb) (ev_bind (impl_mul ha (inv0_lt hb)) (ev_pos (by rw [I_length]; omega) ?_))))
    rw [I_snoc]
    exact h
  | succ n ih =>
    intro j a b hj ha hb h
    rw [drop_getD xs 0 j (by omega)] at h
    have hxj := getD_lt hx (by decide) j
    have hxi := getD_lt hx (by decide) i
    refine Ev.step (fun k => impl_weights.l1.eq_2 ..) (ev_pos (by rw [I_length]; omega) (ev_pos (by omega) (ev_pos (by rw [I_length]; omega) ?_)))
    rw [rd_I, wr_succ (n := j) (by omega), xor8 hz hxj, xor8 hxi hxj]
    by_cases hij : j = i
    · subst hij
      refine ev_pos rfl (ih (j + 1) a b (by omega) ha hb ?_)
      unfold pr at h
      rw [if_pos rfl, if_pos rfl] at h
      exact h
    · refine ev_neg (by omega) (ev_bind (impl_mul ha (Gf.xor_lt hz hxj)) (ev_bind (impl_mul hb (Gf.xor_lt hxi hxj)) (ih (j + 1) _ _ (by omega) (Gf.gm_lt _ ha) (Gf.gm_lt _ hb) ?_)))
      unfold pr at h
      rw [if_neg hij, if_neg hij] at h
      exact h
theorem range_snoc {α : Type} (f : Nat → α) (i : Nat) : (List.range i).map f ++ [f i] = (List.range (i + 1)).map f := by rw [List.range_succ, List.map_append]; rfl
theorem impl_w_l0 (xs : List Nat) (hx : ∀ c ∈ xs, c < 256) (hl : xs.length ≤ 100) (z : Nat) (hz : z < 256) (n : Nat) : ∀ i : Nat, i + n = xs.length →
    Ev (fun k => impl_weights.l0 k (I xs) (z : Int) (I ((List.range i).map (wt xs z))) (I xs) ((I xs).length : Int) (i : Int)) (I ((List.range xs.length).map (wt xs z))) := by
  induction n with
  | zero =>
    intro i hi
    rw [show i = xs.length by omega]
    exact Ev.step (fun k => impl_weights.l0.eq_2 ..) (ev_neg (by rw [I_length]; omega) (ev_ret rfl))
  | succ n ih =>
    intro i hi
    have h := ih (i + 1) (by omega)
    rw [← range_snoc] at h
    refine Ev.step (fun k => impl_weights.l0.eq_2 ..) (ev_pos (by rw [I_length]; omega) (ev_pos (by omega) (ev_pos (by rw [I_length]; omega) ?_)))
    rw [rd_I]
    refine impl_w_l1 xs hx hl z hz _ (by simp; omega) i (by omega) xs.length 0 1 1 (by omega) (by decide) (by decide) ?_
    rw [wr_succ (by omega)]
    exact h
theorem impl_w {xs : List Nat} (hx : ∀ c ∈ xs, c < 256) (hl : xs.length ≤ 100) {z : Nat} (hz : z < 256) : Ev (fun k => impl_weights.f k (I xs) (z : Int)) (I ((List.range xs.length).map (wt xs z))) := by
  unfold impl_weights.f
  exact impl_w_l0 xs hx hl z hz xs.length 0 (by omega)
/-- The value at z of what runs through ys, summed over the first places. -/
def fy (ys xs : List Nat) (z : Nat) : Nat → Nat
  | 0 => 0
  | i + 1 => fy ys xs z i ^^^ Gf.gm (ys.getD i 0) (wt xs z i)
theorem fy_lt {ys : List Nat} (hy : ∀ c ∈ ys, c < 256) (xs : List Nat) (z i : Nat) : fy ys xs z i < 256 := by
  induction i with
  | zero => exact (by decide : 0 < 256)
  | succ i ih => exact Gf.xor_lt ih (Gf.gm_lt _ (getD_lt hy (by decide) i))
theorem map_at {α : Type} (f : Nat → α) (d : α) {n i : Nat} (h : i < n) : ((List.range n).map f).getD i d = f i := by
  rw [List.getD_eq_getElem?_getD, List.getElem?_map, List.getElem?_range h]
  rfl
theorem impl_in_60 (n : Nat) : impl_in.f (n : Int) 1 60 = some (decide (1 ≤ n ∧ n ≤ 60)) := by
  unfold impl_in.f
  by_cases h : (n : Int) ≥ 1
  · rw [if_pos h]
    exact congrArg some (decide_eq_decide.2 (by omega))
  · rw [if_neg h]
    exact congrArg some (decide_eq_false (by omega)).symm
theorem compact_le : ∀ l : List Int, (compact l).length ≤ l.length
  | [] => Nat.le_refl _
  | [_] => Nat.le_refl _
  | x :: y :: l => by
    have := compact_le (y :: l)
    unfold compact
    split
    · exact Nat.le_succ_of_le this
    · exact Nat.succ_le_succ this
theorem compact_nodup : ∀ l : List Int, l.Pairwise (fun a b => a ≤ b) → ((compact l).length = l.length ↔ l.Nodup)
  | [], _ => ⟨fun _ => List.nodup_nil, fun _ => rfl⟩
  | [x], _ => ⟨fun _ => by simp, fun _ => rfl⟩
  | x :: y :: l, h => by
    have ih := compact_nodup (y :: l) (List.pairwise_cons.1 h).2
    have hle := compact_le (y :: l)
    have h1 := (List.pairwise_cons.1 h).1
    have h2 := (List.pairwise_cons.1 (List.pairwise_cons.1 h).2).1
    unfold compact
    by_cases e : x = y
    · subst e
      rw [if_pos rfl]
      refine ⟨fun e2 => ?_, fun e2 => ?_⟩
      · simp only [List.length_cons] at e2 hle
        omega
      · exact absurd List.mem_cons_self (List.nodup_cons.1 e2).1
    · rw [if_neg e]
      show (compact (y :: l)).length + 1 = (y :: l).length + 1 ↔ _
      rw [Nat.add_right_cancel_iff, ih]
      refine ⟨fun k => List.nodup_cons.2 ⟨fun hm => ?_, k⟩, fun k => (List.nodup_cons.1 k).2⟩
      have hxy := h1 y List.mem_cons_self
      rcases List.mem_cons.1 hm with hm | hm
      · exact e hm
      · have := h2 x hm; omega
/-- No two places are alike. -/
def far (xs : List Nat) : Prop := ∀ i, i < xs.length → ∀ j, j < xs.length → j ≠ i → xs.getD j 0 ≠ xs.getD i 0
theorem far_of {xs : List Nat} (h : xs.Nodup) : far xs := by
  intro i hi j hj hne e
  have hp := List.pairwise_iff_getElem.1 h
  rw [List.getD_eq_getElem?_getD, List.getD_eq_getElem?_getD, List.getElem?_eq_getElem hi, List.getElem?_eq_getElem hj] at e
  rcases Nat.lt_or_gt_of_ne hne with k | k
  · exact hp j i hj hi k e
  · exact hp i j hi hj k e.symm
theorem of_far {xs : List Nat} (h : far xs) : xs.Nodup := by
  refine List.pairwise_iff_getElem.2 fun i j hi hj hij e => h j hj i hi (by omega) ?_
  rw [List.getD_eq_getElem?_getD, List.getD_eq_getElem?_getD, List.getElem?_eq_getElem hi, List.getElem?_eq_getElem hj]
  exact e
theorem I_nodup (xs : List Nat) : (I xs).Nodup ↔ xs.Nodup := by
  unfold I List.Nodup
  rw [List.pairwise_map]
  exact ⟨fun h => h.imp (fun k e => k (congrArg _ e)), fun h => h.imp (fun k e => k (Int.ofNat.inj e))⟩
theorem impl_distinctF (xs : List Nat) (h : 1 ≤ xs.length ∧ xs.length ≤ 60) : ∃ b : Bool, impl_distinct.f (I xs) = some b ∧ (b = true ↔ xs.Nodup) := by
  refine ⟨decide ((compact (sorted8 (I xs))).length = (I xs).length), ?_, ?_⟩
  · unfold impl_distinct.f
    rw [if_pos (by rw [I_length]; omega)]
  · have hp : (sorted8 (I xs)).Perm (I xs) := List.mergeSort_perm _ _
    have hs : (sorted8 (I xs)).Pairwise (fun a b => a ≤ b) := (List.pairwise_mergeSort (le := fun x y : Int => decide (x ≤ y)) (fun a b c h1 h2 => by simp at *; omega) (fun a b => by simp; omega) (I xs)).imp (fun h => of_decide_eq_true h)
    have h2 := compact_nodup _ hs
    rw [hp.length_eq, hp.nodup_iff, I_nodup] at h2
    rw [decide_eq_true_iff]
    exact h2
theorem dot_fy (xs ys : List Nat) (z : Nat) (hy : ∀ c ∈ ys, c < 256) (hl : ys.length = xs.length) (n : Nat) : ∀ i, i + n = xs.length → dotFrom (((List.range xs.length).map (wt xs z)).drop i) (ys.drop i) (fy ys xs z i) = fy ys xs z xs.length := by
  induction n with
  | zero =>
    intro i hi
    rw [show i = xs.length by omega, List.drop_eq_nil_of_le (by simp)]
    rfl
  | succ n ih =>
    intro i hi
    rw [drop_getD _ 0 i (by simp; omega), drop_getD ys 0 i (by omega), map_at _ _ (by omega)]
    have h := ih (i + 1) (by omega)
    rw [show fy ys xs z (i + 1) = fy ys xs z i ^^^ Gf.gm (ys.getD i 0) (wt xs z i) from rfl, Gf.gm_comm (getD_lt hy (by decide) i) (wt_lt xs z i)] at h
    exact h
theorem impl_lag {xs ys : List Nat} (hx : ∀ c ∈ xs, c < 256) (hy : ∀ c ∈ ys, c < 256) {z : Nat} (hz : z < 256) (h : (1 ≤ xs.length ∧ xs.length ≤ 60) ∧ ys.length = xs.length ∧ xs.Nodup) :
    Ev (fun k => impl_GfLagrange.f k (I xs) (I ys) (z : Int)) (((fy ys xs z xs.length : Nat) : Int), true) := by
  obtain ⟨h1, h2, h3⟩ := h
  obtain ⟨b, hb, hn⟩ := impl_distinctF xs h1
  have hbt := hn.2 h3
  subst hbt
  unfold impl_GfLagrange.f
  rw [I_length, I_length]
  refine ev_pure (impl_in_60 _) (ev_pos (decide_eq_true h1) (ev_pos (by omega) (ev_pure hb (Ev.step (fun k => impl_GfLagrange.j0.eq_2 ..) (ev_neg (by decide) (ev_bind (impl_w hx (by omega) hz) ?_))))))
  have hd := impl_dot (a := (List.range xs.length).map (wt xs z)) (b := ys) (fun c hc => by obtain ⟨t, _, rfl⟩ := List.mem_map.1 hc; exact wt_lt _ _ _) hy (by simp; omega)
  rw [if_pos (by simp [h2])] at hd
  refine ev_bind hd (ev_ret ?_)
  have := dot_fy xs ys z hy h2 xs.length 0 (by omega)
  rw [List.drop_zero, List.drop_zero] at this
  show (((dotFrom _ ys 0 : Nat) : Int), true) = _
  rw [show (0 : Nat) = fy ys xs z 0 from rfl, this]
theorem impl_lag_no {xs ys : List Nat} (z : Nat) (h : ¬ ((1 ≤ xs.length ∧ xs.length ≤ 60) ∧ ys.length = xs.length ∧ xs.Nodup)) :
    Ev (fun k => impl_GfLagrange.f k (I xs) (I ys) (z : Int)) (0, false) := by
  unfold impl_GfLagrange.f
  rw [I_length, I_length]
  refine ev_pure (impl_in_60 _) ?_
  by_cases h1 : 1 ≤ xs.length ∧ xs.length ≤ 60
  · refine ev_pos (decide_eq_true h1) ?_
    by_cases h2 : ys.length = xs.length
    · obtain ⟨b, hb, hn⟩ := impl_distinctF xs h1
      have hbf : b = false := by
        cases b with
        | false => rfl
        | true => exact absurd ⟨h1, h2, hn.1 rfl⟩ h
      subst hbf
      exact ev_pos (by omega) (ev_pure hb (Ev.step (fun k => impl_GfLagrange.j0.eq_2 ..) (ev_pos rfl (ev_ret rfl))))
    · exact ev_neg (by omega) (Ev.step (fun k => impl_GfLagrange.j0.eq_2 ..) (ev_pos rfl (ev_ret rfl)))
  · exact ev_neg (by simpa using h1) (Ev.step (fun k => impl_GfLagrange.j0.eq_2 ..) (ev_pos rfl (ev_ret rfl)))
theorem xor0 {a b : Nat} (h : a ^^^ b = 0) : a = b := by
  have h2 : a ^^^ b ^^^ b = 0 ^^^ b := by rw [h]
  rwa [Nat.xor_assoc, Nat.xor_self, Nat.xor_zero, Nat.zero_xor] at h2
/-- The value of a polynomial, its lowest coefficient first. -/
def pev (x : Nat) : List Nat → Nat
  | [] => 0
  | c :: l => c ^^^ Gf.gm x (pev x l)
def B8 (l : List Nat) : Prop := ∀ c ∈ l, c < 256
theorem B8.tail {a : Nat} {l : List Nat} (h : B8 (a :: l)) : B8 l := fun c hc => h c (List.mem_cons_of_mem _ hc)
theorem B8.head {a : Nat} {l : List Nat} (h : B8 (a :: l)) : a < 256 := h a List.mem_cons_self
theorem B8.cons {a : Nat} {l : List Nat} (h : a < 256) (k : B8 l) : B8 (a :: l) := fun c hc => by
  rcases List.mem_cons.1 hc with rfl | hc
  · exact h
  · exact k c hc
theorem B8.nil : B8 [] := fun c hc => by cases hc
theorem pev_lt {x : Nat} (hx : x < 256) : ∀ {l : List Nat}, B8 l → pev x l < 256
  | [], _ => (by decide : (0 : Nat) < 256)
  | _ :: _, h => Gf.xor_lt h.head (Gf.gm_lt _ hx)
/-- Functions that a polynomial of so many coefficients tells. -/
def PF (n : Nat) (f : Nat → Nat) : Prop := ∃ l, l.length = n ∧ B8 l ∧ ∀ x, x < 256 → f x = pev x l
theorem xor4 (a b c d : Nat) : (a ^^^ b) ^^^ (c ^^^ d) = (a ^^^ c) ^^^ (b ^^^ d) := by rw [Nat.xor_assoc, Nat.xor_assoc, Gf.xor_left_comm b c d]
theorem pev_add (x : Nat) (hx : x < 256) : ∀ (a b : List Nat), a.length = b.length → B8 a → B8 b → ∃ c, c.length = a.length ∧ B8 c ∧ ∀ x, x < 256 → pev x a ^^^ pev x b = pev x c
  | [], [], _, _, _ => ⟨[], rfl, B8.nil, fun _ _ => Nat.xor_self 0⟩
  | a :: l, b :: m, he, ha, hb => by
    obtain ⟨c, h1, h2, h3⟩ := pev_add x hx l m (by simpa using he) ha.tail hb.tail
    refine ⟨(a ^^^ b) :: c, by simp [h1], B8.cons (Gf.xor_lt ha.head hb.head) h2, fun y hy => ?_⟩
    show (a ^^^ Gf.gm y (pev y l)) ^^^ (b ^^^ Gf.gm y (pev y m)) = (a ^^^ b) ^^^ Gf.gm y (pev y c)
    rw [xor4, ← Gf.gm_xor, h3 y hy]
theorem PF.add {n : Nat} {f g : Nat → Nat} (hf : PF n f) (hg : PF n g) : PF n (fun x => f x ^^^ g x) := by
  obtain ⟨a, a1, a2, a3⟩ := hf
  obtain ⟨b, b1, b2, b3⟩ := hg
  obtain ⟨c, c1, c2, c3⟩ := pev_add 0 (by decide) a b (by omega) a2 b2
  exact ⟨c, by omega, c2, fun x hx => by show f x ^^^ g x = _; rw [a3 x hx, b3 x hx, c3 x hx]⟩
theorem pev_scale {k : Nat} (hk : k < 256) {x : Nat} (hx : x < 256) : ∀ l : List Nat, B8 l → pev x (l.map (Gf.gm k)) = Gf.gm k (pev x l)
  | [], _ => (Gf.gm_zero k).symm
  | a :: l, h => by
    show Gf.gm k a ^^^ Gf.gm x (pev x (l.map (Gf.gm k))) = Gf.gm k (a ^^^ Gf.gm x (pev x l))
    rw [pev_scale hk hx l h.tail, Gf.gm_xor, ← Gf.gm_assoc hx hk (pev_lt hx h.tail), Gf.gm_comm hx hk, Gf.gm_assoc hk hx (pev_lt hx h.tail)]
theorem PF.scale {n k : Nat} {f : Nat → Nat} (hk : k < 256) (hf : PF n f) : PF n (fun x => Gf.gm k (f x)) := by
  obtain ⟨a, a1, a2, a3⟩ := hf
  refine ⟨a.map (Gf.gm k), by simp [a1], fun c hc => ?_, fun x hx => ?_⟩
  · obtain ⟨d, _, rfl⟩ := List.mem_map.1 hc
    exact Gf.gm_lt _ hk
  · show Gf.gm k (f x) = _
    rw [a3 x hx, pev_scale hk hx a a2]
theorem PF.lt {n : Nat} {f : Nat → Nat} (hf : PF n f) {x : Nat} (hx : x < 256) : f x < 256 := by
  obtain ⟨a, a1, a2, a3⟩ := hf
  rw [a3 x hx]
  exact pev_lt hx a2
theorem PF.congr {n : Nat} {f g : Nat → Nat} (hf : PF n f) (h : ∀ x, x < 256 → g x = f x) : PF n g := by
  obtain ⟨a, a1, a2, a3⟩ := hf
  exact ⟨a, a1, a2, fun x hx => (h x hx).trans (a3 x hx)⟩
theorem pev_one (x c : Nat) : pev x [c] = c := by unfold pev pev; rw [Gf.gm_zero, Nat.xor_zero]
theorem pev_snoc0 (x : Nat) (l : List Nat) : pev x (l ++ [0]) = pev x l := by
  induction l with
  | nil => exact pev_one x 0
  | cons a l ih => rw [List.cons_append]; unfold pev; rw [ih]
/-- One coefficient more. -/
theorem PF.up {n : Nat} {f : Nat → Nat} (hf : PF n f) : PF (n + 1) f := by
  obtain ⟨a, a1, a2, a3⟩ := hf
  refine ⟨a ++ [0], by simp [a1], fun c hc => ?_, fun x hx => by rw [pev_snoc0]; exact a3 x hx⟩
  rcases List.mem_append.1 hc with hc | hc
  · exact a2 c hc
  · rw [List.mem_singleton.1 hc]; decide
/-- Times x - a. -/
theorem PF.lin {n a : Nat} {f : Nat → Nat} (ha : a < 256) (hf : PF n f) : PF (n + 1) (fun x => Gf.gm (f x) (x ^^^ a)) := by
  have h1 : PF (n + 1) (fun x => Gf.gm x (f x)) := by
    obtain ⟨l, l1, l2, l3⟩ := hf
    refine ⟨0 :: l, by simp [l1], B8.cons (by decide) l2, fun x hx => ?_⟩
    show Gf.gm x (f x) = 0 ^^^ Gf.gm x (pev x l)
    rw [l3 x hx, Nat.zero_xor]
  have h2 := (hf.scale ha).up
  refine (h1.add h2).congr fun x hx => ?_
  show Gf.gm (f x) (x ^^^ a) = Gf.gm x (f x) ^^^ Gf.gm a (f x)
  rw [Gf.gm_comm (hf.lt hx) (Gf.xor_lt hx ha), Gf.xor_gm hx ha (hf.lt hx)]
theorem PF.const {c : Nat} (hc : c < 256) : PF 1 (fun _ => c) := ⟨[c], rfl, B8.cons hc B8.nil, fun x _ => (show pev x [c] = c by unfold pev pev; rw [Gf.gm_zero, Nat.xor_zero]).symm⟩
theorem PF.zero : ∀ n : Nat, PF n (fun _ => 0)
  | 0 => ⟨[], rfl, B8.nil, fun _ _ => rfl⟩
  | n + 1 => (PF.zero n).up
/-- Divided by x - a. -/
theorem pev_div {a : Nat} (ha : a < 256) (n : Nat) : ∀ l : List Nat, l.length = n + 1 → B8 l → ∃ q r, q.length = n ∧ B8 q ∧ r < 256 ∧ ∀ x, x < 256 → pev x l = Gf.gm (x ^^^ a) (pev x q) ^^^ r := by
  induction n with
  | zero =>
    intro l hl h
    match l, hl, h with
    | [c], _, h => exact ⟨[], c, rfl, B8.nil, h.head, fun x _ => by show c ^^^ Gf.gm x 0 = Gf.gm _ 0 ^^^ c; rw [Gf.gm_zero, Gf.gm_zero, Nat.xor_zero, Nat.zero_xor]⟩
  | succ n ih =>
    intro l hl h
    match l, hl, h with
    | c :: l, hl, h =>
      obtain ⟨q, r, h1, h2, h3, h4⟩ := ih l (by simpa using hl) h.tail
      refine ⟨r :: q, c ^^^ Gf.gm a r, by simp [h1], B8.cons h3 h2, Gf.xor_lt h.head (Gf.gm_lt _ ha), fun x hx => ?_⟩
      show c ^^^ Gf.gm x (pev x l) = Gf.gm (x ^^^ a) (r ^^^ Gf.gm x (pev x q)) ^^^ (c ^^^ Gf.gm a r)
      have hp := pev_lt hx h2
      have hxa := Gf.xor_lt hx ha
      have e1 : Gf.gm x (Gf.gm (x ^^^ a) (pev x q)) = Gf.gm (x ^^^ a) (Gf.gm x (pev x q)) := by rw [← Gf.gm_assoc hx hxa hp, Gf.gm_comm hx hxa, Gf.gm_assoc hxa hx hp]
      have e2 : Gf.gm x r = Gf.gm (x ^^^ a) r ^^^ Gf.gm a r := by rw [Gf.xor_gm hx ha h3, Nat.xor_assoc, Nat.xor_self, Nat.xor_zero]
      rw [h4 x hx, Gf.gm_xor, Gf.gm_xor, e1, e2]
      generalize Gf.gm (x ^^^ a) (Gf.gm x (pev x q)) = u
      generalize Gf.gm (x ^^^ a) r = v
      generalize Gf.gm a r = w
      rw [Gf.xor_left_comm u v w, Gf.xor_left_comm c v, Nat.xor_assoc v u, Gf.xor_left_comm u c w, Gf.xor_left_comm c u w]
/-- As many roots as coefficients: it is naught. -/
theorem PF.roots (n : Nat) : ∀ (f : Nat → Nat), PF n f → ∀ xs : List Nat, xs.length = n → B8 xs → xs.Nodup → (∀ a ∈ xs, f a = 0) → ∀ x, x < 256 → f x = 0 := by
  induction n with
  | zero =>
    intro f hf xs _ _ _ _ x hx
    obtain ⟨l, l1, l2, l3⟩ := hf
    rw [l3 x hx, List.eq_nil_of_length_eq_zero l1]
    rfl
  | succ n ih =>
    intro f hf xs hl hb hn h0 x hx
    match xs, hl, hb, hn, h0 with
    | a :: xs, hl, hb, hn, h0 =>
      obtain ⟨l, l1, l2, l3⟩ := hf
      obtain ⟨q, r, q1, q2, q3, q4⟩ := pev_div hb.head n l l1 l2
      have hr : r = 0 := by
        have h := h0 a List.mem_cons_self
        rw [l3 a hb.head, q4 a hb.head, Nat.xor_self, Gf.zero_gm, Nat.zero_xor] at h
        exact h
      subst hr
      have hq := ih (fun x => pev x q) ⟨q, q1, q2, fun _ _ => rfl⟩ xs (by simpa using hl) hb.tail (List.nodup_cons.1 hn).2 (fun b hbm => by
        have h := h0 b (List.mem_cons_of_mem _ hbm)
        have hb2 := hb b (List.mem_cons_of_mem _ hbm)
        rw [l3 b hb2, q4 b hb2, Nat.xor_zero] at h
        have hne : b ^^^ a ≠ 0 := fun e => by
          have : b = a := xor0 e
          subst this
          exact (List.nodup_cons.1 hn).1 hbm
        by_cases hz : pev b q = 0
        · exact hz
        · exact absurd h (Gf.gm_ne (Gf.xor_lt hb2 hb.head) (pev_lt hb2 q2) hne hz)) x hx
      rw [l3 x hx, q4 x hx, Nat.xor_zero]
      show Gf.gm _ (pev x q) = 0
      rw [show pev x q = 0 from hq, Gf.gm_zero]
/-- Two polynomials with as many common values as coefficients are one. -/
theorem PF.same {n : Nat} {f g : Nat → Nat} (hf : PF n f) (hg : PF n g) {xs : List Nat} (hl : xs.length = n) (hb : B8 xs) (hn : xs.Nodup) (h : ∀ a ∈ xs, f a = g a) {x : Nat} (hx : x < 256) : f x = g x := by
  have := PF.roots n _ (hf.add hg) xs hl hb hn (fun a ha => by show f a ^^^ g a = 0; rw [h a ha, Nat.xor_self]) x hx
  exact xor0 this
theorem pr_pf (i : Nat) (l : List Nat) (hb : B8 l) : ∀ (j n : Nat) (f : Nat → Nat), PF n f → PF (n + (if j ≤ i ∧ i < j + l.length then l.length - 1 else l.length)) (fun z => pr z i l j (f z)) := by
  induction l with
  | nil => intro j n f hf; rw [if_neg (by simp)]; exact hf
  | cons x l ih =>
    intro j n f hf
    unfold pr
    by_cases h : j = i
    · subst h
      have := ih hb.tail (j + 1) n f hf
      rw [if_neg (by omega)] at this
      rw [if_pos (by simp)]
      simp only [if_true, List.length_cons, Nat.add_sub_cancel]
      exact this
    · have := ih hb.tail (j + 1) (n + 1) _ (hf.lin hb.head)
      simp only [if_neg h, List.length_cons]
      by_cases h2 : j + 1 ≤ i ∧ i < j + 1 + l.length
      · rw [if_pos h2] at this
        rw [if_pos (by omega), show n + (l.length + 1 - 1) = n + 1 + (l.length - 1) by omega]
        exact this
      · rw [if_neg h2] at this
        rw [if_neg (by omega), show n + (l.length + 1) = n + 1 + l.length by omega]
        exact this
theorem pr_zero (z i : Nat) (l : List Nat) : ∀ j, pr z i l j 0 = 0 := by
  induction l with
  | nil => intro j; rfl
  | cons x l ih => intro j; unfold pr; rw [Gf.zero_gm, ih]; split <;> rfl
/-- At another place it is naught. -/
theorem pr_at (z i : Nat) (l : List Nat) : ∀ (j k a : Nat), k < l.length → j + k ≠ i → l.getD k 0 = z → pr z i l j a = 0 := by
  induction l with
  | nil => intro j k a h; simp at h
  | cons x l ih =>
    intro j k a hk hne he
    unfold pr
    cases k with
    | zero =>
      have : x = z := he
      subst this
      rw [if_neg (by omega), Nat.xor_self, Gf.gm_zero, pr_zero]
    | succ k =>
      have := fun a => ih (j + 1) k a (by simpa using hk) (by omega) (by simpa using he)
      rw [this, this]
      split <;> rfl
/-- At a place unlike the others it is not. -/
theorem pr_ne {z : Nat} (hz : z < 256) (i : Nat) (l : List Nat) (hb : B8 l) : ∀ (j a : Nat), a < 256 → a ≠ 0 → (∀ k, k < l.length → j + k ≠ i → l.getD k 0 ≠ z) → pr z i l j a ≠ 0 := by
  induction l with
  | nil => intro j a _ ha _; exact ha
  | cons x l ih =>
    intro j a ha8 ha h
    have h2 : ∀ k, k < l.length → j + 1 + k ≠ i → l.getD k 0 ≠ z := fun k hk hne => by
      have := h (k + 1) (by simpa using hk) (by omega)
      simpa using this
    unfold pr
    by_cases e : j = i
    · rw [if_pos e]; exact ih hb.tail (j + 1) a ha8 ha h2
    · rw [if_neg e]
      have hx := h 0 (by simp) (by omega)
      have hne : z ^^^ x ≠ 0 := fun e2 => hx (by rw [xor0 e2]; rfl)
      exact ih hb.tail (j + 1) _ (Gf.gm_lt _ ha8) (Gf.gm_ne ha8 (Gf.xor_lt hz hb.head) ha hne) h2
section
variable {xs : List Nat} (hb : B8 xs) (hn : ∀ i, i < xs.length → ∀ j, j < xs.length → j ≠ i → xs.getD j 0 ≠ xs.getD i 0)
include hb
theorem wt_pf {i : Nat} (hi : i < xs.length) : PF xs.length (fun z => wt xs z i) := by
  have h := pr_pf i xs hb 0 1 _ (PF.const (c := 1) (by decide))
  rw [if_pos (by omega), show 1 + (xs.length - 1) = xs.length by omega] at h
  have hp : pr (xs.getD i 0) i xs 0 1 < 256 := pr_lt _ _ _ _ _ (by decide)
  refine (h.scale (inv0_lt hp)).congr fun z hz => ?_
  exact Gf.gm_comm (pr_lt _ _ _ _ _ (by decide)) (inv0_lt hp)
omit hb in
theorem wt_off {i k : Nat} (hk : k < xs.length) (h : k ≠ i) : wt xs (xs.getD k 0) i = 0 := by
  unfold wt
  rw [pr_at _ i xs 0 k 1 hk (by omega) rfl, Gf.zero_gm]
include hn in
theorem wt_on {i : Nat} (hi : i < xs.length) : wt xs (xs.getD i 0) i = 1 := by
  have h8 : xs.getD i 0 < 256 := getD_lt hb (by decide) i
  have hp : pr (xs.getD i 0) i xs 0 1 ≠ 0 := pr_ne h8 i xs hb 0 1 (by decide) (by decide) (fun k hk hne => hn i hi k hk (by omega))
  unfold wt inv0
  rw [if_neg hp, Gf.gm_inv (pr_lt _ _ _ _ _ (by decide)) hp]
theorem fy_pf {ys : List Nat} (hy : B8 ys) : ∀ m : Nat, m ≤ xs.length → PF xs.length (fun z => fy ys xs z m)
  | 0, _ => PF.zero _
  | m + 1, h => (fy_pf hy m (by omega)).add (((wt_pf hb (i := m) (by omega)).scale (getD_lt hy (by decide) m)).congr fun _ _ => rfl)
include hn in
theorem fy_at {ys : List Nat} (hy : B8 ys) {k : Nat} (hk : k < xs.length) : ∀ m : Nat, m ≤ xs.length → fy ys xs (xs.getD k 0) m = if k < m then ys.getD k 0 else 0
  | 0, _ => rfl
  | m + 1, h => by
    show fy ys xs (xs.getD k 0) m ^^^ Gf.gm (ys.getD m 0) (wt xs (xs.getD k 0) m) = _
    rw [fy_at hy hk m (by omega)]
    by_cases e : k = m
    · subst e
      rw [wt_on hb hn hk, Gf.gm_one (getD_lt hy (by decide) k), if_neg (by omega), if_pos (by omega), Nat.zero_xor]
    · rw [wt_off hk e, Gf.gm_zero, Nat.xor_zero]
      by_cases h2 : k < m
      · rw [if_pos h2, if_pos (by omega)]
      · rw [if_neg h2, if_neg (by omega)]
end
theorem and_bits_lt (x : Int) (j : Nat) (hj : j ≤ 62) (y : Int) (hy : y = ((2 ^ j - 1 : Nat) : Int)) : 0 ≤ Go.bits .and .i64 x y ∧ Go.bits .and .i64 x y < 2 ^ j := by
  subst hy
  have hp : 0 < 2 ^ j := Nat.two_pow_pos j
  have hle : (BitVec.ofInt 64 x &&& BitVec.ofInt 64 ((2 ^ j - 1 : Nat) : Int)).toNat ≤ 2 ^ j - 1 := by
    rw [BitVec.toNat_and, BitVec.ofInt_natCast, BitVec.toNat_ofNat]
    exact Nat.le_trans Nat.and_le_right (Nat.mod_le _ _)
  have h62 : 2 ^ j ≤ 2 ^ 62 := Nat.pow_le_pow_right (by decide) hj
  have e62 : (2 : Nat) ^ 62 = 4611686018427387904 := by decide
  have ec : (2 : Int) ^ j = ((2 ^ j : Nat) : Int) := by simp
  have h0 : (0 : Int) ≤ (((BitVec.ofInt 64 x &&& BitVec.ofInt 64 ((2 ^ j - 1 : Nat) : Int)).toNat : Nat) : Int) := Int.natCast_nonneg _
  have h1 : (((BitVec.ofInt 64 x &&& BitVec.ofInt 64 ((2 ^ j - 1 : Nat) : Int)).toNat : Nat) : Int) < 2 ^ 63 := by
    have : (2 : Int) ^ 63 = 9223372036854775808 := by decide
    omega
  have e : Go.bits .and .i64 x ((2 ^ j - 1 : Nat) : Int) = (((BitVec.ofInt 64 x &&& BitVec.ofInt 64 ((2 ^ j - 1 : Nat) : Int)).toNat : Nat) : Int) := wraps_i64 _ h0 h1
  rw [e, ec]
  omega
theorem and255 (x : Int) : 0 ≤ Go.bits .and .i64 x 255 ∧ Go.bits .and .i64 x 255 < 256 := by
  have := and_bits_lt x 8 (by decide) 255 (by decide)
  simpa using this
/-- Where a cursor stands: inside its bytes. -/
def Cur (b : List Int) (i : Int) : Prop := 0 ≤ i ∧ i ≤ b.length ∧ b.length ≤ 1048576
theorem d_new (l : List Int) (hl : l.length ≤ 1048576) : ∃ h, Ev (fun k => spec_l1New.f k l) (l, 0, h) := by
  have key : ∀ (n i : Nat) (h : Int), i + n = l.length → ∃ h', Ev (fun k => spec_l1New.l0 k l h (i : Int)) (l, 0, h') := by
    intro n
    induction n with
    | zero =>
      intro i h hi
      exact ⟨h, Ev.step (fun k => spec_l1New.l0.eq_2 ..) (ev_neg (by omega) (ev_ret rfl))⟩
    | succ n ih =>
      intro i h hi
      by_cases h4 : (i : Int) < 4000
      · obtain ⟨h', e⟩ := ih (i + 1) _ (by omega)
        refine ⟨h', Ev.step (fun k => spec_l1New.l0.eq_2 ..) (ev_pos (by omega) (ev_pos h4 (ev_pos (by omega) ?_)))⟩
        rw [wr_succ (by omega)]
        exact e
      · exact ⟨h, Ev.step (fun k => spec_l1New.l0.eq_2 ..) (ev_pos (by omega) (ev_neg h4 (ev_ret rfl)))⟩
  obtain ⟨h, e⟩ := key l.length 0 (wrap64 (88088 + (l.length : Int))) (Nat.zero_add _)
  exact ⟨h, e⟩
theorem d_cur {l : List Int} (hl : l.length ≤ 1048576) : Cur l 0 := ⟨Int.le_refl _, by omega, hl⟩
theorem d_byte {b : List Int} {i : Int} (h : Int) (hc : Cur b i) : ∃ v i' h', spec_l1Byte.f b i h = some (v, i', h') ∧ 0 ≤ v ∧ v < 256 ∧ Cur b i' := by
  obtain ⟨h0, h1, h2⟩ := hc
  unfold spec_l1Byte.f
  by_cases hi : i < (b.length : Int)
  · rw [if_pos hi, if_pos h0]
    exact ⟨_, _, _, rfl, (and255 _).1, (and255 _).2, by rw [wr (by omega) (by omega)]; omega, by rw [wr (by omega) (by omega)]; omega, h2⟩
  · rw [if_neg hi]
    exact ⟨_, _, _, rfl, (and255 _).1, (and255 _).2, h0, h1, h2⟩
theorem d_below {b : List Int} {i : Int} (h : Int) (hc : Cur b i) (n : Int) (hn : n ≤ 1000000) : ∃ v i' h', spec_l1Below.f b i h n = some (v, i', h') ∧ 0 ≤ v ∧ (v < n ∨ v = 0) ∧ Cur b i' := by
  unfold spec_l1Below.f
  by_cases h0 : n ≤ 0
  · rw [if_pos h0]
    exact ⟨_, _, _, rfl, Int.le_refl _, .inr rfl, hc⟩
  rw [if_neg h0]
  obtain ⟨v, i1, h1, e1, v0, v1, c1⟩ := d_byte h hc
  by_cases h256 : n ≤ 256
  · rw [if_pos h256, e1, Option.bind_some, if_neg (by omega)]
    refine ⟨_, _, _, rfl, ?_, .inl ?_, c1⟩
    · rw [Int.tmod_eq_emod_of_nonneg v0]; exact Int.emod_nonneg _ (by omega)
    · rw [Int.tmod_eq_emod_of_nonneg v0]; exact Int.emod_lt_of_pos _ (by omega)
  · rw [if_neg h256, e1, Option.bind_some]
    obtain ⟨x, i2, h2, e2, x0, x1, c2⟩ := d_byte h1 c1
    rw [e2, Option.bind_some]
    obtain ⟨y, i3, h3, e3, y0, y1, c3⟩ := d_byte h2 c2
    rw [e3, Option.bind_some]
    obtain ⟨z, i4, h4, e4, z0, z1, c4⟩ := d_byte h3 c3
    rw [e4, Option.bind_some, if_neg (by omega)]
    have ew : wrap64 ((wrap64 ((wrap64 ((wrap64 (v * 16777216)) + (wrap64 (x * 65536)))) + (wrap64 (y * 256)))) + z) = v * 16777216 + x * 65536 + y * 256 + z := by
      rw [wr (n := v * 16777216) (by omega) (by omega), wr (n := x * 65536) (by omega) (by omega), wr (n := v * 16777216 + x * 65536) (by omega) (by omega), wr (n := y * 256) (by omega) (by omega), wr (n := v * 16777216 + x * 65536 + y * 256) (by omega) (by omega), wr (by omega) (by omega)]
    refine ⟨_, _, _, rfl, ?_, .inl ?_, c4⟩
    · show 0 ≤ Int.tmod (wrap64 ((wrap64 ((wrap64 ((wrap64 (v * 16777216)) + (wrap64 (x * 65536)))) + (wrap64 (y * 256)))) + z)) n
      rw [ew, Int.tmod_eq_emod_of_nonneg (by omega)]
      exact Int.emod_nonneg _ (by omega)
    · show Int.tmod (wrap64 ((wrap64 ((wrap64 ((wrap64 (v * 16777216)) + (wrap64 (x * 65536)))) + (wrap64 (y * 256)))) + z)) n < n
      rw [ew, Int.tmod_eq_emod_of_nonneg (by omega)]
      exact Int.emod_lt_of_pos _ (by omega)
theorem d_data {b : List Int} {i : Int} (h : Int) (hc : Cur b i) (n : Nat) (hn : n ≤ 1000) : ∃ l i' h', Ev (fun k => spec_l1DrawData.f k b i h (n : Int)) (l, i', h') ∧ l.length ≤ n ∧ (∀ x ∈ l, 0 ≤ x ∧ x < 256) ∧ Cur b i' := by
  have key : ∀ (m : Nat) (o : List Int) (i h : Int), o.length + m ≤ 1000 → Cur b i → (∀ x ∈ o, 0 ≤ x ∧ x < 256) → ∃ l i' h', Ev (fun k => spec_l1DrawData.l0 k o (m : Int) b i h) (l, i', h') ∧ l.length = o.length + m ∧ (∀ x ∈ l, 0 ≤ x ∧ x < 256) ∧ Cur b i' := by
    intro m
    induction m with
    | zero =>
      intro o i h ho hc hb
      exact ⟨o, i, h, Ev.step (fun k => spec_l1DrawData.l0.eq_2 ..) (ev_neg (by omega) (ev_ret rfl)), rfl, hb, hc⟩
    | succ m ih =>
      intro o i h ho hc hb
      obtain ⟨v, i1, h1, e1, v0, v1, c1⟩ := d_byte h hc
      have ev : v % 256 = v := by omega
      obtain ⟨l, i2, h2, e2, hl, hx, c2⟩ := ih (o ++ [v]) i1 h1 (by simp only [List.length_append, List.length_singleton]; omega) c1 (by
        intro x hx
        rcases List.mem_append.1 hx with hx | hx
        · exact hb x hx
        · rw [List.mem_singleton.1 hx]; exact ⟨v0, v1⟩)
      refine ⟨l, i2, h2, Ev.step (fun k => spec_l1DrawData.l0.eq_2 ..) (ev_pos (by omega) (ev_pure e1 (ev_pos (by omega) ?_))), by rw [hl, List.length_append, List.length_singleton]; omega, hx, c2⟩
      have ew : wrap64 (((m + 1 : Nat) : Int) - 1) = (m : Int) := by rw [wr (by omega) (by omega)]; omega
      rw [ew]
      show Ev (fun k => spec_l1DrawData.l0 k (o ++ [v % 256]) (m : Int) b i1 h1) _
      rw [ev]
      exact e2
  obtain ⟨v, i1, h1, e1, v0, v1, c1⟩ := d_below h hc (n : Int) (by omega)
  obtain ⟨m, rfl⟩ := Int.eq_ofNat_of_zero_le v0
  obtain ⟨l, i2, h2, e2, hl, hx, c2⟩ := key m [] i1 h1 (by simp; omega) c1 (by simp)
  refine ⟨l, i2, h2, ?_, by rw [hl]; simp; omega, hx, c2⟩
  unfold spec_l1DrawData.f
  exact ev_pure e1 e2
theorem d_pick {b : List Int} {i : Int} (h : Int) (hc : Cur b i) (l : List Int) (h0 : 0 < l.length) (h1 : l.length ≤ 100) : ∃ v i' h', spec_l1PickInt.f b i h l = some (v, i', h') ∧ v ∈ l ∧ Cur b i' := by
  obtain ⟨v, i', h', e, v0, v1, c⟩ := d_below h hc (l.length : Int) (by omega)
  unfold spec_l1PickInt.f
  rw [e, Option.bind_some]
  have hv : v < (l.length : Int) := by omega
  rw [if_pos v0, if_pos hv]
  refine ⟨_, _, _, rfl, ?_, c⟩
  show rd l v ∈ l
  unfold rd
  rw [List.getD_eq_getElem?_getD, List.getElem?_eq_getElem (by omega)]
  exact List.getElem_mem _
theorem d_once {b : List Int} {i : Int} (h : Int) (hc : Cur b i) (n : Int) (hn : n ≤ 1000000) : ∃ v i' h', spec_l1Once.f b i h n = some (v, i', h') ∧ Cur b i' := by
  obtain ⟨v, i', h', e, _, _, c⟩ := d_below h hc n hn
  unfold spec_l1Once.f
  rw [e, Option.bind_some]
  exact ⟨_, _, _, rfl, c⟩
theorem nat_of {l : List Int} (h : ∀ x ∈ l, 0 ≤ x ∧ x < 256) : ∃ m : List Nat, l = I m ∧ ∀ c ∈ m, c < 256 := by
  refine ⟨l.map Int.toNat, ?_, fun c hc => ?_⟩
  · unfold I
    rw [List.map_map]
    refine (List.map_id l).symm.trans (List.map_congr_left fun x hx => ?_)
    have := h x hx
    show x = ((x.toNat : Nat) : Int)
    omega
  · obtain ⟨x, hx, rfl⟩ := List.mem_map.1 hc
    have := h x hx
    omega
theorem d_l4 {b : List Int} {i : Int} (h : Int) (hc : Cur b i) : ∃ (v : Nat) (i' h' : Int), spec_l4Draw.f b i h = some ((v : Int), i', h') ∧ v < 256 ∧ Cur b i' := by
  unfold spec_l4Draw.f
  obtain ⟨o, i1, h1, e1, c1⟩ := d_once h hc 6 (by decide)
  rw [e1, Option.bind_some]
  have key : ∀ v : Int, ∃ n : Nat, v % 256 = (n : Int) ∧ n < 256 := fun v => ⟨(v % 256).toNat, by omega, by omega⟩
  cases o with
  | true =>
    rw [if_pos rfl]
    obtain ⟨v, i2, h2, e2, _, c2⟩ := d_pick h1 c1 [0, 1, 2, 255] (by decide) (by decide)
    obtain ⟨n, en, hn⟩ := key v
    exact ⟨n, i2, h2, by rw [e2, Option.bind_some, en], hn, c2⟩
  | false =>
    rw [if_neg (by simp)]
    obtain ⟨v, i2, h2, e2, _, _, c2⟩ := d_byte h1 c1
    obtain ⟨n, en, hn⟩ := key v
    exact ⟨n, i2, h2, by rw [e2, Option.bind_some, en], hn, c2⟩
theorem PF.constN {c : Nat} (hc : c < 256) : ∀ n : Nat, PF (n + 1) (fun _ => c)
  | 0 => PF.const hc
  | n + 1 => (PF.constN hc n).up
theorem at_pf (m : List Nat) (hm : B8 m) : ∀ (n : Nat) (f : Nat → Nat), PF n f → PF (n + m.length) (fun x => atFrom x m (f x)) := by
  induction m with
  | nil => intro n f hf; exact hf
  | cons c m ih =>
    intro n f hf
    have h := ih hm.tail (n + 1) (fun x => Gf.gm (f x) x ^^^ c) (((hf.lin (a := 0) (by decide)).congr fun x _ => by show Gf.gm (f x) x = Gf.gm (f x) (x ^^^ 0); rw [Nat.xor_zero]).add (PF.constN hm.head n))
    rw [List.length_cons, show n + (m.length + 1) = n + 1 + m.length by omega]
    exact h
theorem at_lt (x : Nat) (m : List Nat) (hm : B8 m) : ∀ s, s < 256 → atFrom x m s < 256 := by
  induction m with
  | nil => intro s h; exact h
  | cons c m ih => intro s h; exact ih hm.tail _ (Gf.xor_lt (Gf.gm_lt _ h) hm.head)
theorem draw_gfat (l : List Int) (hl : l.length ≤ 1048576) : ∃ (m : List Nat) (z : Nat), Ev (fun k => spec_DrawGfAt.f k l) (I m, (z : Int)) ∧ m.length ≤ 8 ∧ (∀ c ∈ m, c < 256) ∧ z < 256 := by
  unfold spec_DrawGfAt.f
  obtain ⟨h, e⟩ := d_new l hl
  obtain ⟨d, i1, h1, e1, k1, k2, c1⟩ := d_data h (d_cur hl) 8 (by decide)
  obtain ⟨m, rfl, hm⟩ := nat_of k2
  obtain ⟨z, i2, h2, e2, hz, c2⟩ := d_l4 h1 c1
  exact ⟨m, z, ev_bind e (ev_bind e1 (ev_pure e2 (ev_ret rfl))), by rw [I_length] at k1; exact k1, hm, hz⟩
/-- The places. -/
def plc (a n : Nat) : List Nat := (List.range n).map fun i => (3 * i + a) % 256
def vls (a : Nat) (m : List Nat) (n : Nat) : List Nat := (List.range n).map fun i => atFrom ((3 * i + a) % 256) m 0
theorem plc_len (a n : Nat) : (plc a n).length = n := by unfold plc; rw [List.length_map, List.length_range]
theorem vls_len (a : Nat) (m : List Nat) (n : Nat) : (vls a m n).length = n := by unfold vls; rw [List.length_map, List.length_range]
theorem plc_lt (a n : Nat) : B8 (plc a n) := fun c hc => by
  obtain ⟨i, _, rfl⟩ := List.mem_map.1 hc
  exact Nat.mod_lt _ (by decide)
theorem plc_nodup {a n : Nat} (hn : n ≤ 8) : (plc a n).Nodup := by
  unfold plc List.Nodup
  rw [List.pairwise_map]
  refine List.nodup_range.imp_of_mem fun {i j} hi hj hne e => ?_
  have := List.mem_range.1 hi
  have := List.mem_range.1 hj
  omega
theorem vls_lt (a : Nat) (m : List Nat) (hm : B8 m) (n : Nat) : B8 (vls a m n) := fun c hc => by
  obtain ⟨i, _, rfl⟩ := List.mem_map.1 hc
  exact at_lt _ m hm 0 (by decide)
theorem interp {a : Nat} {m : List Nat} (hm : B8 m) (hl : m.length ≤ 8) {z : Nat} (hz : z < 256) : fy (vls a m m.length) (plc a m.length) z (plc a m.length).length = atFrom z m 0 := by
  have hf := far_of (plc_nodup (a := a) hl)
  have h1 := fy_pf (plc_lt a m.length) (vls_lt a m hm m.length) m.length (by rw [plc_len]; exact Nat.le_refl _)
  have h2 := at_pf m hm 0 (fun _ => 0) (PF.zero 0)
  rw [plc_len] at h1
  rw [Nat.zero_add] at h2
  rw [plc_len]
  refine PF.same h1 h2 (xs := plc a m.length) (plc_len _ _) (plc_lt _ _) (plc_nodup hl) (fun c hc => ?_) hz
  obtain ⟨i, hi, rfl⟩ := List.mem_map.1 hc
  have hi := List.mem_range.1 hi
  have e : (plc a m.length).getD i 0 = (3 * i + a) % 256 := map_at (fun i => (3 * i + a) % 256) 0 hi
  have h3 := fy_at (plc_lt a m.length) hf (vls_lt a m hm m.length) (k := i) (by rw [plc_len]; exact hi) m.length (by rw [plc_len]; exact Nat.le_refl _)
  rw [e, if_pos hi] at h3
  show fy (vls a m m.length) (plc a m.length) ((3 * i + a) % 256) m.length = _
  rw [h3]
  exact map_at (fun i => atFrom ((3 * i + a) % 256) m 0) 0 hi
theorem end_l0 {c : List Nat} (hc : ∀ x ∈ c, x < 256) (hcl : c.length ≤ 1048576) {m : List Nat} (hm : ∀ x ∈ m, x < 256) (hl : m.length ≤ 8) {z : Nat} (hz : z < 256) {a : Nat} (ha : laws_at.f (I c) 5 = some (a : Int)) (ha8 : a < 256) (n : Nat) : ∀ i : Nat, i + n = m.length →
    Ev (fun k => laws_FnInterpolated.l0 k (I c) (I m) (z : Int) (I (plc a i)) (I (vls a m i)) (i : Int)) true := by
  induction n with
  | zero =>
    intro i hi
    obtain rfl : i = m.length := by omega
    refine Ev.step (fun k => laws_FnInterpolated.l0.eq_2 ..) (ev_neg (by rw [I_length]; omega) ?_)
    by_cases h0 : m.length = 0
    · have hn := impl_lag_no (xs := plc a m.length) (ys := vls a m m.length) z (by rw [plc_len]; omega)
      have hm0 : m = [] := List.eq_nil_of_length_eq_zero h0
      refine ev_bind hn (ev_pos (by rw [I_length]; omega) (ev_neg (by simp) (ev_bind (impl_at hm (by omega) hz) (ev_ret ?_))))
      subst hm0
      rfl
    · have hy := impl_lag (plc_lt a m.length) (vls_lt a m hm m.length) hz (by rw [plc_len, vls_len]; exact ⟨by omega, rfl, plc_nodup hl⟩)
      rw [interp hm hl hz] at hy
      have hx0 : rd (I (plc a m.length)) 0 = (((plc a m.length).getD 0 0 : Nat) : Int) := rd_I _ 0
      have hn := impl_lag_no (xs := plc a m.length ++ [(plc a m.length).getD 0 0]) (ys := vls a m m.length ++ [1]) z (fun h => by
        have h2 := List.nodup_append.1 h.2.2
        have hmem : (plc a m.length).getD 0 0 ∈ plc a m.length := by
          rw [List.getD_eq_getElem?_getD, List.getElem?_eq_getElem (by rw [plc_len]; omega)]
          exact List.getElem_mem _
        exact h2.2.2 _ hmem _ List.mem_cons_self rfl)
      rw [← I_snoc, ← I_snoc] at hn
      refine ev_bind hy (ev_neg (by rw [I_length]; omega) (ev_pos (by rw [I_length, plc_len]; omega) (ev_pos (by rw [I_length, plc_len]; omega) (ev_pos (by rw [I_length, vls_len]; omega) ?_))))
      rw [hx0]
      have h1 := impl_at (m := [1, 0]) (fun x hx => by simp at hx; omega) (by decide) hz
      refine ev_bind hn (ev_pos rfl (ev_bind (impl_at hm (by omega) hz) (ev_pos rfl (ev_neg (by simp) (ev_bind h1 (ev_ret ?_))))))
      have e1 : atFrom z [1, 0] 0 = z := by
        show Gf.gm (Gf.gm 0 z ^^^ 1) z ^^^ 0 = z
        rw [Gf.zero_gm, Nat.zero_xor, Gf.one_gm hz, Nat.xor_zero]
      rw [e1]
      exact beq_self_eq_true _
  | succ n ih =>
    intro i hi
    have h := ih (i + 1) (by omega)
    have e1 : plc a (i + 1) = plc a i ++ [(3 * i + a) % 256] := (range_snoc (fun i => (3 * i + a) % 256) i).symm
    have e2 : vls a m (i + 1) = vls a m i ++ [atFrom ((3 * i + a) % 256) m 0] := (range_snoc (fun i => atFrom ((3 * i + a) % 256) m 0) i).symm
    rw [e1, e2, ← I_snoc, ← I_snoc] at h
    have e3 : (wrap64 (wrap64 (3 * (i : Int)) + (a : Int))) % 256 = (((3 * i + a) % 256 : Nat) : Int) := by
      rw [wr (n := 3 * (i : Int)) (by omega) (by omega), wr (by omega) (by omega)]
      omega
    refine Ev.step (fun k => laws_FnInterpolated.l0.eq_2 ..) (ev_pos (by rw [I_length]; omega) (ev_pure ha (ev_pos (by rw [I_length, plc_len]; omega) ?_)))
    rw [e3, wr_succ (by omega)]
    exact ev_bind (impl_at hm (by omega) (Nat.mod_lt _ (by decide))) (ev_pos (by rw [I_length, vls_len]; omega) h)
theorem FnInterpolated : laws_FnInterpolated.Pure := by
  intro l _ _ wb
  obtain ⟨c, rfl, hc⟩ := bytes_of wb
  refine Ev.rounds ?_
  unfold laws_FnInterpolated.f
  refine ev_pure (a := decide (((I c).length : Int) > 1048576)) rfl ?_
  by_cases h : ((I c).length : Int) > 1048576
  · exact ev_pos (by simp [h]) (ev_ret rfl)
  refine ev_neg (by simp only [decide_eq_true_eq]; exact h) ?_
  rw [I_length] at h
  obtain ⟨m, z, e, h1, h2, h3⟩ := draw_gfat (I c) (by rw [I_length]; omega)
  obtain ⟨a, ha8, ha⟩ := at_ok hc (by omega) 5 (by decide)
  exact ev_bind e (end_l0 hc (by omega) h2 h1 h3 ha ha8 m.length 0 (by omega))

end Go.Proofs.Ythaoloacbbohlaa.Pure
