/- Of every text of bytes: of drawn shards of which as many lie as can be outvoted, Outvote leaves out the liars, and tells the data. -/
import Derived.Test.YthaoloacbbohlaaPFnOutvotedx7
import Derived.Test.YthaoloacbbohlaaKit
import Derived.Test.YthaoloacbbohlaaGf
namespace Go.Proofs.Ythaoloacbbohlaa.Pure
open Go.RowKit Go.Proofs.Ythaoloacbbohlaa Go.Proofs.Ythaoloacbbohlaa.PFnOutvoted Go.Proofs.YthaoloacbbohlaaW.PrintWords Go.Proofs.YthaoloacbbohlaaW.PrintLast Go.Proofs.YthaoloacbbohlaaW.PrintMore Go.Proofs.Ythaoloacbbohlaa.K
set_option linter.unusedVariables false

theorem at_ok {m : List Nat} (hm : ∀ c ∈ m, c < 256) (hl : m.length ≤ 1048576) (i : Nat) (hi : i ≤ 1000000) : ∃ n : Nat, n < 256 ∧ laws_at.f (I m) (i : Int) = some (n : Int) := by
  unfold laws_at.f
  by_cases h : i < m.length
  · refine ⟨m.getD i 0, getD_lt hm (by decide) i, ?_⟩
    have := getD_lt hm (by decide) i
    rw [if_pos (by rw [I_length]; omega), if_pos (by omega), rd_I, wrn (by omega)]
  · refine ⟨(i * 7 + m.length) % 256, Nat.mod_lt _ (by decide), ?_⟩
    rw [if_neg (by rw [I_length]; omega), I_length, wr (n := (i : Int) * 7) (by omega) (by omega), wr (by omega) (by omega), Int.tmod_eq_emod_of_nonneg (by omega)]
    congr 1
/-- What is left of a behind a taking of t; -1: t was too much. -/
def left (a : Int) (t : Nat) : Int := if a - (t : Int) < 0 then -1 else a - (t : Int)
theorem left_ok {a : Int} {t : Nat} (h : ¬ left a t < 0) : left a t = a - (t : Int) := by
  unfold left at h ⊢
  split
  · rename_i h2
    rw [if_pos h2] at h
    omega
  · rfl
theorem left_neg {a : Int} {t : Nat} (h : a - (t : Int) < 0) : left a t = -1 := if_pos h
theorem left_pos {a : Int} {t : Nat} (h : ¬ a - (t : Int) < 0) : left a t = a - (t : Int) := if_neg h
theorem len_max {n : Nat} (h : n ≤ maxLen) : n ≤ 9223372036854775807 := by unfold maxLen at h; omega
/-- The bytes of all texts together. -/
def tsum : List (List Int) → Nat
  | [] => 0
  | x :: l => x.length + tsum l
/-- .. and the texts. -/
def tot (l : List (List Int)) : Nat := l.length + tsum l
theorem tsum_le (l : List (List Int)) : tsum l ≤ tot l := Nat.le_add_left _ _
theorem tot_len (l : List (List Int)) : l.length ≤ tot l := Nat.le_add_right _ _
theorem tsum_mem {l : List (List Int)} {x : List Int} (h : x ∈ l) : x.length ≤ tsum l := by
  induction l with
  | nil => cases h
  | cons y l ih =>
    rcases List.mem_cons.1 h with rfl | h
    · unfold tsum; omega
    · have := ih h; unfold tsum; omega
theorem tsum_append (l m : List (List Int)) : tsum (l ++ m) = tsum l + tsum m := by
  induction l with
  | nil => simp [tsum]
  | cons x l ih => simp only [List.cons_append, tsum, ih]; omega
theorem rdB_nat (l : List (List Int)) (i : Nat) : rd_L1 l (i : Int) = l.getD i [] := by unfold rd_L1; rw [Int.toNat_natCast]
theorem getD_mem {l : List (List Int)} {i : Nat} (h : i < l.length) : l.getD i [] ∈ l := by
  rw [List.getD_eq_getElem?_getD, List.getElem?_eq_getElem h]
  exact List.getElem_mem h
theorem dropB {l : List (List Int)} {i : Nat} (h : i < l.length) : l.drop i = l.getD i [] :: l.drop (i + 1) := drop_getD l [] i h
theorem impl_mul_l0 (n : Nat) : ∀ (o x y : Nat), o < 256 → x < 256 → y < 2 ^ n → n ≤ 8 →
    Ev (fun k => impl_GfMul.l0 k (o : Int) (x : Int) (y : Int)) ((Gf.mulAux n x y o : Nat) : Int) := by
  induction n with
  | zero =>
    intro o x y ho hx hy _
    obtain rfl : y = 0 := by omega
    refine Ev.step (fun k => impl_GfMul.l0.eq_2 ..) ?_
    refine ev_neg (by omega) (ev_ret ?_)
    show (o : Int) % 256 = (o : Int)
    omega
  | succ n ih =>
    intro o x y ho hx hy hn
    have hy8 : y < 256 := Nat.lt_of_lt_of_le hy (Nat.pow_le_pow_right (by decide) hn : 2 ^ (n + 1) ≤ 2 ^ 8)
    refine Ev.step (fun k => impl_GfMul.l0.eq_2 ..) ?_
    by_cases h0 : y = 0
    · subst h0
      refine ev_neg (by omega) (ev_ret ?_)
      rw [Gf.mulAux_zero]
      omega
    refine ev_pos (by omega) ?_
    have e0 : Go.bits .and .i64 (y : Int) 1 = ((y % 2 : Nat) : Int) := odd64 (by omega)
    have e1 : wrap64 ((x : Int) * 2) = ((2 * x : Nat) : Int) := by rw [wr (by omega) (by omega)]; omega
    have e2 : Go.bits .xor .i64 (o : Int) (x : Int) = ((o ^^^ x : Nat) : Int) := xor64 (by omega) (by omega)
    have e3 : Go.bits .xor .i64 ((2 * x : Nat) : Int) 285 = (((2 * x) ^^^ 285 : Nat) : Int) := xor64 (b := 285) (by omega) (by omega)
    have e4 : ((y : Int) / 2) = ((y / 2 : Nat) : Int) := by omega
    simp only [e0, e1, e2, e3, e4]
    have hd := Gf.dbl_lt hx
    have hox := Gf.xor_lt ho hx
    have hy2 : y / 2 < 2 ^ n := by rw [Nat.pow_succ] at hy; omega
    simp only [Gf.mulAux]
    by_cases h1 : y % 2 = 1
    · refine ev_pos (by omega) ?_
      rw [if_pos h1]
      by_cases h2 : 2 * x > 255
      · refine ev_pos (by omega) ?_
        have := ih (o ^^^ x) (Gf.dbl x) (y / 2) hox hd hy2 (by omega)
        have e : Gf.dbl x = (2 * x) ^^^ 285 := if_pos h2
        rw [e] at this ⊢
        exact this
      · refine ev_neg (by omega) ?_
        have := ih (o ^^^ x) (Gf.dbl x) (y / 2) hox hd hy2 (by omega)
        have e : Gf.dbl x = 2 * x := if_neg h2
        rw [e] at this ⊢
        exact this
    · refine ev_neg (by omega) ?_
      rw [if_neg h1]
      by_cases h2 : 2 * x > 255
      · refine ev_pos (by omega) ?_
        have := ih o (Gf.dbl x) (y / 2) ho hd hy2 (by omega)
        have e : Gf.dbl x = (2 * x) ^^^ 285 := if_pos h2
        rw [e] at this ⊢
        exact this
      · refine ev_neg (by omega) ?_
        have := ih o (Gf.dbl x) (y / 2) ho hd hy2 (by omega)
        have e : Gf.dbl x = 2 * x := if_neg h2
        rw [e] at this ⊢
        exact this
theorem impl_mul {a b : Nat} (ha : a < 256) (hb : b < 256) : Ev (fun k => impl_GfMul.f k (a : Int) (b : Int)) ((Gf.gm a b : Nat) : Int) := by
  have := impl_mul_l0 8 0 a b (by decide) ha hb (by decide)
  unfold impl_GfMul.f
  rw [wrn (by omega), wrn (by omega)]
  exact this
theorem impl_pow_l0 (n : Nat) : ∀ (m a o : Nat), m < 2 ^ n → n ≤ 62 → a < 256 → o < 256 →
    Ev (fun k => impl_GfPow.l0 k (a : Int) (m : Int) (o : Int)) ((Gf.gm o (Gf.gp a m) : Nat) : Int) := by
  induction n with
  | zero =>
    intro m a o hm _ ha ho
    obtain rfl : m = 0 := by omega
    refine Ev.step (fun k => impl_GfPow.l0.eq_2 ..) ?_
    refine ev_neg (by omega) (ev_ret ?_)
    show (o : Int) = ((Gf.gm o 1 : Nat) : Int)
    rw [Gf.gm_one ho]
  | succ n ih =>
    intro m a o hm hn ha ho
    have hm63 : m < 9223372036854775808 := by
      have : 2 ^ (n + 1) ≤ 2 ^ 63 := Nat.pow_le_pow_right (by decide) (by omega)
      omega
    refine Ev.step (fun k => impl_GfPow.l0.eq_2 ..) ?_
    by_cases h0 : m = 0
    · subst h0
      refine ev_neg (by omega) (ev_ret ?_)
      show (o : Int) = ((Gf.gm o 1 : Nat) : Int)
      rw [Gf.gm_one ho]
    refine ev_pos (by omega) ?_
    have e0 : Go.bits .and .i64 (m : Int) 1 = ((m % 2 : Nat) : Int) := odd64 hm63
    have e4 : ((m : Int) / 2) = ((m / 2 : Nat) : Int) := by omega
    simp only [e0, e4]
    have hm2 : m / 2 < 2 ^ n := by rw [Nat.pow_succ] at hm; omega
    have hs := Gf.gp_sq ha (m / 2)
    by_cases h1 : m % 2 = 1
    · refine ev_pos (by omega) (ev_bind (impl_mul ho ha) (ev_bind (impl_mul ha ha) ?_))
      have := ih (m / 2) (Gf.gm a a) (Gf.gm o a) hm2 (by omega) (Gf.gm_lt _ ha) (Gf.gm_lt _ ho)
      refine ev_eq this ?_
      rw [hs, Gf.gm_assoc ho ha (Gf.gp_lt ha _)]
      congr 2
      have e : 1 + 2 * (m / 2) = m := by omega
      have := Gf.gp_add ha 1 (2 * (m / 2))
      rw [e] at this
      rw [this]
      congr 1
      show a = Gf.gm 1 a
      exact (Gf.one_gm ha).symm
    · refine ev_neg (by omega) (ev_bind (impl_mul ha ha) ?_)
      have := ih (m / 2) (Gf.gm a a) o hm2 (by omega) (Gf.gm_lt _ ha) ho
      refine ev_eq this ?_
      rw [hs, show 2 * (m / 2) = m by omega]
/-- What a power is: 0 below 0, else the product. -/
def powOf (a : Nat) (n : Int) : Nat := if n < 0 then 0 else Gf.gp a n.toNat
theorem powOf_lt {a : Nat} (ha : a < 256) (n : Int) : powOf a n < 256 := by
  unfold powOf; split
  · decide
  · exact Gf.gp_lt ha _
theorem impl_pow {a : Nat} (ha : a < 256) {n : Int} (hn : n ≤ 9223372036854775807) : Ev (fun k => impl_GfPow.f k (a : Int) n) ((powOf a n : Nat) : Int) := by
  unfold impl_GfPow.f powOf
  by_cases h : n < 0
  · rw [if_pos h]
    refine ev_pos h ?_
    refine Ev.step (fun k => impl_GfPow.j0.eq_2 ..) ?_
    exact ev_pos rfl (ev_ret rfl)
  refine ev_neg h ?_
  rw [if_neg h]
  obtain ⟨m, rfl⟩ := Int.eq_ofNat_of_zero_le (by omega : 0 ≤ n)
  rw [Int.toNat_natCast]
  by_cases hm : m = 0
  · subst hm
    refine ev_neg (by omega) ?_
    refine Ev.step (fun k => impl_GfPow.j0.eq_2 ..) ?_
    exact ev_neg (by decide) (ev_pos rfl (ev_ret rfl))
  refine ev_pos (by omega) ?_
  refine Ev.step (fun k => impl_GfPow.j0.eq_2 ..) ?_
  by_cases h0 : a = 0
  · subst h0
    refine ev_pos (by decide) (ev_ret ?_)
    obtain ⟨q, rfl⟩ : ∃ q, m = q + 1 := ⟨m - 1, by omega⟩
    rw [Gf.gp_zero]; rfl
  · refine ev_neg (by simpa using h0) (ev_neg (by omega) ?_)
    have e : Int.tmod (m : Int) 255 = ((m % 255 : Nat) : Int) := by
      rw [Int.tmod_eq_emod_of_nonneg (by omega)]; omega
    rw [e]
    have := impl_pow_l0 8 (m % 255) a 1 (Nat.lt_trans (Nat.mod_lt _ (by decide)) (by decide)) (by decide) ha (by decide)
    refine ev_eq this ?_
    rw [Gf.one_gm (Gf.gp_lt ha _), Gf.gp_mod ha h0]
theorem impl_inv {a : Nat} (ha : a < 256) : Ev (fun k => impl_GfInv.f k (a : Int)) (((if a = 0 then 0 else Gf.inv a : Nat) : Int), decide (a ≠ 0)) := by
  unfold impl_GfInv.f
  by_cases h : a = 0
  · subst h
    exact ev_pos rfl (ev_ret rfl)
  · refine ev_neg (by omega) (ev_bind (impl_pow ha (by decide)) (ev_ret ?_))
    rw [if_neg h]
    simp [h, powOf, Gf.inv]
/-- Place by place: x and the product of k and y. -/
def axpy (k : Nat) : List Nat → List Nat → List Nat
  | a :: l, b :: m => (a ^^^ Gf.gm k b) :: axpy k l m
  | _, _ => []
theorem axpy_length (k : Nat) : ∀ (a b : List Nat), a.length = b.length → (axpy k a b).length = a.length := by
  intro a
  induction a with
  | nil => intro b h; rfl
  | cons x l ih =>
    intro b h
    cases b with
    | nil => simp at h
    | cons y m => simp only [axpy, List.length_cons]; rw [ih m (by simpa using h)]
theorem impl_axpy_l0 (c : Nat) (hc : c < 256) (a b : List Nat) (ha : ∀ c ∈ a, c < 256) (hb : ∀ c ∈ b, c < 256) (hl : a.length ≤ 140737488355327) (he : a.length = b.length) (n : Nat) : ∀ (i : Nat) (o : List Nat), i + n = a.length → o.length = i →
    Ev (fun k => impl_GfAxpy.l0 k (c : Int) (I b) (I o) (I a) ((I a).length : Int) (i : Int)) (I (o ++ axpy c (a.drop i) (b.drop i)), true) := by
  induction n with
  | zero =>
    intro i o hi ho
    refine Ev.step (fun k => impl_GfAxpy.l0.eq_2 ..) ?_
    refine ev_neg (by rw [I_length]; omega) (ev_ret ?_)
    rw [List.drop_eq_nil_of_le (by omega : a.length ≤ i)]
    simp [axpy]
  | succ n ih =>
    intro i o hi ho
    refine Ev.step (fun k => impl_GfAxpy.l0.eq_2 ..) ?_
    have hx := getD_lt ha (by decide) i
    have hy := getD_lt hb (by decide) i
    refine ev_pos (by rw [I_length]; omega) (ev_pos (by omega) (ev_pos (by rw [I_length]; omega) (ev_pos (by rw [I_length]; omega) ?_)))
    rw [rd_I, rd_I, wr_succ (by omega)]
    refine ev_bind (impl_mul hc hy) (ev_pos (by rw [I_length]; omega) ?_)
    rw [xor8 hx (Gf.gm_lt _ hc), drop_getD a 0 i (by omega), drop_getD b 0 i (by omega), I_snoc]
    have := ih (i + 1) (o ++ [a.getD i 0 ^^^ Gf.gm c (b.getD i 0)]) (by omega) (by simp [ho])
    rw [List.append_assoc] at this
    exact this
theorem impl_axpy {c : Nat} (hc : c < 256) {a b : List Nat} (ha : ∀ c ∈ a, c < 256) (hb : ∀ c ∈ b, c < 256) (hl : a.length ≤ 140737488355327) :
    Ev (fun k => impl_GfAxpy.f k (I a) (c : Int) (I b)) (if a.length = b.length then (I (axpy c a b), true) else ([], false)) := by
  unfold impl_GfAxpy.f
  by_cases h : a.length = b.length
  · rw [if_pos h]
    refine ev_pos (by rw [I_length, I_length, h]) ?_
    have := impl_axpy_l0 c hc a b ha hb hl h a.length 0 [] (by omega) rfl
    simpa [I_nil] using this
  · rw [if_neg h]
    refine ev_neg (by rw [I_length, I_length]; omega) (ev_ret rfl)
/-- How long a shard is. -/
def lgN (K s : Nat) : Nat := max 1 ((s + K - 1) / K)
theorem lgN_le {K s : Nat} (hK : 1 ≤ K ∧ K ≤ 8) (hs : s ≤ 120) : lgN K s ≤ 127 ∧ s ≤ K * lgN K s ∧ 1 ≤ lgN K s := by
  unfold lgN
  have h1 := Nat.div_le_self (s + K - 1) K
  have h2 := Nat.div_add_mod (s + K - 1) K
  have h3 := Nat.mod_lt (s + K - 1) (show 0 < K by omega)
  have h4 : K * ((s + K - 1) / K) ≤ K * max 1 ((s + K - 1) / K) := Nat.mul_le_mul_left K (by omega)
  generalize (s + K - 1) / K = q at *
  exact ⟨by omega, by omega, by omega⟩
theorem lg_tdiv {K s : Nat} (hK : 1 ≤ K ∧ K ≤ 8) (hs : s ≤ 120) : wrap64 (Int.tdiv (wrap64 ((wrap64 ((s : Int) + (K : Int))) - 1)) (K : Int)) = (((s + K - 1) / K : Nat) : Int) := by
  have e1 : wrap64 (wrap64 ((s : Int) + (K : Int)) - 1) = ((s + K - 1 : Nat) : Int) := by rw [wr (n := (s : Int) + (K : Int)) (by omega) (by omega), wr (by omega) (by omega)]; omega
  rw [e1, ← Int.ofNat_tdiv, wrn (Nat.le_trans (Nat.div_le_self _ _) (by omega))]
theorem impl_long {K s : Nat} (hK : 1 ≤ K ∧ K ≤ 8) (hs : s ≤ 120) : impl_Long.f (K : Int) (s : Int) = some ((lgN K s : Nat) : Int) := by
  have h1 : (K : Int) ≥ 1 := by omega
  have h2 : (K : Int) ≤ 8 := by omega
  have h3 : (s : Int) ≥ 0 := by omega
  have h4 : (s : Int) ≤ 120 := by omega
  unfold impl_Long.f impl_in.f
  simp only [h1, h2, h3, h4, if_true, decide_true, Option.bind_some]
  rw [if_neg (by omega), lg_tdiv hK hs]
  unfold mx lgN
  generalize (s + K - 1) / K = q
  by_cases h : (q : Int) < 1
  · rw [if_pos h, show max 1 q = 1 by omega]; rfl
  · rw [if_neg h, show max 1 q = q by omega]
/-- The numbers are right. -/
def numsOk (k n : Int) (s : Nat) : Prop := 1 ≤ k ∧ k ≤ n ∧ n ≤ 8 ∧ s ≤ 120
instance (k n : Int) (s : Nat) : Decidable (numsOk k n s) := by unfold numsOk; infer_instance
theorem impl_nums (k n : Int) (s : Nat) : impl_codeOk.f k n (s : Int) = some (decide (numsOk k n s)) := by
  unfold impl_codeOk.f
  by_cases h : 1 ≤ k ∧ k ≤ 8 ∧ s ≤ 120
  · obtain ⟨K, rfl⟩ := Int.eq_ofNat_of_zero_le (show 0 ≤ k by omega)
    have hl := lgN_le (K := K) (s := s) (by omega) (by omega)
    rw [impl_long (by omega) (by omega), Option.bind_some, if_pos (by omega)]
    unfold impl_in.f
    by_cases h2 : n ≥ (K : Int)
    · rw [if_pos h2, Option.bind_some]
      exact congrArg some (decide_eq_decide.2 (by unfold numsOk; omega))
    · rw [if_neg h2, Option.bind_some]
      exact congrArg some (decide_eq_false (by unfold numsOk; omega)).symm
  · have e : impl_Long.f k (s : Int) = some (-1) := by
      unfold impl_Long.f impl_in.f
      by_cases h1 : k ≥ 1
      · by_cases h2 : k ≤ 8
        · have h4 : (s : Int) ≥ 0 := by omega
          have h5 : ¬ (s : Int) ≤ 120 := by omega
          simp [h1, h2, h4, h5]
        · simp [h1, h2]
      · simp [h1]
    rw [e, Option.bind_some, if_neg (by omega)]
    exact congrArg some (decide_eq_false (by unfold numsOk; omega)).symm
/-- The product of the ways from z to all places but the i-th. -/
def pr (z i : Nat) : List Nat → Nat → Nat → Nat
  | [], _, a => a
  | x :: l, j, a => if j = i then pr z i l (j + 1) a else pr z i l (j + 1) (Gf.gm a (z ^^^ x))
def inv0 (a : Nat) : Nat := if a = 0 then 0 else Gf.inv a
theorem inv0_lt {a : Nat} (h : a < 256) : inv0 a < 256 := by
  unfold inv0
  split
  · decide
  · exact Gf.inv_lt h
/-- How much the i-th place counts at z. -/
def wt (xs : List Nat) (z i : Nat) : Nat := Gf.gm (pr z i xs 0 1) (inv0 (pr (xs.getD i 0) i xs 0 1))
theorem pr_lt (z i : Nat) (l : List Nat) : ∀ j a, a < 256 → pr z i l j a < 256 := by
  induction l with
  | nil => intro j a h; exact h
  | cons x l ih =>
    intro j a h
    unfold pr
    split
    · exact ih _ _ h
    · exact ih _ _ (Gf.gm_lt _ h)
theorem wt_lt (xs : List Nat) (z i : Nat) : wt xs z i < 256 := Gf.gm_lt _ (pr_lt _ _ _ _ _ (by decide))
theorem impl_w_l1 (xs : List Nat) (hx : ∀ c ∈ xs, c < 256) (hl : xs.length ≤ 100) (z : Nat) (hz : z < 256) (o : List Nat) (ho : o.length ≤ 100) (i : Nat) (hi : i < xs.length) {R : List Int} (n : Nat) : ∀ j a b, j + n = xs.length → a < 256 → b < 256 →
    Ev (fun k => impl_weights.l0 k (I xs) (z : Int) (I (o ++ [Gf.gm (pr z i (xs.drop j) j a) (inv0 (pr (xs.getD i 0) i (xs.drop j) j b))])) (I xs) ((I xs).length : Int) (wrap64 ((i : Int) + 1))) R →
    Ev (fun k => impl_weights.l1 k (I xs) (z : Int) (I o) (i : Int) ((xs.getD i 0 : Nat) : Int) (a : Int) (b : Int) (I xs) ((I xs).length : Int) (i : Int) (I xs) ((I xs).length : Int) (j : Int)) R := by
  induction n with
  | zero =>
    intro j a b hj ha hb h
    rw [show xs.drop j = [] from List.drop_eq_nil_of_le (by omega)] at h
    refine Ev.step (fun k => impl_weights.l1.eq_2 ..) (ev_neg (by rw [I_length]; omega) (ev_bind (impl_inv hb) (ev_bind (impl_mul ha (inv0_lt hb)) (ev_pos (by rw [I_length]; omega) ?_))))
    rw [I_snoc]
    exact h
  | succ n ih =>
    intro j a b hj ha hb h
    rw [drop_getD xs 0 j (by omega)] at h
    have hxj := getD_lt hx (by decide) j
    have hxi := getD_lt hx (by decide) i
    refine Ev.step (fun k => impl_weights.l1.eq_2 ..) (ev_pos (by rw [I_length]; omega) (ev_pos (by omega) (ev_pos (by rw [I_length]; omega) ?_)))
    rw [rd_I, wr_succ (n := j) (by omega), xor8 hz hxj, xor8 hxi hxj]
    by_cases hij : j = i
    · subst hij
      refine ev_pos rfl (ih (j + 1) a b (by omega) ha hb ?_)
      unfold pr at h
      rw [if_pos rfl, if_pos rfl] at h
      exact h
    · refine ev_neg (by omega) (ev_bind (impl_mul ha (Gf.xor_lt hz hxj)) (ev_bind (impl_mul hb (Gf.xor_lt hxi hxj)) (ih (j + 1) _ _ (by omega) (Gf.gm_lt _ ha) (Gf.gm_lt _ hb) ?_)))
      unfold pr at h
      rw [if_neg hij, if_neg hij] at h
      exact h
theorem range_snoc {α : Type} (f : Nat → α) (i : Nat) : (List.range i).map f ++ [f i] = (List.range (i + 1)).map f := by rw [List.range_succ, List.map_append]; rfl
theorem impl_w_l0 (xs : List Nat) (hx : ∀ c ∈ xs, c < 256) (hl : xs.length ≤ 100) (z : Nat) (hz : z < 256) (n : Nat) : ∀ i : Nat, i + n = xs.length →
    Ev (fun k => impl_weights.l0 k (I xs) (z : Int) (I ((List.range i).map (wt xs z))) (I xs) ((I xs).length : Int) (i : Int)) (I ((List.range xs.length).map (wt xs z))) := by
  induction n with
  | zero =>
    intro i hi
    rw [show i = xs.length by omega]
    exact Ev.step (fun k => impl_weights.l0.eq_2 ..) (ev_neg (by rw [I_length]; omega) (ev_ret rfl))
  | succ n ih =>
    intro i hi
    have h := ih (i + 1) (by omega)
    rw [← range_snoc] at h
    refine Ev.step (fun k => impl_weights.l0.eq_2 ..) (ev_pos (by rw [I_length]; omega) (ev_pos (by omega) (ev_pos (by rw [I_length]; omega) ?_)))
    rw [rd_I]
    refine impl_w_l1 xs hx hl z hz _ (by simp; omega) i (by omega) xs.length 0 1 1 (by omega) (by decide) (by decide) ?_
    rw [wr_succ (by omega)]
    exact h
theorem impl_w {xs : List Nat} (hx : ∀ c ∈ xs, c < 256) (hl : xs.length ≤ 100) {z : Nat} (hz : z < 256) : Ev (fun k => impl_weights.f k (I xs) (z : Int)) (I ((List.range xs.length).map (wt xs z))) := by
  unfold impl_weights.f
  exact impl_w_l0 xs hx hl z hz xs.length 0 (by omega)
/-- The value at z of what runs through ys, summed over the first places. -/
def fy (ys xs : List Nat) (z : Nat) : Nat → Nat
  | 0 => 0
  | i + 1 => fy ys xs z i ^^^ Gf.gm (ys.getD i 0) (wt xs z i)
theorem fy_lt {ys : List Nat} (hy : ∀ c ∈ ys, c < 256) (xs : List Nat) (z i : Nat) : fy ys xs z i < 256 := by
  induction i with
  | zero => exact (by decide : 0 < 256)
  | succ i ih => exact Gf.xor_lt ih (Gf.gm_lt _ (getD_lt hy (by decide) i))
theorem map_at {α : Type} (f : Nat → α) (d : α) {n i : Nat} (h : i < n) : ((List.range n).map f).getD i d = f i := by
  rw [List.getD_eq_getElem?_getD, List.getElem?_map, List.getElem?_range h]
  rfl
theorem axpy_range (c : Nat) (f : Nat → Nat) (n : Nat) : ∀ (s : Nat) (r : List Nat), r.length = n → axpy c ((List.range' s n).map f) r = (List.range' s n).map (fun p => f p ^^^ Gf.gm c (r.getD (p - s) 0)) := by
  induction n with
  | zero => intro s r h; rfl
  | succ n ih =>
    intro s r h
    cases r with
    | nil => simp at h
    | cons x r =>
      rw [List.range'_succ, List.map_cons, List.map_cons, axpy, ih (s + 1) r (by simpa using h), Nat.sub_self]
      refine congrArg (List.cons _) (List.map_congr_left fun p hp => ?_)
      have := (List.mem_range'_1.1 hp).1
      rw [show p - s = (p - (s + 1)) + 1 by omega, List.getD_cons_succ]
theorem axpy_map (c : Nat) (f : Nat → Nat) (n : Nat) (r : List Nat) (h : r.length = n) : axpy c ((List.range n).map f) r = (List.range n).map (fun p => f p ^^^ Gf.gm c (r.getD p 0)) := by
  have := axpy_range c f n 0 r h
  rw [← List.range_eq_range'] at this
  simpa using this
/-- The first rows. -/
def RR (R : Nat → List Nat) (i : Nat) : List (List Int) := (List.range i).map fun t => I (R t)
theorem RR_length (R : Nat → List Nat) (i : Nat) : (RR R i).length = i := by simp [RR]
theorem RR_snoc (R : Nat → List Nat) (i : Nat) : RR R i ++ [I (R i)] = RR R (i + 1) := range_snoc _ i
theorem RR_at (R : Nat → List Nat) {i n : Nat} (h : i < n) : rd_L1 (RR R n) (i : Int) = I (R i) := by rw [rdB_nat]; exact map_at _ _ h
theorem RR_take (R R' : Nat → List Nat) {K i : Nat} (h : K ≤ i) (hr : ∀ t, t < K → R t = R' t) : (RR R i).take K = RR R' K := by
  unfold RR
  rw [← List.map_take, List.take_range, Nat.min_eq_left h]
  exact List.map_congr_left fun t ht => by rw [hr t (List.mem_range.1 ht)]
/-- The places' bytes at one place of the rows. -/
def col (R : Nat → List Nat) (K p : Nat) : List Nat := (List.range K).map fun t => (R t).getD p 0
theorem col_lt {R : Nat → List Nat} {K : Nat} (hR : ∀ t, t < K → ∀ c ∈ R t, c < 256) (p : Nat) : ∀ c ∈ col R K p, c < 256 := by
  intro c hc
  obtain ⟨t, ht, rfl⟩ := List.mem_map.1 hc
  exact getD_lt (hR t (List.mem_range.1 ht)) (by decide) p
theorem impl_bp_l0 (R : Nat → List Nat) (K L : Nat) (xs : List Nat) (z : Nat) (hK : K ≤ 8) (hL : L ≤ 127) (hR : ∀ t, t < K → (R t).length = L) (hb : ∀ t, t < K → ∀ c ∈ R t, c < 256) (n : Nat) : ∀ i : Nat, i + n = K →
    Ev (fun k => impl_byPlaces.l0 k (RR R K) (I ((List.range L).map fun p => fy (col R K p) xs z i)) (I ((List.range K).map (wt xs z))) ((I ((List.range K).map (wt xs z))).length : Int) (i : Int)) (I ((List.range L).map fun p => fy (col R K p) xs z K)) := by
  induction n with
  | zero =>
    intro i hi
    rw [show i = K by omega]
    exact Ev.step (fun k => impl_byPlaces.l0.eq_2 ..) (ev_neg (by rw [I_length, List.length_map, List.length_range]; omega) (ev_ret rfl))
  | succ n ih =>
    intro i hi
    have hn := ih (i + 1) (by omega)
    have hlen : (I ((List.range K).map (wt xs z))).length = K := by rw [I_length, List.length_map, List.length_range]
    refine Ev.step (fun k => impl_byPlaces.l0.eq_2 ..) (ev_pos (by rw [hlen]; omega) (ev_pos (by omega) (ev_pos (by rw [hlen]; omega) (ev_pos (by rw [RR_length]; omega) ?_))))
    rw [rd_I, map_at _ _ (by omega), RR_at R (by omega), wr_succ (by omega)]
    have ha : ∀ c ∈ (List.range L).map (fun p => fy (col R K p) xs z i), c < 256 := by
      intro c hc
      obtain ⟨p, _, rfl⟩ := List.mem_map.1 hc
      exact fy_lt (col_lt hb p) xs z i
    have hax := impl_axpy (wt_lt xs z i) ha (hb i (by omega)) (by rw [List.length_map, List.length_range]; omega)
    rw [if_pos (by rw [List.length_map, List.length_range, hR i (by omega)]), axpy_map _ _ L (R i) (hR i (by omega))] at hax
    refine ev_bind hax ?_
    have e : (fun p => fy (col R K p) xs z i ^^^ Gf.gm (wt xs z i) ((R i).getD p 0)) = fun p => fy (col R K p) xs z (i + 1) := by
      funext p
      unfold fy
      rw [show (col R K p).getD i 0 = (R i).getD p 0 from map_at _ _ (by omega), Gf.gm_comm (wt_lt xs z i) (getD_lt (hb i (by omega)) (by decide) p)]
      cases i <;> rfl
    rw [e]
    exact hn
theorem I_rep (n : Nat) : I (List.replicate n 0) = List.replicate n 0 := by simp [I]
theorem impl_bp (R : Nat → List Nat) (K L : Nat) {xs : List Nat} {z : Nat} (hK : 1 ≤ K ∧ K ≤ 8) (hL : L ≤ 127) (hR : ∀ t, t < K → (R t).length = L) (hb : ∀ t, t < K → ∀ c ∈ R t, c < 256) (hx : ∀ c ∈ xs, c < 256) (hl : xs.length = K) (hz : z < 256) :
    Ev (fun k => impl_byPlaces.f k (I xs) (RR R K) (z : Int)) (I ((List.range L).map fun p => fy (col R K p) xs z K)) := by
  unfold impl_byPlaces.f
  have e0 : rd_L1 (RR R K) 0 = I (R 0) := RR_at R (i := 0) (by omega)
  have hw := impl_w hx (by omega) hz
  rw [hl] at hw
  rw [e0, I_length, hR 0 (by omega), Int.toNat_natCast]
  refine ev_pos (by rw [RR_length]; omega) (ev_pos (by omega) (ev_pos (by omega) (ev_bind hw ?_)))
  have h := impl_bp_l0 R K L xs z hK.2 hL hR hb K 0 (by omega)
  have e : (List.range L).map (fun p => fy (col R K p) xs z 0) = List.replicate L 0 := by
    show (List.range L).map (fun _ => 0) = _
    rw [List.map_const', List.length_range]
  rw [e, I_rep] at h
  exact h
theorem impl_first_l0 (K : Nat) (hK : K ≤ 8) (n : Nat) : ∀ j : Nat, j + n = K → Ev (fun k => impl_firstPlaces.l0 k (I (List.range j)) (K : Int) (j : Int)) (I (List.range K)) := by
  induction n with
  | zero =>
    intro j hj
    rw [show j = K by omega]
    exact Ev.step (fun k => impl_firstPlaces.l0.eq_2 ..) (ev_neg (by omega) (ev_ret rfl))
  | succ n ih =>
    intro j hj
    have h := ih (j + 1) (by omega)
    rw [List.range_succ, ← I_snoc] at h
    refine Ev.step (fun k => impl_firstPlaces.l0.eq_2 ..) (ev_pos (by omega) (ev_pos (by rw [I_length, List.length_range]; omega) ?_))
    rw [wr_succ (by omega), show (j : Int) % 256 = (j : Int) by omega]
    exact h
theorem range_lt {K : Nat} (hK : K ≤ 8) : ∀ c ∈ List.range K, c < 256 := fun c hc => by have := List.mem_range.1 hc; omega
/-- The data of one place. -/
def dat (W : List Nat) (L t : Nat) : List Nat := (W.drop (t * L)).take L
/-- A place's shard. -/
def row (W : List Nat) (K L i : Nat) : List Nat := if i < K then dat W L i else (List.range L).map fun p => fy (col (dat W L) K p) (List.range K) i K
theorem row_dat (W : List Nat) (K L : Nat) : ∀ t, t < K → row W K L t = dat W L t := fun t h => by unfold row; rw [if_pos h]
theorem mulN {a b : Nat} (h : a * b ≤ 9223372036854775807) : wrap64 ((a : Int) * (b : Int)) = ((a * b : Nat) : Int) := by rw [← Int.natCast_mul, wrn h]
section
variable {W : List Nat} {K L n : Nat}
theorem dat_len (hW : W.length = K * L) : ∀ t, t < K → (dat W L t).length = L := by
  intro t ht
  have h1 := Nat.mul_le_mul_right L (show t + 1 ≤ K by omega)
  rw [Nat.succ_mul] at h1
  unfold dat
  rw [List.length_take, List.length_drop, hW]
  generalize t * L = a at *
  generalize K * L = b at *
  omega
theorem dat_lt (hb : ∀ c ∈ W, c < 256) : ∀ t, t < K → ∀ c ∈ dat W L t, c < 256 := fun _ _ c hc => hb c (List.mem_of_mem_drop (List.mem_of_mem_take hc))
theorem cut_eq (W : List Nat) (L i : Nat) : ((I W).take (i * L + L)).drop (i * L) = I (dat W L i) := by
  unfold dat
  rw [I_take, I_drop, List.drop_take, Nat.add_sub_cancel_left]
theorem impl_enc_l0 (hK : 1 ≤ K ∧ K ≤ 8) (hn : n ≤ 8) (hL : L ≤ 127) (hW : W.length = K * L) (hb : ∀ c ∈ W, c < 256) (m : Nat) : ∀ i : Nat, i + m = n →
    Ev (fun k => impl_encode.l0 k (K : Int) (L : Int) (I W) (RR (row W K L) i) (n : Int) (i : Int)) (RR (row W K L) n) := by
  have hKL : K * L ≤ 1016 := Nat.mul_le_mul hK.2 hL
  induction m with
  | zero =>
    intro i hi
    rw [show i = n by omega]
    exact Ev.step (fun k => impl_encode.l0.eq_2 ..) (ev_neg (by omega) (ev_ret rfl))
  | succ m ih =>
    intro i hi
    have h := ih (i + 1) (by omega)
    rw [← RR_snoc] at h
    refine Ev.step (fun k => impl_encode.l0.eq_2 ..) (ev_pos (by omega) ?_)
    by_cases hi2 : i < K
    · have h1 := Nat.mul_le_mul_right L (show i + 1 ≤ K by omega)
      rw [Nat.succ_mul] at h1
      have e2 : wrap64 (wrap64 ((i : Int) + 1) * (L : Int)) = ((i * L + L : Nat) : Int) := by rw [wr_succ (by omega), mulN (by rw [Nat.succ_mul]; omega), Nat.succ_mul]
      refine ev_pos (by omega) ?_
      rw [e2, mulN (by omega), Int.toNat_natCast, Int.toNat_natCast, cut_eq, wr_succ (by omega)]
      rw [row_dat W K L i hi2] at h
      have hd : (dat W L i).length ≤ L := by unfold dat; exact List.length_take_le _ _
      refine ev_pos (by omega) (ev_pos (by omega) (ev_pos (by rw [I_length, hW]; omega) (ev_pure (a := I (dat W L i)) ?_ (ev_pos (by rw [RR_length]; omega) h))))
      unfold bytes_Clone.f
      rw [if_pos (by rw [I_length]; omega)]
    · refine ev_neg (by omega) ?_
      unfold impl_firstPlaces.f
      refine ev_bind (impl_first_l0 K hK.2 K 0 (by omega)) (ev_pos (by omega) (ev_pos (by rw [RR_length]; omega) ?_))
      rw [Int.toNat_natCast, RR_take (row W K L) (dat W L) (by omega) (row_dat W K L), show (i : Int) % 256 = (i : Int) by omega]
      refine ev_bind (impl_bp (dat W L) K L hK hL (dat_len hW) (dat_lt hb) (range_lt hK.2) List.length_range (by omega)) (ev_pos (by rw [RR_length]; omega) ?_)
      rw [wr_succ (by omega)]
      rw [show row W K L i = _ from if_neg hi2] at h
      exact h
theorem range_ne {K : Nat} : ∀ i, i < (List.range K).length → ∀ j, j < (List.range K).length → j ≠ i → (List.range K).getD j 0 ≠ (List.range K).getD i 0 := by
  intro i hi j hj h
  rw [List.length_range] at hi hj
  rw [List.getD_eq_getElem?_getD, List.getD_eq_getElem?_getD, List.getElem?_range hi, List.getElem?_range hj]
  exact h
end
/-- The shards of data, and whether there are some. -/
def encoded (k n : Int) (m : List Nat) : List (List Int) × Bool := if numsOk k n m.length then (RR (row (m ++ List.replicate (k.toNat * lgN k.toNat m.length - m.length) 0) k.toNat (lgN k.toNat m.length)) n.toNat, true) else ([], false)
theorem whole_ok {K : Nat} {m : List Nat} (hK : 1 ≤ K ∧ K ≤ 8) (hs : m.length ≤ 120) (hm : ∀ c ∈ m, c < 256) : (m ++ List.replicate (K * lgN K m.length - m.length) 0).length = K * lgN K m.length ∧ ∀ c ∈ m ++ List.replicate (K * lgN K m.length - m.length) 0, c < 256 := by
  have h := (lgN_le hK hs).2.1
  refine ⟨by rw [List.length_append, List.length_replicate]; omega, fun c hc => ?_⟩
  rcases List.mem_append.1 hc with hc | hc
  · exact hm c hc
  · rw [(List.mem_replicate.1 hc).2]
    decide
theorem pad_eq {K L s : Nat} (h1 : K * L ≤ 1016) (h2 : s ≤ K * L) : wrap64 (wrap64 ((K : Int) * (L : Int)) - (s : Int)) = ((K * L - s : Nat) : Int) := by
  rw [mulN (by omega), wr (by omega) (by omega)]
  omega
theorem impl_enc {K n : Nat} {m : List Nat} (hK : 1 ≤ K ∧ K ≤ 8) (hn : n ≤ 8) (hs : m.length ≤ 120) (hm : ∀ c ∈ m, c < 256) :
    Ev (fun k => impl_encode.f k (K : Int) (n : Int) (I m)) (RR (row (m ++ List.replicate (K * lgN K m.length - m.length) 0) K (lgN K m.length)) n) := by
  unfold impl_encode.f
  have hl := lgN_le hK hs
  have hw := whole_ok hK hs hm
  have hKL : K * lgN K m.length ≤ 1016 := Nat.mul_le_mul hK.2 hl.1
  rw [I_length]
  refine ev_pure (impl_long hK hs) (ev_pure (a := I m) ?_ ?_)
  · unfold bytes_Clone.f
    rw [if_pos (by rw [I_length]; omega)]
  · rw [pad_eq hKL hl.2.1, Int.toNat_natCast, I_length, ← I_rep, ← I_append]
    exact ev_pos (by omega) (ev_pos (by omega) (impl_enc_l0 hK hn hl.1 hw.1 hw.2 n 0 (by omega)))
theorem tot_bound (l : List (List Int)) (b : Nat) (h : ∀ x ∈ l, x.length ≤ b) : tot l ≤ l.length * (b + 1) := by
  unfold tot
  induction l with
  | nil => exact Nat.zero_le _
  | cons x l ih =>
    have h1 := h x List.mem_cons_self
    have h2 := ih fun y hy => h y (List.mem_cons_of_mem _ hy)
    unfold tsum
    rw [List.length_cons, Nat.succ_mul]
    omega
theorem encoded_le (k n : Int) (m : List Nat) : tot (encoded k n m).1 ≤ 1000000000000 := by
  unfold encoded
  split
  · rename_i h
    obtain ⟨h1, h2, h3, h4⟩ := h
    have hl := (lgN_le (K := k.toNat) (s := m.length) (by omega) h4).1
    generalize lgN k.toNat m.length = L at *
    refine Nat.le_trans (tot_bound _ 127 fun x hx => ?_) ?_
    · obtain ⟨t, _, rfl⟩ := List.mem_map.1 hx
      rw [I_length]
      unfold row dat
      split
      · exact Nat.le_trans (List.length_take_le _ _) hl
      · rw [List.length_map, List.length_range]
        exact hl
    · rw [RR_length]
      omega
  · exact Nat.zero_le _
theorem impl_encodeF (k n : Int) {m : List Nat} (hm : ∀ c ∈ m, c < 256) : Ev (fun q => impl_Encode.f q k n (I m)) (encoded k n m) := by
  unfold impl_Encode.f encoded
  rw [I_length]
  refine ev_pure (impl_nums k n m.length) ?_
  by_cases h : numsOk k n m.length
  · rw [if_pos h]
    refine ev_pos (decide_eq_true h) ?_
    obtain ⟨h1, h2, h3, h4⟩ := h
    obtain ⟨K, rfl⟩ := Int.eq_ofNat_of_zero_le (show 0 ≤ k by omega)
    obtain ⟨N, rfl⟩ := Int.eq_ofNat_of_zero_le (show 0 ≤ n by omega)
    rw [Int.toNat_natCast, Int.toNat_natCast]
    exact ev_bind (impl_enc (by omega) (by omega) h4 hm) (ev_ret rfl)
  · rw [if_neg h]
    exact ev_neg (by simp only [decide_eq_true_eq]; exact h) (ev_ret rfl)
theorem strs_map (l : List Int) : (strOfNums l).toList = l.map (fun n => UInt8.ofNat n.toNat) := ByteArray.toList_mk _
/-- As the two programs compare two texts. -/
def same (p q : List Int) : Bool := (strOfNums p).toList == (strOfNums q).toList
theorem same_self (p : List Int) : same p p = true := by simp [same]
theorem same_imp (p : List Int) : ∀ q : List Int, (∀ x ∈ p, 0 ≤ x ∧ x < 256) → (∀ x ∈ q, 0 ≤ x ∧ x < 256) → same p q = true → p = q := by
  induction p with
  | nil =>
    intro q _ _ h
    cases q with
    | nil => rfl
    | cons y q => simp [same, strs_map] at h
  | cons x p ih =>
    intro q hp hq h
    cases q with
    | nil => simp [same, strs_map] at h
    | cons y q =>
      unfold same at h
      rw [strs_map, strs_map, List.map_cons, List.map_cons, beq_iff_eq, List.cons.injEq] at h
      obtain ⟨h1, h2⟩ := h
      have hx := hp x List.mem_cons_self
      have hy := hq y List.mem_cons_self
      have e : x.toNat = y.toNat := by
        have := congrArg UInt8.toNat h1
        simp only [UInt8.toNat_ofNat'] at this
        omega
      have exy : x = y := by omega
      subst exy
      rw [ih q (fun z hz => hp z (List.mem_cons_of_mem _ hz)) (fun z hz => hq z (List.mem_cons_of_mem _ hz)) (by unfold same; rw [strs_map, strs_map, beq_iff_eq]; exact h2)]
/-- The places are within bounds, and unlike. -/
def okAt (n : Int) : List Int → List Int → Bool
  | _, [] => true
  | p, x :: l => if 0 ≤ x ∧ x ≤ n - 1 then (if x ∈ p then false else okAt n (p ++ [x]) l) else false
theorem okAt_all (n : Int) (l : List Int) : ∀ p : List Int, p.Nodup → (∀ x ∈ p, 0 ≤ x ∧ x ≤ n - 1) → okAt n p l = true → (p ++ l).Nodup ∧ ∀ x ∈ p ++ l, 0 ≤ x ∧ x ≤ n - 1 := by
  induction l with
  | nil =>
    intro p h1 h2 _
    rw [List.append_nil]
    exact ⟨h1, h2⟩
  | cons x l ih =>
    intro p h1 h2 h
    unfold okAt at h
    by_cases hx : 0 ≤ x ∧ x ≤ n - 1
    · rw [if_pos hx] at h
      by_cases hm : x ∈ p
      · rw [if_pos hm] at h
        cases h
      · rw [if_neg hm] at h
        have := ih (p ++ [x]) ?_ ?_ h
        · rw [List.append_assoc] at this
          exact this
        · rw [List.nodup_append]
          refine ⟨h1, by simp, ?_⟩
          intro a ha b hb hab
          rw [List.mem_singleton] at hb
          subst hb
          subst hab
          exact hm ha
        · intro y hy
          rcases List.mem_append.1 hy with hy | hy
          · exact h2 y hy
          · rw [List.mem_singleton] at hy
            subst hy
            exact hx
    · rw [if_neg hx] at h
      cases h
theorem pigeon (n : Nat) : ∀ l : List Int, l.Nodup → (∀ x ∈ l, 0 ≤ x ∧ x ≤ (n : Int) - 1) → l.length ≤ n := by
  induction n with
  | zero =>
    intro l _ h
    cases l with
    | nil => exact Nat.le_refl _
    | cons x l => have := h x List.mem_cons_self; omega
  | succ n ih =>
    intro l hn h
    by_cases hm : (n : Int) ∈ l
    · have h1 := ih (l.erase (n : Int)) (hn.erase _) (fun x hx => by
        have h2 := (List.Nodup.mem_erase_iff hn).1 hx
        have h3 := h x h2.2
        have h4 := h2.1
        omega)
      rw [List.length_erase_of_mem hm] at h1
      omega
    · have := ih l hn (fun x hx => by
        have h3 := h x hx
        have : x ≠ (n : Int) := fun e => hm (e ▸ hx)
        omega)
      omega
theorem okAt_len {n : Int} {l : List Int} (h0 : 0 ≤ n) (h : okAt n [] l = true) : (l.length : Int) ≤ n := by
  have h1 := okAt_all n l [] List.nodup_nil (fun x hx => by cases hx) h
  obtain ⟨N, rfl⟩ := Int.eq_ofNat_of_zero_le h0
  have := pigeon N l h1.1 h1.2
  omega
theorem in_eq {x n : Int} (f : Int → Int → Int → Option Bool) (hf : ∀ a b c, f a b c = if a ≥ b then (some (decide (a ≤ c))) else (some false)) : f x 0 (n - 1) = some (decide (0 ≤ x ∧ x ≤ n - 1)) := by
  rw [hf]
  by_cases h : x ≥ 0
  · rw [if_pos h]
    exact congrArg some (decide_eq_decide.2 (by omega))
  · rw [if_neg h]
    exact congrArg some (decide_eq_false (by omega)).symm
theorem dropI {l : List Int} {i : Nat} (h : i < l.length) : l.drop i = l.getD i 0 :: l.drop (i + 1) := drop_getD l 0 i h
theorem getD_memI {l : List Int} {i : Nat} (h : i < l.length) : l.getD i 0 ∈ l := by
  rw [List.getD_eq_getElem?_getD, List.getElem?_eq_getElem h]
  exact List.getElem_mem h
/-- Where a number stands first. -/
def ixf (x : Int) : List Int → Nat → Int
  | [], _ => -1
  | y :: l, j => if x = y then (j : Int) else ixf x l (j + 1)
theorem ixf_mem (x : Int) (l : List Int) : ∀ j, decide (ixf x l j ≥ 0) = decide (x ∈ l) := by
  induction l with
  | nil => intro j; simp [ixf]
  | cons y l ih =>
    intro j
    unfold ixf
    by_cases h : x = y
    · rw [if_pos h, decide_eq_true (by omega), decide_eq_true (by rw [h]; exact List.mem_cons_self)]
    · rw [if_neg h, ih]
      exact decide_eq_decide.2 ⟨List.mem_cons_of_mem _, fun hc => (List.mem_cons.1 hc).elim (fun e => absurd e h) id⟩
theorem index_l0 (p : List Int) (x : Int) (hp : p.length ≤ 1048576) (m : Nat) : ∀ j : Nat, j + m = p.length → Ev (fun k => slices_Index_int_int.l0 k p x (p.length : Int) (j : Int)) (ixf x (p.drop j) j) := by
  induction m with
  | zero =>
    intro j hj
    rw [show p.drop j = [] from List.drop_eq_nil_of_le (by omega)]
    exact Ev.step (fun k => slices_Index_int_int.l0.eq_2 ..) (ev_neg (by omega) (ev_ret rfl))
  | succ m ih =>
    intro j hj
    rw [dropI (l := p) (by omega)]
    refine Ev.step (fun k => slices_Index_int_int.l0.eq_2 ..) (ev_pos (by omega) (ev_pos (by omega) (ev_pos (by omega) ?_)))
    rw [rd_nat, wr_succ (by omega)]
    unfold ixf
    by_cases h : x = p.getD j 0
    · rw [if_pos h]
      exact ev_pos h (ev_ret rfl)
    · rw [if_neg h]
      exact ev_neg h (ih (j + 1) (by omega))
theorem contains_eq (p : List Int) (x : Int) (hp : p.length ≤ 1048576) : Ev (fun k => slices_Contains_int_int.f k p x) (decide (x ∈ p)) := by
  unfold slices_Contains_int_int.f slices_Index_int_int.f
  have h := index_l0 p x hp p.length 0 (by omega)
  rw [List.drop_zero] at h
  refine ev_bind h (ev_ret ?_)
  exact ixf_mem x p 0
theorem impl_un_l0 (n : Int) (hn : 1 ≤ n ∧ n ≤ 8) (l : List Int) (hl : l.length ≤ 1048576) (m : Nat) : ∀ i : Nat, i + m = l.length →
    Ev (fun k => impl_unlike.l0 k l n l (l.length : Int) (i : Int)) (okAt n (l.take i) (l.drop i)) := by
  induction m with
  | zero =>
    intro i hi
    rw [show l.drop i = [] from List.drop_eq_nil_of_le (by omega)]
    exact Ev.step (fun k => impl_unlike.l0.eq_2 ..) (ev_neg (by omega) (ev_ret rfl))
  | succ m ih =>
    intro i hi
    have h := ih (i + 1) (by omega)
    rw [← take_getD l 0 i (by omega)] at h
    rw [dropI (l := l) (by omega)]
    refine Ev.step (fun k => impl_unlike.l0.eq_2 ..) (ev_pos (by omega) (ev_pos (by omega) (ev_pos (by omega) ?_)))
    rw [rd_nat, wr (n := n - 1) (by omega) (by omega), wr_succ (by omega), Int.toNat_natCast]
    refine ev_pure (in_eq impl_in.f (fun _ _ _ => rfl)) ?_
    unfold okAt
    by_cases hx : 0 ≤ l.getD i 0 ∧ l.getD i 0 ≤ n - 1
    · rw [if_pos hx]
      refine ev_pos (decide_eq_true hx) (ev_pos (by omega) (ev_bind (contains_eq (l.take i) (l.getD i 0) (by rw [List.length_take]; omega)) ?_))
      by_cases hm : l.getD i 0 ∈ l.take i
      · rw [if_pos hm]
        exact ev_pos (decide_eq_true hm) (ev_ret rfl)
      · rw [if_neg hm]
        exact ev_neg (by simp only [decide_eq_true_eq]; exact hm) h
    · rw [if_neg hx]
      exact ev_neg (by simp only [decide_eq_true_eq]; exact hx) (ev_ret rfl)
theorem impl_un (n : Int) (hn : 1 ≤ n ∧ n ≤ 8) (l : List Int) (hl : l.length ≤ 1048576) : Ev (fun k => impl_unlike.f k l n) (okAt n [] l) := by
  unfold impl_unlike.f
  have h0 := impl_un_l0 n hn l hl l.length 0 (by omega)
  rw [List.take_zero, List.drop_zero] at h0
  exact h0
/-- The first shard that is another. -/
def chk (all : List (List Int)) : List Int → List (List Int) → Nat → Int × Bool
  | x :: l, s :: ss, i => if same (all.getD x.toNat []) s = true then chk all l ss (i + 1) else ((i : Int), true)
  | _, _, _ => (-1, true)
theorem same_comm (p q : List Int) : same p q = same q p := by
  unfold same
  rw [Bool.eq_iff_iff, beq_iff_eq, beq_iff_eq]
  exact eq_comm
theorem rdB_int (l : List (List Int)) (x : Int) : rd_L1 l x = l.getD x.toNat [] := rfl
theorem impl_re_l0 (all : List (List Int)) (l : List Int) (ss : List (List Int)) (hl : l.length ≤ 1048576) (he : l.length = ss.length) (hr : ∀ x ∈ l, 0 ≤ x ∧ x < (all.length : Int)) (m : Nat) : ∀ i : Nat, i + m = l.length →
    Ev (fun k => impl_Recheck.l0 k ss all l (l.length : Int) (i : Int)) (chk all (l.drop i) (ss.drop i) i) := by
  induction m with
  | zero =>
    intro i hi
    rw [show l.drop i = [] from List.drop_eq_nil_of_le (by omega)]
    exact Ev.step (fun k => impl_Recheck.l0.eq_2 ..) (ev_neg (by omega) (ev_ret (by unfold chk; rfl)))
  | succ m ih =>
    intro i hi
    have h := ih (i + 1) (by omega)
    have hx := hr _ (getD_memI (l := l) (i := i) (by omega))
    rw [dropI (l := l) (by omega), dropB (l := ss) (by omega)]
    refine Ev.step (fun k => impl_Recheck.l0.eq_2 ..) (ev_pos (by omega) (ev_pos (by omega) (ev_pos (by omega) ?_)))
    rw [rd_nat, rdB_nat, rdB_int, wr_succ (by omega)]
    refine ev_pos hx.1 (ev_pos hx.2 (ev_pos (by omega) (ev_pure (a := same (all.getD (l.getD i 0).toNat []) (ss.getD i [])) rfl ?_)))
    unfold chk
    by_cases hs : same (all.getD (l.getD i 0).toNat []) (ss.getD i []) = true
    · rw [if_pos hs]
      exact ev_pos hs h
    · rw [if_neg hs]
      exact ev_neg hs (ev_ret rfl)
def recheck (k n : Int) (m : List Nat) (l : List Int) (ss : List (List Int)) : Int × Bool :=
  if numsOk k n m.length ∧ l.length = ss.length ∧ okAt n [] l = true then chk (encoded k n m).1 l ss 0 else (-2, false)
theorem encoded_len {k n : Int} {m : List Nat} (h : numsOk k n m.length) : ((encoded k n m).1.length : Int) = n ∧ (encoded k n m).2 = true := by
  unfold encoded
  rw [if_pos h]
  obtain ⟨h1, h2, _, _⟩ := h
  refine ⟨?_, rfl⟩
  rw [RR_length]
  omega
theorem okAt_in {n : Int} {l : List Int} (h : okAt n [] l = true) (x : Int) (hx : x ∈ l) : 0 ≤ x ∧ x ≤ n - 1 := (okAt_all n l [] List.nodup_nil (fun x hx => by cases hx) h).2 x hx
theorem impl_recheck (k n : Int) {m : List Nat} (hm : ∀ c ∈ m, c < 256) (l : List Int) (hl : l.length ≤ 1048576) (ss : List (List Int)) : Ev (fun q => impl_Recheck.f q k n (I m) l ss) (recheck k n m l ss) := by
  unfold impl_Recheck.f recheck
  rw [I_length]
  refine ev_pure (impl_nums k n m.length) ?_
  by_cases h : numsOk k n m.length
  · have he := encoded_len h
    refine ev_pos (decide_eq_true h) ?_
    have hn : 1 ≤ n ∧ n ≤ 8 := by obtain ⟨h1, h2, h3, _⟩ := h; omega
    refine ev_bind (impl_un n hn l hl) ?_
    cases h3 : okAt n [] l
    · rw [if_neg (by simp)]
      exact ev_neg (by decide) (Ev.step (fun k => impl_Recheck.j0.eq_2 ..) (ev_pos rfl (ev_ret rfl)))
    · refine ev_pos rfl (Ev.step (fun k => impl_Recheck.j0.eq_2 ..) ?_)
      by_cases h2 : l.length = ss.length
      · rw [if_pos ⟨h, h2, rfl⟩]
        have hc := impl_encodeF k n hm
        have henc : Ev (fun q => impl_encode.f q k n (I m)) (encoded k n m).1 := by
          unfold encoded
          rw [if_pos h]
          obtain ⟨h1, h4, h5, h6⟩ := h
          obtain ⟨K, rfl⟩ := Int.eq_ofNat_of_zero_le (show 0 ≤ k by omega)
          obtain ⟨N, rfl⟩ := Int.eq_ofNat_of_zero_le (show 0 ≤ n by omega)
          rw [Int.toNat_natCast, Int.toNat_natCast]
          exact impl_enc (by omega) (by omega) h6 hm
        exact ev_neg (by simp [h2]) (ev_bind henc (impl_re_l0 _ l ss hl h2 (fun x hx => by have := okAt_in h3 x hx; omega) l.length 0 (by omega)))
      · rw [if_neg (fun hc => h2 hc.2.1)]
        exact ev_pos (by simp; omega) (ev_ret rfl)
  · rw [if_neg (fun hc => h hc.1)]
    exact ev_neg (by simp only [decide_eq_true_eq]; exact h) (Ev.step (fun k => impl_Recheck.j0.eq_2 ..) (ev_pos rfl (ev_ret rfl)))
theorem xor0 {a b : Nat} (h : a ^^^ b = 0) : a = b := by
  have h2 : a ^^^ b ^^^ b = 0 ^^^ b := by rw [h]
  rwa [Nat.xor_assoc, Nat.xor_self, Nat.xor_zero, Nat.zero_xor] at h2
/-- The value of a polynomial, its lowest coefficient first. -/
def pev (x : Nat) : List Nat → Nat
  | [] => 0
  | c :: l => c ^^^ Gf.gm x (pev x l)
def B8 (l : List Nat) : Prop := ∀ c ∈ l, c < 256
theorem B8.tail {a : Nat} {l : List Nat} (h : B8 (a :: l)) : B8 l := fun c hc => h c (List.mem_cons_of_mem _ hc)
theorem B8.head {a : Nat} {l : List Nat} (h : B8 (a :: l)) : a < 256 := h a List.mem_cons_self
theorem B8.cons {a : Nat} {l : List Nat} (h : a < 256) (k : B8 l) : B8 (a :: l) := fun c hc => by
  rcases List.mem_cons.1 hc with rfl | hc
  · exact h
  · exact k c hc
theorem B8.nil : B8 [] := fun c hc => by cases hc
theorem pev_lt {x : Nat} (hx : x < 256) : ∀ {l : List Nat}, B8 l → pev x l < 256
  | [], _ => (by decide : (0 : Nat) < 256)
  | _ :: _, h => Gf.xor_lt h.head (Gf.gm_lt _ hx)
/-- Functions that a polynomial of so many coefficients tells. -/
def PF (n : Nat) (f : Nat → Nat) : Prop := ∃ l, l.length = n ∧ B8 l ∧ ∀ x, x < 256 → f x = pev x l
theorem xor4 (a b c d : Nat) : (a ^^^ b) ^^^ (c ^^^ d) = (a ^^^ c) ^^^ (b ^^^ d) := by rw [Nat.xor_assoc, Nat.xor_assoc, Gf.xor_left_comm b c d]
theorem pev_add (x : Nat) (hx : x < 256) : ∀ (a b : List Nat), a.length = b.length → B8 a → B8 b → ∃ c, c.length = a.length ∧ B8 c ∧ ∀ x, x < 256 → pev x a ^^^ pev x b = pev x c
  | [], [], _, _, _ => ⟨[], rfl, B8.nil, fun _ _ => Nat.xor_self 0⟩
  | a :: l, b :: m, he, ha, hb => by
    obtain ⟨c, h1, h2, h3⟩ := pev_add x hx l m (by simpa using he) ha.tail hb.tail
    refine ⟨(a ^^^ b) :: c, by simp [h1], B8.cons (Gf.xor_lt ha.head hb.head) h2, fun y hy => ?_⟩
    show (a ^^^ Gf.gm y (pev y l)) ^^^ (b ^^^ Gf.gm y (pev y m)) = (a ^^^ b) ^^^ Gf.gm y (pev y c)
    rw [xor4, ← Gf.gm_xor, h3 y hy]
theorem PF.add {n : Nat} {f g : Nat → Nat} (hf : PF n f) (hg : PF n g) : PF n (fun x => f x ^^^ g x) := by
  obtain ⟨a, a1, a2, a3⟩ := hf
  obtain ⟨b, b1, b2, b3⟩ := hg
  obtain ⟨c, c1, c2, c3⟩ := pev_add 0 (by decide) a b (by omega) a2 b2
  exact ⟨c, by omega, c2, fun x hx => by show f x ^^^ g x = _; rw [a3 x hx, b3 x hx, c3 x hx]⟩
theorem pev_scale {k : Nat} (hk : k < 256) {x : Nat} (hx : x < 256) : ∀ l : List Nat, B8 l → pev x (l.map (Gf.gm k)) = Gf.gm k (pev x l)
  | [], _ => (Gf.gm_zero k).symm
  | a :: l, h => by
    show Gf.gm k a ^^^ Gf.gm x (pev x (l.map (Gf.gm k))) = Gf.gm k (a ^^^ Gf.gm x (pev x l))
    rw [pev_scale hk hx l h.tail, Gf.gm_xor, ← Gf.gm_assoc hx hk (pev_lt hx h.tail), Gf.gm_comm hx hk, Gf.gm_assoc hk hx (pev_lt hx h.tail)]
theorem PF.scale {n k : Nat} {f : Nat → Nat} (hk : k < 256) (hf : PF n f) : PF n (fun x => Gf.gm k (f x)) := by
  obtain ⟨a, a1, a2, a3⟩ := hf
  refine ⟨a.map (Gf.gm k), by simp [a1], fun c hc => ?_, fun x hx => ?_⟩
  · obtain ⟨d, _, rfl⟩ := List.mem_map.1 hc
    exact Gf.gm_lt _ hk
  · show Gf.gm k (f x) = _
    rw [a3 x hx, pev_scale hk hx a a2]
theorem PF.lt {n : Nat} {f : Nat → Nat} (hf : PF n f) {x : Nat} (hx : x < 256) : f x < 256 := by
  obtain ⟨a, a1, a2, a3⟩ := hf
  rw [a3 x hx]
  exact pev_lt hx a2
theorem PF.congr {n : Nat} {f g : Nat → Nat} (hf : PF n f) (h : ∀ x, x < 256 → g x = f x) : PF n g := by
  obtain ⟨a, a1, a2, a3⟩ := hf
  exact ⟨a, a1, a2, fun x hx => (h x hx).trans (a3 x hx)⟩
theorem pev_one (x c : Nat) : pev x [c] = c := by unfold pev pev; rw [Gf.gm_zero, Nat.xor_zero]
theorem pev_snoc0 (x : Nat) (l : List Nat) : pev x (l ++ [0]) = pev x l := by
  induction l with
  | nil => exact pev_one x 0
  | cons a l ih => rw [List.cons_append]; unfold pev; rw [ih]
/-- One coefficient more. -/
theorem PF.up {n : Nat} {f : Nat → Nat} (hf : PF n f) : PF (n + 1) f := by
  obtain ⟨a, a1, a2, a3⟩ := hf
  refine ⟨a ++ [0], by simp [a1], fun c hc => ?_, fun x hx => by rw [pev_snoc0]; exact a3 x hx⟩
  rcases List.mem_append.1 hc with hc | hc
  · exact a2 c hc
  · rw [List.mem_singleton.1 hc]; decide
/-- Times x - a. -/
theorem PF.lin {n a : Nat} {f : Nat → Nat} (ha : a < 256) (hf : PF n f) : PF (n + 1) (fun x => Gf.gm (f x) (x ^^^ a)) := by
  have h1 : PF (n + 1) (fun x => Gf.gm x (f x)) := by
    obtain ⟨l, l1, l2, l3⟩ := hf
    refine ⟨0 :: l, by simp [l1], B8.cons (by decide) l2, fun x hx => ?_⟩
    show Gf.gm x (f x) = 0 ^^^ Gf.gm x (pev x l)
    rw [l3 x hx, Nat.zero_xor]
  have h2 := (hf.scale ha).up
  refine (h1.add h2).congr fun x hx => ?_
  show Gf.gm (f x) (x ^^^ a) = Gf.gm x (f x) ^^^ Gf.gm a (f x)
  rw [Gf.gm_comm (hf.lt hx) (Gf.xor_lt hx ha), Gf.xor_gm hx ha (hf.lt hx)]
theorem PF.const {c : Nat} (hc : c < 256) : PF 1 (fun _ => c) := ⟨[c], rfl, B8.cons hc B8.nil, fun x _ => (show pev x [c] = c by unfold pev pev; rw [Gf.gm_zero, Nat.xor_zero]).symm⟩
theorem PF.zero : ∀ n : Nat, PF n (fun _ => 0)
  | 0 => ⟨[], rfl, B8.nil, fun _ _ => rfl⟩
  | n + 1 => (PF.zero n).up
/-- Divided by x - a. -/
theorem pev_div {a : Nat} (ha : a < 256) (n : Nat) : ∀ l : List Nat, l.length = n + 1 → B8 l → ∃ q r, q.length = n ∧ B8 q ∧ r < 256 ∧ ∀ x, x < 256 → pev x l = Gf.gm (x ^^^ a) (pev x q) ^^^ r := by
  induction n with
  | zero =>
    intro l hl h
    match l, hl, h with
    | [c], _, h => exact ⟨[], c, rfl, B8.nil, h.head, fun x _ => by show c ^^^ Gf.gm x 0 = Gf.gm _ 0 ^^^ c; rw [Gf.gm_zero, Gf.gm_zero, Nat.xor_zero, Nat.zero_xor]⟩
  | succ n ih =>
    intro l hl h
    match l, hl, h with
    | c :: l, hl, h =>
      obtain ⟨q, r, h1, h2, h3, h4⟩ := ih l (by simpa using hl) h.tail
      refine ⟨r :: q, c ^^^ Gf.gm a r, by simp [h1], B8.cons h3 h2, Gf.xor_lt h.head (Gf.gm_lt _ ha), fun x hx => ?_⟩
      show c ^^^ Gf.gm x (pev x l) = Gf.gm (x ^^^ a) (r ^^^ Gf.gm x (pev x q)) ^^^ (c ^^^ Gf.gm a r)
      have hp := pev_lt hx h2
      have hxa := Gf.xor_lt hx ha
      have e1 : Gf.gm x (Gf.gm (x ^^^ a) (pev x q)) = Gf.gm (x ^^^ a) (Gf.gm x (pev x q)) := by rw [← Gf.gm_assoc hx hxa hp, Gf.gm_comm hx hxa, Gf.gm_assoc hxa hx hp]
      have e2 : Gf.gm x r = Gf.gm (x ^^^ a) r ^^^ Gf.gm a r := by rw [Gf.xor_gm hx ha h3, Nat.xor_assoc, Nat.xor_self, Nat.xor_zero]
      rw [h4 x hx, Gf.gm_xor, Gf.gm_xor, e1, e2]
      generalize Gf.gm (x ^^^ a) (Gf.gm x (pev x q)) = u
      generalize Gf.gm (x ^^^ a) r = v
      generalize Gf.gm a r = w
      rw [Gf.xor_left_comm u v w, Gf.xor_left_comm c v, Nat.xor_assoc v u, Gf.xor_left_comm u c w, Gf.xor_left_comm c u w]
/-- As many roots as coefficients: it is naught. -/
theorem PF.roots (n : Nat) : ∀ (f : Nat → Nat), PF n f → ∀ xs : List Nat, xs.length = n → B8 xs → xs.Nodup → (∀ a ∈ xs, f a = 0) → ∀ x, x < 256 → f x = 0 := by
  induction n with
  | zero =>
    intro f hf xs _ _ _ _ x hx
    obtain ⟨l, l1, l2, l3⟩ := hf
    rw [l3 x hx, List.eq_nil_of_length_eq_zero l1]
    rfl
  | succ n ih =>
    intro f hf xs hl hb hn h0 x hx
    match xs, hl, hb, hn, h0 with
    | a :: xs, hl, hb, hn, h0 =>
      obtain ⟨l, l1, l2, l3⟩ := hf
      obtain ⟨q, r, q1, q2, q3, q4⟩ := pev_div hb.head n l l1 l2
      have hr : r = 0 := by
        have h := h0 a List.mem_cons_self
        rw [l3 a hb.head, q4 a hb.head, Nat.xor_self, Gf.zero_gm, Nat.zero_xor] at h
        exact h
      subst hr
      have hq := ih (fun x => pev x q) ⟨q, q1, q2, fun _ _ => rfl⟩ xs (by simpa using hl) hb.tail (List.nodup_cons.1 hn).2 (fun b hbm => by
        have h := h0 b (List.mem_cons_of_mem _ hbm)
        have hb2 := hb b (List.mem_cons_of_mem _ hbm)
        rw [l3 b hb2, q4 b hb2, Nat.xor_zero] at h
        have hne : b ^^^ a ≠ 0 := fun e => by
          have : b = a := xor0 e
          subst this
          exact (List.nodup_cons.1 hn).1 hbm
        by_cases hz : pev b q = 0
        · exact hz
        · exact absurd h (Gf.gm_ne (Gf.xor_lt hb2 hb.head) (pev_lt hb2 q2) hne hz)) x hx
      rw [l3 x hx, q4 x hx, Nat.xor_zero]
      show Gf.gm _ (pev x q) = 0
      rw [show pev x q = 0 from hq, Gf.gm_zero]
/-- Two polynomials with as many common values as coefficients are one. -/
theorem PF.same {n : Nat} {f g : Nat → Nat} (hf : PF n f) (hg : PF n g) {xs : List Nat} (hl : xs.length = n) (hb : B8 xs) (hn : xs.Nodup) (h : ∀ a ∈ xs, f a = g a) {x : Nat} (hx : x < 256) : f x = g x := by
  have := PF.roots n _ (hf.add hg) xs hl hb hn (fun a ha => by show f a ^^^ g a = 0; rw [h a ha, Nat.xor_self]) x hx
  exact xor0 this
theorem pr_pf (i : Nat) (l : List Nat) (hb : B8 l) : ∀ (j n : Nat) (f : Nat → Nat), PF n f → PF (n + (if j ≤ i ∧ i < j + l.length then l.length - 1 else l.length)) (fun z => pr z i l j (f z)) := by
  induction l with
  | nil => intro j n f hf; rw [if_neg (by simp)]; exact hf
  | cons x l ih =>
    intro j n f hf
    unfold pr
    by_cases h : j = i
    · subst h
      have := ih hb.tail (j + 1) n f hf
      rw [if_neg (by omega)] at this
      rw [if_pos (by simp)]
      simp only [if_true, List.length_cons, Nat.add_sub_cancel]
      exact this
    · have := ih hb.tail (j + 1) (n + 1) _ (hf.lin hb.head)
      simp only [if_neg h, List.length_cons]
      by_cases h2 : j + 1 ≤ i ∧ i < j + 1 + l.length
      · rw [if_pos h2] at this
        rw [if_pos (by omega), show n + (l.length + 1 - 1) = n + 1 + (l.length - 1) by omega]
        exact this
      · rw [if_neg h2] at this
        rw [if_neg (by omega), show n + (l.length + 1) = n + 1 + l.length by omega]
        exact this
theorem pr_zero (z i : Nat) (l : List Nat) : ∀ j, pr z i l j 0 = 0 := by
  induction l with
  | nil => intro j; rfl
  | cons x l ih => intro j; unfold pr; rw [Gf.zero_gm, ih]; split <;> rfl
/-- At another place it is naught. -/
theorem pr_at (z i : Nat) (l : List Nat) : ∀ (j k a : Nat), k < l.length → j + k ≠ i → l.getD k 0 = z → pr z i l j a = 0 := by
  induction l with
  | nil => intro j k a h; simp at h
  | cons x l ih =>
    intro j k a hk hne he
    unfold pr
    cases k with
    | zero =>
      have : x = z := he
      subst this
      rw [if_neg (by omega), Nat.xor_self, Gf.gm_zero, pr_zero]
    | succ k =>
      have := fun a => ih (j + 1) k a (by simpa using hk) (by omega) (by simpa using he)
      rw [this, this]
      split <;> rfl
/-- At a place unlike the others it is not. -/
theorem pr_ne {z : Nat} (hz : z < 256) (i : Nat) (l : List Nat) (hb : B8 l) : ∀ (j a : Nat), a < 256 → a ≠ 0 → (∀ k, k < l.length → j + k ≠ i → l.getD k 0 ≠ z) → pr z i l j a ≠ 0 := by
  induction l with
  | nil => intro j a _ ha _; exact ha
  | cons x l ih =>
    intro j a ha8 ha h
    have h2 : ∀ k, k < l.length → j + 1 + k ≠ i → l.getD k 0 ≠ z := fun k hk hne => by
      have := h (k + 1) (by simpa using hk) (by omega)
      simpa using this
    unfold pr
    by_cases e : j = i
    · rw [if_pos e]; exact ih hb.tail (j + 1) a ha8 ha h2
    · rw [if_neg e]
      have hx := h 0 (by simp) (by omega)
      have hne : z ^^^ x ≠ 0 := fun e2 => hx (by rw [xor0 e2]; rfl)
      exact ih hb.tail (j + 1) _ (Gf.gm_lt _ ha8) (Gf.gm_ne ha8 (Gf.xor_lt hz hb.head) ha hne) h2
section
variable {xs : List Nat} (hb : B8 xs) (hn : ∀ i, i < xs.length → ∀ j, j < xs.length → j ≠ i → xs.getD j 0 ≠ xs.getD i 0)
include hb
theorem wt_pf {i : Nat} (hi : i < xs.length) : PF xs.length (fun z => wt xs z i) := by
  have h := pr_pf i xs hb 0 1 _ (PF.const (c := 1) (by decide))
  rw [if_pos (by omega), show 1 + (xs.length - 1) = xs.length by omega] at h
  have hp : pr (xs.getD i 0) i xs 0 1 < 256 := pr_lt _ _ _ _ _ (by decide)
  refine (h.scale (inv0_lt hp)).congr fun z hz => ?_
  exact Gf.gm_comm (pr_lt _ _ _ _ _ (by decide)) (inv0_lt hp)
omit hb in
theorem wt_off {i k : Nat} (hk : k < xs.length) (h : k ≠ i) : wt xs (xs.getD k 0) i = 0 := by
  unfold wt
  rw [pr_at _ i xs 0 k 1 hk (by omega) rfl, Gf.zero_gm]
include hn in
theorem wt_on {i : Nat} (hi : i < xs.length) : wt xs (xs.getD i 0) i = 1 := by
  have h8 : xs.getD i 0 < 256 := getD_lt hb (by decide) i
  have hp : pr (xs.getD i 0) i xs 0 1 ≠ 0 := pr_ne h8 i xs hb 0 1 (by decide) (by decide) (fun k hk hne => hn i hi k hk (by omega))
  unfold wt inv0
  rw [if_neg hp, Gf.gm_inv (pr_lt _ _ _ _ _ (by decide)) hp]
theorem fy_pf {ys : List Nat} (hy : B8 ys) : ∀ m : Nat, m ≤ xs.length → PF xs.length (fun z => fy ys xs z m)
  | 0, _ => PF.zero _
  | m + 1, h => (fy_pf hy m (by omega)).add (((wt_pf hb (i := m) (by omega)).scale (getD_lt hy (by decide) m)).congr fun _ _ => rfl)
include hn in
theorem fy_at {ys : List Nat} (hy : B8 ys) {k : Nat} (hk : k < xs.length) : ∀ m : Nat, m ≤ xs.length → fy ys xs (xs.getD k 0) m = if k < m then ys.getD k 0 else 0
  | 0, _ => rfl
  | m + 1, h => by
    show fy ys xs (xs.getD k 0) m ^^^ Gf.gm (ys.getD m 0) (wt xs (xs.getD k 0) m) = _
    rw [fy_at hy hk m (by omega)]
    by_cases e : k = m
    · subst e
      rw [wt_on hb hn hk, Gf.gm_one (getD_lt hy (by decide) k), if_neg (by omega), if_pos (by omega), Nat.zero_xor]
    · rw [wt_off hk e, Gf.gm_zero, Nat.xor_zero]
      by_cases h2 : k < m
      · rw [if_pos h2, if_pos (by omega)]
      · rw [if_neg h2, if_neg (by omega)]
end
theorem ext_getD {a b : List Nat} (hl : a.length = b.length) (h : ∀ p, p < a.length → a.getD p 0 = b.getD p 0) : a = b := by
  refine List.ext_getElem hl fun p h1 h2 => ?_
  have := h p h1
  rwa [List.getD_eq_getElem?_getD, List.getD_eq_getElem?_getD, List.getElem?_eq_getElem h1, List.getElem?_eq_getElem h2] at this
theorem nodup_ne {xs : List Nat} (h : xs.Nodup) : ∀ i, i < xs.length → ∀ j, j < xs.length → j ≠ i → xs.getD j 0 ≠ xs.getD i 0 := by
  intro i hi j hj hne e
  have hp := List.pairwise_iff_getElem.1 h
  rw [List.getD_eq_getElem?_getD, List.getD_eq_getElem?_getD, List.getElem?_eq_getElem hj, List.getElem?_eq_getElem hi] at e
  rcases Nat.lt_or_gt_of_ne hne with k | k
  · exact hp j i hj hi k e
  · exact hp i j hi hj k e.symm
/-- The polynomial through column p's K bytes. -/
def PV (W : List Nat) (K L p z : Nat) : Nat := fy (col (dat W L) K p) (List.range K) z K
set_option linter.unusedSectionVars false
section
variable {W V : List Nat} {K L : Nat} (hK : 1 ≤ K ∧ K ≤ 8) (hW : W.length = K * L) (hb : ∀ c ∈ W, c < 256)
include hK hb
theorem range_b8 : B8 (List.range K) := fun c hc => by have := List.mem_range.1 hc; omega
theorem pv_pf (p : Nat) : PF K (PV W K L p) := by
  have h := fy_pf (range_b8 hK hb) (ys := col (dat W L) K p) (col_lt (fun t ht => dat_lt hb t ht) p) K (by rw [List.length_range]; exact Nat.le_refl _)
  rw [List.length_range] at h
  exact h
include hW
theorem row_len (i : Nat) : (row W K L i).length = L := by
  unfold row
  split
  · rename_i h
    exact dat_len hW i h
  · rw [List.length_map, List.length_range]
theorem row_getD {i p : Nat} (hp : p < L) : (row W K L i).getD p 0 = PV W K L p i := by
  unfold row
  by_cases h : i < K
  · rw [if_pos h]
    have h1 := fy_at (range_b8 hK hb) range_ne (ys := col (dat W L) K p) (col_lt (fun t ht => dat_lt hb t ht) p) (k := i) (by rw [List.length_range]; exact h) K (by rw [List.length_range]; exact Nat.le_refl _)
    have e1 : (List.range K).getD i 0 = i := by rw [List.getD_eq_getElem?_getD, List.getElem?_range h]; rfl
    rw [e1, if_pos h] at h1
    unfold PV
    rw [h1]
    exact (map_at (fun t => (dat W L t).getD p 0) 0 h).symm
  · rw [if_neg h]
    exact map_at (fun p => fy (col (dat W L) K p) (List.range K) i K) 0 hp
theorem row_lt (i : Nat) (hi : i < 256) : ∀ c ∈ row W K L i, c < 256 := by
  intro c hc
  obtain ⟨p, hp, rfl⟩ := List.mem_iff_getElem.1 hc
  rw [row_len hK hW hb] at hp
  have h := row_getD hK hW hb (i := i) hp
  rw [List.getD_eq_getElem?_getD, List.getElem?_eq_getElem (by rw [row_len hK hW hb]; exact hp)] at h
  rw [show (row W K L i)[p] = PV W K L p i from h]
  exact (pv_pf hK hb p).lt hi
/-- From K rows at places apart each row is told. -/
theorem dec_row {xs : List Nat} (hl : xs.length = K) (hx : B8 xs) (hn : xs.Nodup) {Q : Nat → List Nat} (hQ : ∀ t, t < K → Q t = row W K L (xs.getD t 0)) {z : Nat} (hz : z < 256) :
    ((List.range L).map fun p => fy (col Q K p) xs z K) = row W K L z := by
  refine ext_getD (by rw [List.length_map, List.length_range, row_len hK hW hb]) fun p hp => ?_
  rw [List.length_map, List.length_range] at hp
  rw [row_getD hK hW hb hp]
  refine (map_at (fun p => fy (col Q K p) xs z K) 0 hp).trans ?_
  have hcol : B8 (col Q K p) := col_lt (fun t ht c hc => by
    rw [hQ t ht] at hc
    exact row_lt hK hW hb _ (getD_lt hx (by decide) t) c hc) p
  have hpf := fy_pf hx hcol K (by omega)
  rw [hl] at hpf
  refine PF.same hpf (pv_pf hK hb p) hl hx hn (fun a ha => ?_) hz
  obtain ⟨t, ht, rfl⟩ := List.mem_iff_getElem.1 ha
  have e : xs[t] = xs.getD t 0 := by rw [List.getD_eq_getElem?_getD, List.getElem?_eq_getElem ht]; rfl
  rw [e, fy_at hx (nodup_ne hn) hcol ht K (by omega), if_pos (by omega), ← row_getD hK hW hb hp]
  show ((List.range K).map fun t => (Q t).getD p 0).getD t 0 = _
  rw [map_at (fun t => (Q t).getD p 0) 0 (by omega), hQ t (by omega)]
/-- Rows of two texts that are the same at K places apart are the same. -/
theorem rows_same (hV : V.length = K * L) (hbV : ∀ c ∈ V, c < 256) {xs : List Nat} (hl : xs.length = K) (hx : B8 xs) (hn : xs.Nodup) (h : ∀ a ∈ xs, row W K L a = row V K L a) {z : Nat} (hz : z < 256) : row W K L z = row V K L z := by
  refine ext_getD (by rw [row_len hK hW hb, row_len hK hV hbV]) fun p hp => ?_
  rw [row_len hK hW hb] at hp
  rw [row_getD hK hW hb hp, row_getD hK hV hbV hp]
  refine PF.same (pv_pf hK hb p) (pv_pf hK hbV p) hl hx hn (fun a ha => ?_) hz
  rw [← row_getD hK hW hb hp, ← row_getD hK hV hbV hp, h a ha]
end
theorem mem_I {l : List Nat} {i : Nat} : ((i : Int) ∈ I l) ↔ i ∈ l := by
  unfold I
  rw [List.mem_map]
  exact ⟨fun ⟨a, h, e⟩ => by rw [← Int.ofNat.inj e]; exact h, fun h => ⟨i, h, rfl⟩⟩
theorem okAt_yes (n : Nat) : ∀ (l p : List Nat), (p ++ l).Nodup → (∀ x ∈ l, x < n) → okAt (n : Int) (I p) (I l) = true
  | [], _, _, _ => rfl
  | x :: l, p, h, hb => by
    show (if 0 ≤ (x : Int) ∧ (x : Int) ≤ (n : Int) - 1 then (if (x : Int) ∈ I p then false else okAt (n : Int) (I p ++ [(x : Int)]) (I l)) else false) = true
    have hx := hb x List.mem_cons_self
    have hn : x ∉ p := fun k => (List.nodup_append.1 h).2.2 x k x List.mem_cons_self rfl
    rw [if_pos (by omega), if_neg (fun k => hn (mem_I.1 k)), I_snoc]
    exact okAt_yes n l (p ++ [x]) (by rw [List.append_assoc]; exact h) fun y hy => hb y (List.mem_cons_of_mem _ hy)
/-- The places that are kept. -/
def kept (n : Nat) (l : List Nat) : List Nat := (List.range n).filter fun t => decide (t ∉ l)
theorem kept_nodup (n : Nat) (l : List Nat) : (kept n l).Nodup := List.nodup_range.filter _
theorem kept_mem {n : Nat} {l : List Nat} {t : Nat} : t ∈ kept n l ↔ t < n ∧ t ∉ l := by
  unfold kept
  rw [List.mem_filter, List.mem_range, decide_eq_true_eq]
/-- Leaving out few leaves many. -/
theorem filter_len (l : List Nat) : ∀ A : List Nat, A.Nodup → A.length ≤ (A.filter fun t => decide (t ∉ l)).length + l.length := by
  induction l with
  | nil =>
    intro A _
    rw [List.filter_eq_self.2 (fun a _ => by simp)]
    exact Nat.le_refl _
  | cons x l ih =>
    intro A hA
    have h1 := ih A hA
    have h2 : (A.filter fun t => decide (t ∉ l)).length ≤ (A.filter fun t => decide (t ∉ x :: l)).length + 1 := by
      have e : (A.filter fun t => decide (t ∉ x :: l)) = (A.filter fun t => decide (t ∉ l)).filter fun t => decide (t ≠ x) := by
        rw [List.filter_filter]
        refine List.filter_congr fun t _ => ?_
        simp [List.mem_cons, not_or]
      rw [e]
      generalize hB : (A.filter fun t => decide (t ∉ l)) = B
      have hBn : B.Nodup := by rw [← hB]; exact hA.filter _
      clear hB e h1
      induction B with
      | nil => exact Nat.zero_le _
      | cons y B ihB =>
        have hy := List.nodup_cons.1 hBn
        by_cases hxy : y = x
        · subst hxy
          rw [List.filter_cons_of_neg (by simp), List.filter_eq_self.2 (fun a ha => by simp; exact fun e => hy.1 (e ▸ ha))]
          exact Nat.le_refl _
        · rw [List.filter_cons_of_pos (by simp [hxy]), List.length_cons, List.length_cons]
          have := ihB hy.2
          omega
    rw [List.length_cons]
    omega
theorem kept_len (n : Nat) (l : List Nat) : n ≤ (kept n l).length + l.length := by
  have := filter_len l (List.range n) List.nodup_range
  rw [List.length_range] at this
  exact this
theorem keep_ev (n : Nat) (hn : n ≤ 900) (l : List Nat) (hl : l.length ≤ 900) (R : Nat → List Nat) (m : Nat) : ∀ (i : Nat) (q : List Nat), i + m = n →
    Ev (fun k => keepN k (I l) (I (List.range n)) (RR R n) m i (I q) (q.map fun t => I (R t))) (I (q ++ (List.range' i m).filter fun t => decide (t ∉ l)), (q ++ (List.range' i m).filter fun t => decide (t ∉ l)).map fun t => I (R t)) := by
  induction m with
  | zero =>
    intro i q hi
    refine ev_ret ?_
    simp
  | succ m ih =>
    intro i q hi
    unfold keepN
    refine ev_bind (contains_eq (I l) (i : Int) (by rw [I_length]; omega)) ?_
    rw [List.range'_succ]
    by_cases h : i ∈ l
    · rw [List.filter_cons_of_neg (by simpa using h)]
      exact ev_pos (decide_eq_true (mem_I.2 h)) (ih (i + 1) q (by omega))
    · rw [List.filter_cons_of_pos (by simpa using h)]
      refine ev_neg (by simpa using fun k => h (mem_I.1 k)) (ev_pos (by rw [RR_length]; omega) ?_)
      have e1 : (I (List.range n)).getD i 0 = (i : Int) := by
        rw [← rd_nat, rd_I, List.getD_eq_getElem?_getD, List.getElem?_range (by omega)]
        rfl
      have e2 : (RR R n).getD i [] = I (R i) := map_at (fun t => I (R t)) [] (by omega)
      rw [e1, e2, I_snoc]
      have := ih (i + 1) (q ++ [i]) (by omega)
      rw [List.append_assoc, List.map_append] at this
      exact this
theorem map_RR (R : Nat → List Nat) (q : List Nat) : (q.map fun t => I (R t)) = RR (fun t => R (q.getD t 0)) q.length := by
  unfold RR
  refine List.ext_getElem (by simp) fun j h1 h2 => ?_
  rw [List.length_map] at h1
  simp only [List.getElem_map, List.getElem_range]
  rw [List.getD_eq_getElem?_getD, List.getElem?_eq_getElem h1]
  rfl
/-- Whether the kept rows are those of a text. -/
theorem chk_all (D R : Nat → List Nat) (n : Nat) : ∀ (q : List Nat) (j : Nat), (∀ t ∈ q, t < n ∧ D t = R t) → chk (RR D n) (I q) (q.map fun t => I (R t)) j = (-1, true)
  | [], _, _ => rfl
  | t :: q, j, h => by
    obtain ⟨h1, h2⟩ := h t List.mem_cons_self
    show (if same ((RR D n).getD (t : Int).toNat []) (I (R t)) = true then chk (RR D n) (I q) (q.map fun t => I (R t)) (j + 1) else ((j : Int), true)) = _
    rw [Int.toNat_natCast, show (RR D n).getD t [] = I (D t) from map_at (fun t => I (D t)) [] h1, h2, same_self, if_pos rfl]
    exact chk_all D R n q (j + 1) fun y hy => h y (List.mem_cons_of_mem _ hy)
theorem I_byte {m : List Nat} (h : ∀ c ∈ m, c < 256) : ∀ x ∈ I m, 0 ≤ x ∧ x < 256 := by
  intro x hx
  obtain ⟨c, hc, rfl⟩ := List.mem_map.1 hx
  have := h c hc
  omega
theorem chk_some (D R : Nat → List Nat) (n : Nat) : ∀ (q : List Nat) (j : Nat), (∀ t ∈ q, t < n ∧ (∀ c ∈ D t, c < 256) ∧ ∀ c ∈ R t, c < 256) → (∃ t ∈ q, D t ≠ R t) → ∃ i : Nat, chk (RR D n) (I q) (q.map fun t => I (R t)) j = ((i : Int), true)
  | [], _, _, ⟨t, ht, _⟩ => by cases ht
  | t :: q, j, h, ⟨a, ha, hne⟩ => by
    obtain ⟨h1, h2, h3⟩ := h t List.mem_cons_self
    show ∃ i : Nat, (if same ((RR D n).getD (t : Int).toNat []) (I (R t)) = true then chk (RR D n) (I q) (q.map fun t => I (R t)) (j + 1) else ((j : Int), true)) = _
    rw [Int.toNat_natCast, show (RR D n).getD t [] = I (D t) from map_at (fun t => I (D t)) [] h1]
    by_cases e : same (I (D t)) (I (R t)) = true
    · rw [if_pos e]
      have e2 : D t = R t := I_inj (same_imp _ _ (I_byte h2) (I_byte h3) e)
      refine chk_some D R n q (j + 1) (fun y hy => h y (List.mem_cons_of_mem _ hy)) ?_
      rcases List.mem_cons.1 ha with rfl | ha
      · exact absurd e2 hne
      · exact ⟨a, ha, hne⟩
    · rw [if_neg e]
      exact ⟨j, rfl⟩
theorem dat_flat (W : List Nat) (L : Nat) : ∀ i : Nat, ((List.range i).flatMap fun t => dat W L t) = W.take (i * L)
  | 0 => by simp
  | i + 1 => by
    rw [List.range_succ, List.flatMap_append, dat_flat W L i, Nat.succ_mul, List.take_add]
    simp [dat]
theorem flat_len {α : Type} (B : Nat → List α) (L : Nat) (hB : ∀ i, (B i).length = L) : ∀ i : Nat, ((List.range i).flatMap B).length = i * L
  | 0 => by simp
  | i + 1 => by
    rw [List.range_succ, List.flatMap_append, List.length_append, flat_len B L hB i, Nat.succ_mul]
    simp [hB]
theorem take_at {α : Type} (q : List α) (d : α) {K t : Nat} (h : t < K) : (q.take K).getD t d = q.getD t d := by
  rw [List.getD_eq_getElem?_getD, List.getElem?_take_of_lt h, ← List.getD_eq_getElem?_getD]
theorem decode_ev {K L s : Nat} (hK : 1 ≤ K ∧ K ≤ 8) (hL : L ≤ 127) (hs : s ≤ K * L) {q : List Nat} (hq : K ≤ q.length) (hqb : ∀ c ∈ q, c < 256) (Q : Nat → List Nat) (hQl : ∀ t, t < K → (Q t).length = L) (hQb : ∀ t, t < K → ∀ c ∈ Q t, c < 256) :
    Ev (fun k => impl_decode.f k (K : Int) (s : Int) (I q) (RR Q q.length)) (I (((List.range K).flatMap fun i => (List.range L).map fun p => fy (col Q K p) (q.take K) i K).take s)) := by
  have hxl : (q.take K).length = K := by rw [List.length_take]; omega
  have hxb : ∀ c ∈ q.take K, c < 256 := fun c hc => hqb c (List.mem_of_mem_take hc)
  have hfl := flat_len (fun i => (List.range L).map fun p => fy (col Q K p) (q.take K) i K) L (fun i => by rw [List.length_map, List.length_range])
  have hKL : K * L ≤ 8 * 127 := Nat.mul_le_mul hK.2 hL
  have l1 : ∀ (d i : Nat), i + d = K → Ev (fun k => impl_decode.l1 k (K : Int) (s : Int) (RR Q q.length) (I (q.take K)) (I ((List.range i).flatMap fun i => (List.range L).map fun p => fy (col Q K p) (q.take K) i K)) (K : Int) (i : Int)) (I (((List.range K).flatMap fun i => (List.range L).map fun p => fy (col Q K p) (q.take K) i K).take s)) := by
    intro d
    induction d with
    | zero =>
      intro i hi
      obtain rfl : i = K := by omega
      refine Ev.step (fun k => impl_decode.l1.eq_2 ..) (ev_neg (by omega) (ev_pos (by omega) (ev_pos (by rw [I_length, hfl]; omega) (ev_ret ?_))))
      rw [Int.toNat_natCast, I_take]
    | succ d ih =>
      intro i hi
      have hbp := impl_bp Q K L (xs := q.take K) (z := i) hK hL hQl hQb hxb hxl (by omega)
      have hil : i * L ≤ K * L := Nat.mul_le_mul_right L (by omega)
      refine Ev.step (fun k => impl_decode.l1.eq_2 ..) (ev_pos (by omega) (ev_pos (by omega) (ev_pos (by rw [RR_length]; omega) ?_)))
      rw [Int.toNat_natCast, RR_take Q Q hq (fun _ _ => rfl), show ((i : Int) % 256) = (i : Int) by omega]
      refine ev_bind hbp (ev_pos (by rw [I_length, I_length, hfl, List.length_map, List.length_range]; omega) ?_)
      have h := ih (i + 1) (by omega)
      rw [List.range_succ, List.flatMap_append, List.flatMap_singleton, I_append, ← wr_succ (by omega)] at h
      exact h
  have l0 : ∀ (d i : Nat), i + d = K → Ev (fun k => impl_decode.l0 k (K : Int) (s : Int) (RR Q q.length) (I (q.take i)) [] (I (q.take K)) (K : Int) (i : Int)) (I (((List.range K).flatMap fun i => (List.range L).map fun p => fy (col Q K p) (q.take K) i K).take s)) := by
    intro d
    induction d with
    | zero =>
      intro i hi
      obtain rfl : i = K := by omega
      exact Ev.step (fun k => impl_decode.l0.eq_2 ..) (ev_neg (by omega) (l1 i 0 (by omega)))
    | succ d ih =>
      intro i hi
      have h := ih (i + 1) (by omega)
      have h8 := getD_lt hqb (by decide : 0 < 256) i
      rw [← take_getD q 0 i (by omega), ← I_snoc, ← wr_succ (by omega)] at h
      refine Ev.step (fun k => impl_decode.l0.eq_2 ..) (ev_pos (by omega) (ev_pos (by omega) (ev_pos (by rw [I_length, hxl]; omega) (ev_pos (by rw [I_length, List.length_take]; omega) ?_))))
      rw [rd_I, take_at q 0 (by omega : i < K), show (((q.getD i 0 : Nat) : Int) % 256) = ((q.getD i 0 : Nat) : Int) by omega]
      exact h
  unfold impl_decode.f
  refine ev_pos (by omega) (ev_pos (by rw [I_length]; omega) ?_)
  rw [Int.toNat_natCast, I_take, I_length, hxl]
  exact l0 K 0 (by omega)
/-- The whole of a text, its zeros behind it. -/
def whole (K : Nat) (m : List Nat) : List Nat := m ++ List.replicate (K * lgN K m.length - m.length) 0
theorem try_ev {K n : Nat} {m : List Nat} (hK : 1 ≤ K ∧ K ≤ 8) (hn : K ≤ n ∧ n ≤ 8) (hm : ∀ c ∈ m, c < 256) (hs : m.length ≤ 120) (R : Nat → List Nat) (hR : ∀ t, t < n → (R t).length = lgN K m.length ∧ ∀ c ∈ R t, c < 256)
    {lz l : List Nat} (hz : ∀ t ∈ lz, t < n) (htrue : ∀ t, t < n → t ∉ lz → R t = row (whole K m) K (lgN K m.length) t) (hlie : ∀ t ∈ lz, R t ≠ row (whole K m) K (lgN K m.length) t) (hl : l.length + lz.length + K ≤ n) :
    Ev (fun k => tryF k (K : Int) (n : Int) (m.length : Int) (I (List.range n)) (RR R n) (I l)) (if ∀ t ∈ lz, t ∈ l then some (I m) else none) := by
  have hlg := lgN_le hK hs
  obtain ⟨L, hLe⟩ : ∃ L, L = lgN K m.length := ⟨_, rfl⟩
  rw [← hLe] at hlg hR htrue hlie
  have hW := whole_ok hK hs hm
  have hWl : (whole K m).length = K * L := by rw [hLe]; exact hW.1
  have hWb : ∀ c ∈ whole K m, c < 256 := hW.2
  obtain ⟨q, hq⟩ : ∃ q, q = kept n l := ⟨_, rfl⟩
  have hqn : q.Nodup := by rw [hq]; exact kept_nodup n l
  have hqm : ∀ t, t ∈ q ↔ t < n ∧ t ∉ l := fun t => by rw [hq]; exact kept_mem
  have hqK : K ≤ q.length := by have := kept_len n l; rw [← hq] at this; omega
  have hqb : ∀ c ∈ q, c < 256 := fun c hc => by have := ((hqm c).1 hc).1; omega
  have hqat : ∀ t, t < q.length → q.getD t 0 ∈ q := fun t ht => by rw [List.getD_eq_getElem?_getD, List.getElem?_eq_getElem ht]; exact List.getElem_mem ht
  have hql : q.length ≤ n := by
    rw [hq]
    unfold kept
    have := List.length_filter_le (fun t => decide (t ∉ l)) (List.range n)
    rw [List.length_range] at this
    exact this
  have hnum : numsOk (K : Int) (n : Int) m.length := ⟨by omega, by omega, by omega, hs⟩
  have hok : okAt (n : Int) [] (I q) = true := okAt_yes n q [] hqn (fun x hx => ((hqm x).1 hx).1)
  have hkeep : Ev (fun k => keepN k (I l) (I (List.range n)) (RR R n) n 0 [] []) (I q, q.map fun t => I (R t)) := by
    have h := keep_ev n (by omega) l (by omega) R n 0 [] (by omega)
    rw [List.nil_append, ← List.range_eq_range'] at h
    rw [hq]
    exact h
  obtain ⟨D, hD⟩ : ∃ D, D = ((List.range K).flatMap fun i => (List.range L).map fun p => fy (col (fun t => R (q.getD t 0)) K p) (q.take K) i K).take m.length := ⟨_, rfl⟩
  have hDl : D.length = m.length := by
    rw [hD, List.length_take, flat_len _ L (fun i => by rw [List.length_map, List.length_range])]
    omega
  have hDb : ∀ c ∈ D, c < 256 := by
    intro c hc
    rw [hD] at hc
    obtain ⟨i, _, h2⟩ := List.mem_flatMap.1 (List.mem_of_mem_take hc)
    obtain ⟨p, _, rfl⟩ := List.mem_map.1 h2
    exact fy_lt (col_lt (fun t ht => (hR _ ((hqm _).1 (hqat t (by omega))).1).2) p) _ _ _
  have hdec : Ev (fun k => impl_Decode.f k (K : Int) (n : Int) (m.length : Int) (I q) (q.map fun t => I (R t))) (I D, true) := by
    unfold impl_Decode.f
    have h1 : Ev (fun k => impl_shardsOk.f k (K : Int) (n : Int) (m.length : Int) (I q) (q.map fun t => I (R t))) true := by
      unfold impl_shardsOk.f
      have h2 := impl_un (n : Int) (by omega) (I q) (by rw [I_length]; omega)
      rw [hok] at h2
      refine ev_pure (impl_nums (K : Int) (n : Int) m.length) (ev_pos (decide_eq_true hnum) (ev_bind h2 (ev_pos rfl (ev_pos (by rw [I_length, List.length_map]) (ev_pure (a := true) ?_ (ev_ret rfl))))))
      unfold impl_in.f
      rw [I_length, if_pos (by omega), decide_eq_true (by omega)]
    refine ev_bind h1 (ev_pos rfl (ev_pure (impl_long hK hs) (ev_pos ?_ ?_)))
    · rw [List.all_eq_true]
      intro x hx
      obtain ⟨t, ht, rfl⟩ := List.mem_map.1 hx
      rw [I_length, (hR t ((hqm t).1 ht).1).1, ← hLe]
      simp
    · rw [map_RR]
      have h3 := decode_ev (L := L) (s := m.length) hK hlg.1 hlg.2.1 hqK hqb (fun t => R (q.getD t 0)) (fun t ht => (hR _ ((hqm _).1 (hqat t (by omega))).1).1) (fun t ht => (hR _ ((hqm _).1 (hqat t (by omega))).1).2)
      rw [← hD] at h3
      exact ev_bind h3 (ev_ret rfl)
  have hre := impl_recheck (K : Int) (n : Int) hDb (I q) (by rw [I_length]; omega) (q.map fun t => I (R t))
  have hrv : recheck (K : Int) (n : Int) D (I q) (q.map fun t => I (R t)) = chk (RR (row (whole K D) K L) n) (I q) (q.map fun t => I (R t)) 0 := by
    unfold recheck encoded
    rw [hDl, if_pos ⟨hnum, by rw [I_length, List.length_map], hok⟩, if_pos hnum]
    rw [Int.toNat_natCast, Int.toNat_natCast, hLe]
    unfold whole
    rw [hDl]
  rw [hrv] at hre
  unfold tryF
  rw [I_length, List.length_range]
  refine ev_bind hkeep (ev_bind hdec (ev_bind hre (ev_ret ?_)))
  dsimp only
  by_cases hsub : ∀ t ∈ lz, t ∈ l
  · rw [if_pos hsub]
    have hrow : ∀ t ∈ q, R t = row (whole K m) K L t := fun t ht => htrue t ((hqm t).1 ht).1 (fun h => ((hqm t).1 ht).2 (hsub t h))
    have hDm : D = m := by
      rw [hD]
      have e : ((List.range K).flatMap fun i => (List.range L).map fun p => fy (col (fun t => R (q.getD t 0)) K p) (q.take K) i K) = (List.range K).flatMap fun t => dat (whole K m) L t := by
        rw [List.flatMap_def, List.flatMap_def]
        refine congrArg List.flatten (List.map_congr_left fun i hi => ?_)
        have hi := List.mem_range.1 hi
        rw [dec_row hK hWl hWb (xs := q.take K) (by rw [List.length_take]; omega) (fun c hc => hqb c (List.mem_of_mem_take hc)) (hqn.sublist (List.take_sublist _ _)) (Q := fun t => R (q.getD t 0)) (fun t ht => by
          rw [take_at q 0 ht]
          exact hrow _ (hqat t (by omega))) (by omega), row_dat _ _ _ i hi]
      rw [e, dat_flat, show (whole K m).take (K * L) = whole K m from List.take_of_length_le (by omega)]
      unfold whole
      rw [List.take_left]
    rw [hDm, chk_all _ _ n q 0 (fun t ht => ⟨((hqm t).1 ht).1, (hrow t ht).symm⟩)]
    rfl
  · rw [if_neg hsub]
    obtain ⟨j, hj, hjl⟩ : ∃ j ∈ lz, j ∉ l := by
      apply Classical.byContradiction
      intro h
      exact hsub fun t ht => Classical.byContradiction fun h2 => h ⟨t, ht, h2⟩
    have hV := whole_ok hK (by rw [hDl]; exact hs) hDb
    have hVl : (whole K D).length = K * L := by rw [hLe, ← hDl]; exact hV.1
    have hVb : ∀ c ∈ whole K D, c < 256 := hV.2
    obtain ⟨i, hi⟩ := chk_some (row (whole K D) K L) R n q 0 (fun t ht => ⟨((hqm t).1 ht).1, row_lt hK hVl hVb t (hqb t ht), (hR t ((hqm t).1 ht).1).2⟩) (by
      apply Classical.byContradiction
      intro hno
      have hall : ∀ t ∈ q, row (whole K D) K L t = R t := fun t ht => Classical.byContradiction fun h2 => hno ⟨t, ht, h2⟩
      have hlen := filter_len lz q hqn
      have hlen2 := kept_len n l
      rw [← hq] at hlen2
      have hsame := rows_same hK hWl hWb hVl hVb (xs := (q.filter fun t => decide (t ∉ lz)).take K) (by rw [List.length_take]; omega) (fun c hc => hqb c (List.mem_filter.1 (List.mem_of_mem_take hc)).1) ((hqn.filter _).sublist (List.take_sublist _ _)) (fun a ha => by
        obtain ⟨h1, h2⟩ := List.mem_filter.1 (List.mem_of_mem_take ha)
        rw [hall a h1]
        exact (htrue a ((hqm a).1 h1).1 (by simpa using h2)).symm) (z := j) (by have := hz j hj; omega)
      have hjq : j ∈ q := (hqm j).2 ⟨hz j hj, hjl⟩
      exact hlie j hj (by rw [← hall j hjq, hsame]))
    rw [hi]
    exact if_neg (fun h => h.2.2 (Int.natCast_nonneg i))
theorem combos_of : ∀ (c m x : Nat) (ls : List Int), ls ∈ combos c m x → ∃ l : List Nat, ls = I l ∧ l.length = m ∧ l.Pairwise (· < ·) ∧ ∀ y ∈ l, x ≤ y ∧ y < x + c
  | c, 0, x, ls, h => by
    have e : combos c 0 x = [[]] := by cases c <;> rfl
    rw [e, List.mem_singleton] at h
    exact ⟨[], h, rfl, List.Pairwise.nil, fun y hy => by cases hy⟩
  | 0, m + 1, x, ls, h => by cases h
  | c + 1, m + 1, x, ls, h => by
    unfold combos at h
    rcases List.mem_append.1 h with h | h
    · obtain ⟨l2, h2, rfl⟩ := List.mem_map.1 h
      obtain ⟨l, rfl, h3, h4, h5⟩ := combos_of c m (x + 1) l2 h2
      refine ⟨x :: l, rfl, by rw [List.length_cons, h3], List.pairwise_cons.2 ⟨fun y hy => by have := (h5 y hy).1; omega, h4⟩, fun y hy => ?_⟩
      rcases List.mem_cons.1 hy with rfl | hy
      · omega
      · have := h5 y hy
        omega
    · obtain ⟨l, rfl, h3, h4, h5⟩ := combos_of c (m + 1) (x + 1) ls h
      exact ⟨l, rfl, h3, h4, fun y hy => by have := h5 y hy; omega⟩
theorem combos_has : ∀ (c m x : Nat) (l : List Nat), l.length = m → l.Pairwise (· < ·) → (∀ y ∈ l, x ≤ y ∧ y < x + c) → I l ∈ combos c m x
  | c, 0, x, l, h, _, _ => by
    have e : combos c 0 x = [[]] := by cases c <;> rfl
    rw [List.eq_nil_of_length_eq_zero h, e]
    exact List.mem_singleton.2 rfl
  | 0, m + 1, x, [], h, _, _ => by simp at h
  | 0, m + 1, x, y :: l, _, _, hb => by have := hb y List.mem_cons_self; omega
  | c + 1, m + 1, x, [], h, _, _ => by simp at h
  | c + 1, m + 1, x, y :: l, h, hp, hb => by
    obtain ⟨h1, h2⟩ := List.pairwise_cons.1 hp
    unfold combos
    by_cases e : y = x
    · subst e
      exact List.mem_append.2 (.inl (List.mem_map.2 ⟨I l, combos_has c m (y + 1) l (by simpa using h) h2 (fun z hz => by have := h1 z hz; have := hb z (List.mem_cons_of_mem _ hz); omega), rfl⟩))
    · refine List.mem_append.2 (.inr (combos_has c (m + 1) (x + 1) (y :: l) h hp fun z hz => ?_))
      have h3 := hb y List.mem_cons_self
      have h4 := hb z hz
      rcases List.mem_cons.1 hz with rfl | hz
      · omega
      · have := h1 z hz
        omega
theorem sub_len : ∀ (b a : List Nat), a.Pairwise (· < ·) → b.Pairwise (· < ·) → (∀ t ∈ a, t ∈ b) → a.length ≤ b.length
  | [], a, _, _, h => by
    cases a with
    | nil => exact Nat.le_refl _
    | cons x a => exact absurd (h x List.mem_cons_self) (by simp)
  | y :: b, [], _, _, _ => Nat.zero_le _
  | y :: b, x :: a, ha, hb, h => by
    obtain ⟨a1, a2⟩ := List.pairwise_cons.1 ha
    obtain ⟨b1, b2⟩ := List.pairwise_cons.1 hb
    by_cases e : x = y
    · subst e
      have := sub_len b a a2 b2 fun t ht => (List.mem_cons.1 (h t (List.mem_cons_of_mem _ ht))).resolve_left (fun k => by have := a1 t ht; omega)
      rw [List.length_cons, List.length_cons]
      omega
    · have hx : x ∈ b := (List.mem_cons.1 (h x List.mem_cons_self)).resolve_left e
      have := sub_len b (x :: a) ha b2 fun t ht => (List.mem_cons.1 (h t ht)).resolve_left (fun k => by
        have hxy := b1 x hx
        rcases List.mem_cons.1 ht with rfl | ht
        · exact e k
        · have := a1 t ht
          omega)
      simp only [List.length_cons] at this ⊢
      omega
theorem sorted_eq : ∀ (a b : List Nat), a.Pairwise (· < ·) → b.Pairwise (· < ·) → (∀ t ∈ a, t ∈ b) → b.length ≤ a.length → b = a
  | [], b, _, _, _, h => List.eq_nil_of_length_eq_zero (by simpa using h)
  | x :: a, [], _, _, h, _ => absurd (h x List.mem_cons_self) (by simp)
  | x :: a, y :: b, ha, hb, h, hl => by
    obtain ⟨a1, a2⟩ := List.pairwise_cons.1 ha
    obtain ⟨b1, b2⟩ := List.pairwise_cons.1 hb
    rw [List.length_cons, List.length_cons] at hl
    by_cases e : x = y
    · subst e
      rw [sorted_eq a b a2 b2 (fun t ht => (List.mem_cons.1 (h t (List.mem_cons_of_mem _ ht))).resolve_left (fun k => by have := a1 t ht; omega)) (by omega)]
    · have hx : x ∈ b := (List.mem_cons.1 (h x List.mem_cons_self)).resolve_left e
      have := sub_len b (x :: a) ha b2 fun t ht => (List.mem_cons.1 (h t ht)).resolve_left (fun k => by
        have hxy := b1 x hx
        rcases List.mem_cons.1 ht with rfl | ht
        · exact e k
        · have := a1 t ht
          omega)
      rw [List.length_cons] at this
      omega
theorem first_ev {T : Nat → List Int → Option (Option (List Int))} (good f : List Int) : ∀ cs : List (List Int), (∀ c ∈ cs, Ev (fun k => T k c) (if c = good then some f else none)) → Ev (fun k => firstF (T k) cs) (if good ∈ cs then some (f, good) else none)
  | [], _ => by
    rw [if_neg (by simp)]
    exact ev_ret rfl
  | c :: cs, h => by
    have h1 := h c List.mem_cons_self
    have h2 := first_ev good f cs fun x hx => h x (List.mem_cons_of_mem _ hx)
    unfold firstF
    refine ev_bind h1 ?_
    by_cases e : c = good
    · subst e
      rw [if_pos rfl, if_pos List.mem_cons_self]
      exact ev_ret rfl
    · rw [if_neg e]
      have e2 : (good ∈ c :: cs) = (good ∈ cs) := propext ⟨fun k => (List.mem_cons.1 k).resolve_left (fun k => e k.symm), fun k => List.mem_cons_of_mem _ k⟩
      simp only [e2]
      exact h2
theorem loop_ev {T : Nat → List Int → Option (Option (List Int))} (good f : List Int) (n mz : Nat) (hcs : ∀ m, m ≤ mz → ∀ ls ∈ combos n m 0, Ev (fun k => T k ls) (if ls = good then some f else none)) (hg : good ∈ combos n mz 0) (hb : ∀ m, m < mz → good ∉ combos n m 0) (d : Nat) :
    ∀ c m : Nat, m + d = mz → d < c → Ev (fun k => loopF (T k) n c m) (some (f, good)) := by
  induction d with
  | zero =>
    intro c m hm hc
    obtain ⟨c, rfl⟩ : ∃ c', c = c' + 1 := ⟨c - 1, by omega⟩
    obtain rfl : m = mz := by omega
    have h := first_ev good f _ (hcs m (Nat.le_refl _))
    rw [if_pos hg] at h
    unfold loopF
    exact ev_bind h (ev_ret rfl)
  | succ d ih =>
    intro c m hm hc
    obtain ⟨c, rfl⟩ : ∃ c', c = c' + 1 := ⟨c - 1, by omega⟩
    have h := first_ev good f _ (hcs m (by omega))
    rw [if_neg (hb m (by omega))] at h
    unfold loopF
    exact ev_bind h (ih c (m + 1) (by omega) (by omega))
theorem outvote_ev {K n e : Nat} {m : List Nat} (hK : 1 ≤ K ∧ K ≤ 8) (hn : K + 2 * e ≤ n ∧ n ≤ 8) (he : e ≤ 3) (hm : ∀ c ∈ m, c < 256) (hs : m.length ≤ 120) (R : Nat → List Nat) (hR : ∀ t, t < n → (R t).length = lgN K m.length ∧ ∀ c ∈ R t, c < 256)
    {lz : List Nat} (hzp : lz.Pairwise (· < ·)) (hz : ∀ t ∈ lz, t < n) (hzl : lz.length ≤ e) (htrue : ∀ t, t < n → t ∉ lz → R t = row (whole K m) K (lgN K m.length) t) (hlie : ∀ t ∈ lz, R t ≠ row (whole K m) K (lgN K m.length) t) :
    Ev (fun k => impl_Outvote.f k (K : Int) (n : Int) (m.length : Int) (I (List.range n)) (RR R n) (e : Int)) (I m, I lz, true) := by
  have hnum : numsOk (K : Int) (n : Int) m.length := ⟨by omega, by omega, by omega, hs⟩
  have h1 : Ev (fun k => impl_shardsOk.f k (K : Int) (n : Int) (m.length : Int) (I (List.range n)) (RR R n)) true := by
    unfold impl_shardsOk.f
    have h2 := impl_un (n : Int) (by omega) (I (List.range n)) (by rw [I_length, List.length_range]; omega)
    rw [show okAt (n : Int) [] (I (List.range n)) = true from okAt_yes n (List.range n) [] List.nodup_range (fun x hx => List.mem_range.1 hx)] at h2
    refine ev_pure (impl_nums (K : Int) (n : Int) m.length) (ev_pos (decide_eq_true hnum) (ev_bind h2 (ev_pos rfl (ev_pos (by rw [I_length, List.length_range, RR_length]) (ev_pure (a := true) ?_ (ev_ret rfl))))))
    unfold impl_in.f
    rw [I_length, List.length_range, if_pos (by omega), decide_eq_true (by omega)]
  unfold impl_Outvote.f
  refine ev_bind h1 (ev_pos rfl (ev_pure (a := true) (by unfold impl_in.f; rw [if_pos (by omega), decide_eq_true (by omega)]) (ev_pos rfl (ev_pos ⟨by rw [I_length, List.length_range]; omega, by omega, by omega⟩ ?_))))
  rw [I_length, List.length_range, Int.toNat_natCast, Nat.min_eq_left (by omega : e ≤ n)]
  have hl := loop_ev (T := fun k => tryF k (K : Int) (n : Int) (m.length : Int) (I (List.range n)) (RR R n)) (I lz) (I m) n lz.length (fun m2 hm2 ls hls => by
      obtain ⟨l, rfl, l1, l2, l3⟩ := combos_of n m2 0 ls hls
      have h := try_ev hK ⟨by omega, hn.2⟩ hm hs R hR (l := l) hz htrue hlie (by omega)
      by_cases hsub : ∀ t ∈ lz, t ∈ l
      · rw [if_pos hsub] at h
        rw [if_pos (by rw [sorted_eq lz l hzp l2 hsub (by omega)])]
        exact h
      · rw [if_neg hsub] at h
        rw [if_neg (fun k => hsub (by rw [I_inj k]; exact fun t ht => ht))]
        exact h) (combos_has n lz.length 0 lz rfl hzp (fun y hy => by have := hz y hy; omega)) (fun m2 hm2 hmem => by
      obtain ⟨l, h1, h2, _⟩ := combos_of n m2 0 _ hmem
      have := congrArg List.length h1
      rw [I_length, I_length] at this
      omega) lz.length (e + 1) 0 (by omega) (by omega)
  exact ev_bind hl (ev_ret rfl)
theorem w1 {a : Nat} (h : a < 256) : wrap64 (1 + Int.tmod (a : Int) 3) = ((1 + a % 3 : Nat) : Int) := by rw [Int.tmod_eq_emod_of_nonneg (by omega), wr (by omega) (by omega)]; omega
theorem w2 {b : Nat} : Int.tmod (b : Int) 3 = ((b % 3 : Nat) : Int) := by rw [Int.tmod_eq_emod_of_nonneg (by omega)]; omega
theorem w3 {x y : Nat} (hx : x < 10) (hy : y < 10) : wrap64 ((x : Int) + wrap64 (2 * (y : Int))) = ((x + 2 * y : Nat) : Int) := by rw [wr (n := 2 * (y : Int)) (by omega) (by omega), wr (by omega) (by omega)]; omega
theorem w4 {b : Nat} (h : b < 256) : (wrap64 (1 + Int.tmod (b : Int) 255)) % 256 = ((1 + b % 255 : Nat) : Int) := by rw [Int.tmod_eq_emod_of_nonneg (by omega), wr (by omega) (by omega)]; omega
theorem w5 {i j : Nat} (h : i < 1000) (k : j < 1000) : wrap64 ((i : Int) + (j : Int)) = ((i + j : Nat) : Int) := by rw [wr (by omega) (by omega)]; omega
theorem w6 {a D : Nat} (h : a % 10 = D) : Int.tmod (a : Int) 10 = (D : Int) := by rw [Int.tmod_eq_emod_of_nonneg (by omega)]; omega
theorem w8 {b : Nat} (h : b < 256) : ((b : Int) % 256) = (b : Int) := by omega
theorem RR_set (R : Nat → List Nat) (n i : Nat) (r : List Nat) : (RR R n).set i (I r) = RR (fun t => if t = i then r else R t) n := by
  refine List.ext_getElem (by simp [RR]) fun j h1 h2 => ?_
  simp only [RR, List.getElem_set, List.getElem_map, List.getElem_range]
  by_cases h : i = j
  · rw [if_pos h, if_pos h.symm]
  · rw [if_neg h, if_neg (fun k => h k.symm)]
theorem out_l2 (z : List Nat) (hz : z.length ≤ 1000) (d : Nat) : ∀ i : Nat, i + d = z.length → Ev (fun k => laws_FnOutvoted.l2 k (I z) (I z) (i : Int)) true := by
  induction d with
  | zero =>
    intro i hi
    exact Ev.step (fun k => laws_FnOutvoted.l2.eq_2 ..) (ev_neg (by rw [I_length]; omega) (ev_ret rfl))
  | succ d ih =>
    intro i hi
    have h := ih (i + 1) (by omega)
    rw [← wr_succ (by omega)] at h
    exact Ev.step (fun k => laws_FnOutvoted.l2.eq_2 ..) (ev_pos (by rw [I_length]; omega) (ev_pos (by omega) (ev_pos (by rw [I_length]; omega) (ev_pos rfl h))))
theorem out_l1 {c : List Nat} (hc : ∀ x ∈ c, x < 256) (hcl : c.length ≤ 1048576) {K n e : Nat} {m : List Nat} (hK : 1 ≤ K ∧ K ≤ 8) (hn : K + 2 * e ≤ n ∧ n ≤ 8) (he : e ≤ 3) (hm : ∀ c ∈ m, c < 256) (hs : m.length ≤ 120) (d : Nat) : ∀ (i : Nat) (R : Nat → List Nat) (lz : List Nat), i + d = n →
    (∀ t, t < n → (R t).length = lgN K m.length ∧ ∀ c ∈ R t, c < 256) → lz.Pairwise (· < ·) → (∀ t ∈ lz, t < i) → lz.length ≤ e → (∀ t, t < n → t ∉ lz → R t = row (whole K m) K (lgN K m.length) t) → (∀ t ∈ lz, R t ≠ row (whole K m) K (lgN K m.length) t) →
    Ev (fun k => laws_FnOutvoted.l1 k (I c) (K : Int) (e : Int) (n : Int) (I m) (RR R n) (I (List.range i)) (I lz) (i : Int)) true := by
  induction d with
  | zero =>
    intro i R lz hi hR hp hz hzl ht hlie
    obtain rfl : i = n := by omega
    refine Ev.step (fun k => laws_FnOutvoted.l1.eq_2 ..) (ev_neg (by omega) ?_)
    have h := outvote_ev hK hn he hm hs R hR hp hz hzl ht hlie
    rw [← I_length m] at h
    refine ev_bind h (ev_pos rfl (ev_pos rfl (Ev.step (fun k => laws_FnOutvoted.j2.eq_2 ..) (ev_neg (by simp) (out_l2 lz (by omega) lz.length 0 (by omega))))))
  | succ d ih =>
    intro i R lz hi hR hp hz hzl ht hlie
    have hlg := lgN_le hK hs
    refine Ev.step (fun k => laws_FnOutvoted.l1.eq_2 ..) (ev_pos (by omega) (ev_pos (by rw [I_length, List.length_range]; omega) (ev_some ?_)))
    have e1 : I (List.range i) ++ [(i : Int)] = I (List.range (i + 1)) := by rw [I_snoc, List.range_succ]
    have skip := ih (i + 1) R lz (by omega) hR hp (fun t h => by have := hz t h; omega) hzl ht hlie
    rw [e1, show wrap64 ((i : Int) + 1) = ((i + 1 : Nat) : Int) from wr_succ (by omega)]
    clear e1
    by_cases hle : lz.length < e
    · obtain ⟨a, ha8, ha⟩ := at_ok hc hcl (i + 20) (by omega)
      refine ev_pos (by rw [I_length]; omega) (ev_pure (a := (a : Int)) (by rw [show wrap64 ((i : Int) + 20) = ((i + 20 : Nat) : Int) from w5 (j := 20) (by omega) (by decide)]; exact ha) ?_)
      by_cases hev : Int.tmod (a : Int) 2 = 0
      · obtain ⟨b, hb8, hb⟩ := at_ok hc hcl (i + 30) (by omega)
        have hi0 : i ∉ lz := fun h => by have := hz i h; omega
        have hRi := hR i (by omega)
        have h0 : (R i).getD 0 0 < 256 := getD_lt hRi.2 (by decide) 0
        refine ev_pos hev (ev_pos (by rw [I_length]; omega) (ev_some (ev_pos (by omega) (ev_pos (by rw [RR_length]; omega) (ev_pos ?_ (ev_some ?_))))))
        · rw [RR_at R (by omega : i < n), I_length, hRi.1]
          simp only [List.length_nil]
          omega
        · have eset : (RR R n).set (i : Int).toNat ([] ++ rd_L1 (RR R n) (i : Int)) = RR R n := by
            rw [List.nil_append, RR_at R (by omega : i < n), Int.toNat_natCast, RR_set]
            unfold RR
            refine List.map_congr_left fun t _ => ?_
            show I (if t = i then R i else R t) = I (R t)
            by_cases h : t = i
            · rw [if_pos h, h]
            · rw [if_neg h]
          rw [eset, RR_at R (by omega : i < n)]
          refine ev_pos (by rw [I_length, hRi.1]; omega) (ev_pure (a := (b : Int)) (by rw [show wrap64 ((i : Int) + 30) = ((i + 30 : Nat) : Int) from w5 (j := 30) (by omega) (by decide)]; exact hb) ?_)
          have er : rd (I (R i)) 0 = (((R i).getD 0 0 : Nat) : Int) := rd_I (R i) 0
          have es : (I (R i)).set (0 : Int).toNat ((((R i).getD 0 0 ^^^ (1 + b % 255) : Nat)) : Int) = I ((R i).set 0 ((R i).getD 0 0 ^^^ (1 + b % 255))) := by simp [I]
          rw [w4 hb8, er, xor8 h0 (by omega), es, Int.toNat_natCast, RR_set, I_snoc]
          clear er es eset
          have hx : ((R i).getD 0 0 ^^^ (1 + b % 255)) < 256 := Gf.xor_lt h0 (by omega)
          refine ih (i + 1) _ (lz ++ [i]) (by omega) (fun t ht2 => ?_) ?_ (fun t h => ?_) (by rw [List.length_append, List.length_singleton]; omega) (fun t ht2 hnt => ?_) (fun t h => ?_)
          · by_cases h : t = i
            · simp only [if_pos h]
              refine ⟨by rw [List.length_set]; exact hRi.1, fun c hc => ?_⟩
              rcases List.mem_or_eq_of_mem_set hc with h3 | h3
              · exact hRi.2 c h3
              · rw [h3]; exact hx
            · simp only [if_neg h]
              exact hR t ht2
          · exact List.pairwise_append.2 ⟨hp, List.pairwise_singleton _ _, fun a ha b hb => by rw [List.mem_singleton.1 hb]; exact hz a ha⟩
          · rcases List.mem_append.1 h with h | h
            · have := hz t h
              omega
            · rw [List.mem_singleton.1 h]
              omega
          · have h1 : t ∉ lz := fun k => hnt (List.mem_append.2 (.inl k))
            have h2 : t ≠ i := fun k => hnt (List.mem_append.2 (.inr (List.mem_singleton.2 k)))
            simp only [if_neg h2]
            exact ht t ht2 h1
          · by_cases h2 : t = i
            · subst h2
              show (if t = t then (R t).set 0 ((R t).getD 0 0 ^^^ (1 + b % 255)) else R t) ≠ _
              rw [if_pos rfl, ← ht t (by omega) hi0]
              intro hk
              have h3 : ((R t).set 0 ((R t).getD 0 0 ^^^ (1 + b % 255))).getD 0 0 = (R t).getD 0 0 := congrArg (fun l => l.getD 0 0) hk
              rw [List.getD_eq_getElem?_getD, List.getElem?_set_self (by rw [hRi.1]; omega)] at h3
              have h4 : ((R t).getD 0 0 ^^^ (1 + b % 255)) = (R t).getD 0 0 := h3
              have h5 : (R t).getD 0 0 ^^^ ((R t).getD 0 0 ^^^ (1 + b % 255)) = (R t).getD 0 0 ^^^ (R t).getD 0 0 := congrArg (fun z => (R t).getD 0 0 ^^^ z) h4
              rw [Gf.xor_cancel, Nat.xor_self] at h5
              omega
            · simp only [if_neg h2]
              exact hlie t ((List.mem_append.1 h).resolve_right (fun k => h2 (List.mem_singleton.1 k)))
      · exact ev_neg hev skip
    · exact ev_neg (by rw [I_length]; omega) skip
theorem out_l0 {c : List Nat} (hc : ∀ x ∈ c, x < 256) (hcl : c.length ≤ 1048576) {K n e D : Nat} (hK : 1 ≤ K ∧ K ≤ 8) (hn : K + 2 * e ≤ n ∧ n ≤ 8) (he : e ≤ 3) (hD : D ≤ 9) (hat : ∃ a : Nat, laws_at.f (I c) 2 = some (a : Int) ∧ a % 10 = D) (d : Nat) : ∀ (i : Nat) (m : List Nat), i + d = D → m.length = i → (∀ c ∈ m, c < 256) →
    Ev (fun k => laws_FnOutvoted.l0 k (I c) (K : Int) (e : Int) (n : Int) (I m) (i : Int)) true := by
  obtain ⟨a, ha, had⟩ := hat
  induction d with
  | zero =>
    intro i m hi hml hm
    refine Ev.step (fun k => laws_FnOutvoted.l0.eq_2 ..) (ev_pure ha ?_)
    rw [w6 had]
    have hs : m.length ≤ 120 := by omega
    have hnum : numsOk (K : Int) (n : Int) m.length := ⟨by omega, by omega, by omega, hs⟩
    have h := impl_encodeF (K : Int) (n : Int) hm
    have hen : encoded (K : Int) (n : Int) m = (RR (row (whole K m) K (lgN K m.length)) n, true) := by
      unfold encoded whole
      rw [if_pos hnum, Int.toNat_natCast, Int.toNat_natCast]
    rw [hen] at h
    have hW := whole_ok hK hs hm
    have h8 := lgN_le hK hs
    exact ev_neg (by omega) (ev_bind h (ev_pos rfl (out_l1 hc hcl hK hn he hm hs n 0 _ [] (by omega) (fun t ht => ⟨row_len hK hW.1 hW.2 t, row_lt hK hW.1 hW.2 t (by omega)⟩) List.Pairwise.nil (fun t ht => by cases ht) (Nat.zero_le _) (fun _ _ _ => rfl) (fun t ht => by cases ht))))
  | succ d ih =>
    intro i m hi hml hm
    obtain ⟨b, hb8, hb⟩ := at_ok hc hcl (i + 3) (by omega)
    refine Ev.step (fun k => laws_FnOutvoted.l0.eq_2 ..) (ev_pure ha ?_)
    rw [w6 had]
    refine ev_pos (by omega) (ev_pure (a := (b : Int)) (by rw [show wrap64 ((i : Int) + 3) = ((i + 3 : Nat) : Int) from w5 (j := 3) (by omega) (by decide)]; exact hb) (ev_pos (by rw [I_length]; omega) ?_))
    rw [w8 hb8, I_snoc, wr_succ (by omega)]
    exact ih (i + 1) (m ++ [b]) (by omega) (by rw [List.length_append, hml]; rfl) fun c hc => by
      rcases List.mem_append.1 hc with hc | hc
      · exact hm c hc
      · rw [List.mem_singleton.1 hc]; exact hb8
theorem FnOutvoted : laws_FnOutvoted.Pure := by
  intro l _ _ wb
  obtain ⟨c, rfl, hc⟩ := bytes_of wb
  refine Ev.rounds ?_
  unfold laws_FnOutvoted.f
  refine ev_pure (a := decide (((I c).length : Int) > 1048576)) rfl ?_
  by_cases h : ((I c).length : Int) > 1048576
  · exact ev_pos (by simp [h]) (ev_ret rfl)
  refine ev_neg (by simp only [decide_eq_true_eq]; exact h) ?_
  rw [I_length] at h
  obtain ⟨a, ha8, ha⟩ := at_ok hc (by omega) 0 (by decide)
  obtain ⟨b, hb8, hb⟩ := at_ok hc (by omega) 1 (by decide)
  obtain ⟨z, hz8, hz⟩ := at_ok hc (by omega) 2 (by decide)
  refine ev_pure ha (ev_pure hb ?_)
  rw [w1 ha8, w2, w3 (by omega) (by omega)]
  exact out_l0 hc (by omega) (D := z % 10) ⟨by omega, by omega⟩ ⟨Nat.le_refl _, by omega⟩ (by omega) (by omega) ⟨z, hz, rfl⟩ (z % 10) 0 [] (by omega) rfl (fun c hc => by cases hc)

end Go.Proofs.Ythaoloacbbohlaa.Pure
