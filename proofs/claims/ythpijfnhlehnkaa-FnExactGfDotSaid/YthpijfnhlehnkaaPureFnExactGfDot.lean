/- GfDot answers as the reference's GfDot, at every two lists of bytes (of at most 2^20 each). -/
import Derived.Test.YthpijfnhlehnkaaPFnExactGfDotx2
import Derived.Test.YthpijfnhlehnkaaKit
import Derived.Test.YthpijfnhlehnkaaGf
namespace Go.Proofs.Ythpijfnhlehnkaa.Pure
open Go.RowKit Go.Proofs.Ythpijfnhlehnkaa Go.Proofs.Ythpijfnhlehnkaa.PFnExactGfDot Go.Proofs.YthpijfnhlehnkaaW.PrintWords Go.Proofs.YthpijfnhlehnkaaW.PrintLast Go.Proofs.YthpijfnhlehnkaaW.PrintMore Go.Proofs.Ythpijfnhlehnkaa.K
set_option linter.unusedVariables false

theorem toByteS_l0 (l : List Int) (hl : l.length ≤ 9223372036854775806) (n : Nat) : ∀ i : Nat, i + n = l.length →
    Ev (fun k => laws_toByteS.l0 k l (l.take i ++ List.replicate n 0) (i : Int)) l := by
  induction n with
  | zero =>
    intro i hi
    refine Ev.step (fun k => laws_toByteS.l0.eq_2 ..) ?_
    refine ev_neg (by omega) (ev_ret ?_)
    rw [List.replicate_zero, List.append_nil, List.take_of_length_le (by omega)]
  | succ n ih =>
    intro i hi
    refine Ev.step (fun k => laws_toByteS.l0.eq_2 ..) ?_
    have hlen : (l.take i).length = i := by rw [List.length_take]; omega
    refine ev_pos (by omega) (ev_pos (by omega) (ev_pos (by rw [List.length_append, hlen, List.length_replicate]; omega) ?_))
    rw [wr_succ (by omega), rd_nat, Int.toNat_natCast]
    have e := set_fill (l.take i) (l.getD i 0) 0 n
    rw [hlen, take_getD l 0 i (by omega)] at e
    rw [e]
    exact ih (i + 1) (by omega)
theorem toByteS (l : List Int) (hl : l.length ≤ 140737488355328) : Ev (fun k => laws_toByteS.f k l) l := by
  unfold laws_toByteS.f
  refine ev_pos (by omega) (ev_pos (by omega) ?_)
  have := toByteS_l0 l (by omega) l.length 0 (by omega)
  simpa using this
theorem eqByteS_l0 (l : List Int) (hl : l.length ≤ 9223372036854775806) (n : Nat) : ∀ i : Nat, i + n = l.length →
    Ev (fun k => laws_eqByteS.l0 k l l (i : Int)) true := by
  induction n with
  | zero =>
    intro i hi
    refine Ev.step (fun k => laws_eqByteS.l0.eq_2 ..) ?_
    exact ev_neg (by omega) (ev_ret rfl)
  | succ n ih =>
    intro i hi
    refine Ev.step (fun k => laws_eqByteS.l0.eq_2 ..) ?_
    refine ev_pos (by omega) (ev_pos (by omega) (ev_pos (by omega) (ev_pos rfl ?_)))
    rw [wr_succ (by omega)]
    exact ih (i + 1) (by omega)
theorem eqByteS (l : List Int) (hl : l.length ≤ 140737488355328) : Ev (fun k => laws_eqByteS.f k l l) true := by
  unfold laws_eqByteS.f
  exact ev_pos rfl (eqByteS_l0 l (by omega) l.length 0 (by omega))
theorem impl_mul_l0 (n : Nat) : ∀ (o x y : Nat), o < 256 → x < 256 → y < 2 ^ n → n ≤ 8 →
    Ev (fun k => impl_GfMul.l0 k (o : Int) (x : Int) (y : Int)) ((Gf.mulAux n x y o : Nat) : Int) := by
  induction n with
  | zero =>
    intro o x y ho hx hy _
    obtain rfl : y = 0 := by omega
    refine Ev.step (fun k => impl_GfMul.l0.eq_2 ..) ?_
    refine ev_neg (by omega) (ev_ret ?_)
    show (o : Int) % 256 = (o : Int)
    omega
  | succ n ih =>
    intro o x y ho hx hy hn
    have hy8 : y < 256 := Nat.lt_of_lt_of_le hy (Nat.pow_le_pow_right (by decide) hn : 2 ^ (n + 1) ≤ 2 ^ 8)
    refine Ev.step (fun k => impl_GfMul.l0.eq_2 ..) ?_
    by_cases h0 : y = 0
    · subst h0
      refine ev_neg (by omega) (ev_ret ?_)
      rw [Gf.mulAux_zero]
      omega
    refine ev_pos (by omega) ?_
    have e0 : Go.bits .and .i64 (y : Int) 1 = ((y % 2 : Nat) : Int) := odd64 (by omega)
    have e1 : wrap64 ((x : Int) * 2) = ((2 * x : Nat) : Int) := by rw [wr (by omega) (by omega)]; omega
    have e2 : Go.bits .xor .i64 (o : Int) (x : Int) = ((o ^^^ x : Nat) : Int) := xor64 (by omega) (by omega)
    have e3 : Go.bits .xor .i64 ((2 * x : Nat) : Int) 285 = (((2 * x) ^^^ 285 : Nat) : Int) := xor64 (b := 285) (by omega) (by omega)
    have e4 : ((y : Int) / 2) = ((y / 2 : Nat) : Int) := by omega
    simp only [e0, e1, e2, e3, e4]
    have hd := Gf.dbl_lt hx
    have hox := Gf.xor_lt ho hx
    have hy2 : y / 2 < 2 ^ n := by rw [Nat.pow_succ] at hy; omega
    simp only [Gf.mulAux]
    by_cases h1 : y % 2 = 1
    · refine ev_pos (by omega) ?_
      rw [if_pos h1]
      by_cases h2 : 2 * x > 255
      · refine ev_pos (by omega) ?_
        have := ih (o ^^^ x) (Gf.dbl x) (y / 2) hox hd hy2 (by omega)
        have e : Gf.dbl x = (2 * x) ^^^ 285 := if_pos h2
        rw [e] at this ⊢
        exact this
      · refine ev_neg (by omega) ?_
        have := ih (o ^^^ x) (Gf.dbl x) (y / 2) hox hd hy2 (by omega)
        have e : Gf.dbl x = 2 * x := if_neg h2
        rw [e] at this ⊢
        exact this
    · refine ev_neg (by omega) ?_
      rw [if_neg h1]
      by_cases h2 : 2 * x > 255
      · refine ev_pos (by omega) ?_
        have := ih o (Gf.dbl x) (y / 2) ho hd hy2 (by omega)
        have e : Gf.dbl x = (2 * x) ^^^ 285 := if_pos h2
        rw [e] at this ⊢
        exact this
      · refine ev_neg (by omega) ?_
        have := ih o (Gf.dbl x) (y / 2) ho hd hy2 (by omega)
        have e : Gf.dbl x = 2 * x := if_neg h2
        rw [e] at this ⊢
        exact this
theorem impl_mul {a b : Nat} (ha : a < 256) (hb : b < 256) : Ev (fun k => impl_GfMul.f k (a : Int) (b : Int)) ((Gf.gm a b : Nat) : Int) := by
  have := impl_mul_l0 8 0 a b (by decide) ha hb (by decide)
  unfold impl_GfMul.f
  rw [wrn (by omega), wrn (by omega)]
  exact this
theorem spec_mul_l0 (b : Nat) (hb : b < 256) (n : Nat) : ∀ (i o x : Nat), i + n = 8 → o < 256 → x < 256 →
    Ev (fun k => spec_GfMul.l0 k (b : Int) (x : Int) (o : Int) (i : Int)) ((Gf.mulAux n x (b / 2 ^ i) o : Nat) : Int) := by
  induction n with
  | zero =>
    intro i o x hi ho hx
    refine Ev.step (fun k => spec_GfMul.l0.eq_2 ..) ?_
    refine ev_neg (by omega) (ev_ret ?_)
    show (o : Int) % 256 = (o : Int)
    omega
  | succ n ih =>
    intro i o x hi ho hx
    refine Ev.step (fun k => spec_GfMul.l0.eq_2 ..) ?_
    refine ev_pos (by omega) (ev_pos (by omega) ?_)
    have e0 : Go.bits .and .i64 (shr .i64 (wrap64 (b : Int)) (i : Int)) 1 = ((b / 2 ^ i % 2 : Nat) : Int) := by
      have : shr .i64 (wrap64 (b : Int)) (i : Int) = ((b / 2 ^ i : Nat) : Int) := by
        unfold shr
        rw [wrn (by omega), Int.toNat_natCast, Nat.min_eq_left (show i ≤ IntKind.i64.bits by show i ≤ 64; omega)]
        simp
      rw [this]
      exact odd64 (Nat.lt_of_le_of_lt (Nat.div_le_self _ _) (by omega))
    have e1 : wrap64 ((x : Int) * 2) = ((2 * x : Nat) : Int) := by rw [wr (by omega) (by omega)]; omega
    have e2 : Go.bits .xor .i64 (o : Int) (x : Int) = ((o ^^^ x : Nat) : Int) := xor64 (by omega) (by omega)
    have e3 : Go.bits .xor .i64 ((2 * x : Nat) : Int) 285 = (((2 * x) ^^^ 285 : Nat) : Int) := xor64 (b := 285) (by omega) (by omega)
    have e4 : wrap64 ((i : Int) + 1) = ((i + 1 : Nat) : Int) := wr_succ (by omega)
    simp only [e0, e1, e2, e3, e4]
    have hd := Gf.dbl_lt hx
    have hox := Gf.xor_lt ho hx
    have e5 : b / 2 ^ i / 2 = b / 2 ^ (i + 1) := by rw [Nat.div_div_eq_div_mul, Nat.pow_succ]
    simp only [Gf.mulAux, e5]
    by_cases h1 : b / 2 ^ i % 2 = 1
    · refine ev_pos (by omega) ?_
      rw [if_pos h1]
      by_cases h2 : 2 * x > 255
      · refine ev_pos (by omega) ?_
        have := ih (i + 1) (o ^^^ x) (Gf.dbl x) (by omega) hox hd
        have e : Gf.dbl x = (2 * x) ^^^ 285 := if_pos h2
        rw [e] at this ⊢
        exact this
      · refine ev_neg (by omega) ?_
        have := ih (i + 1) (o ^^^ x) (Gf.dbl x) (by omega) hox hd
        have e : Gf.dbl x = 2 * x := if_neg h2
        rw [e] at this ⊢
        exact this
    · refine ev_neg (by omega) ?_
      rw [if_neg h1]
      by_cases h2 : 2 * x > 255
      · refine ev_pos (by omega) ?_
        have := ih (i + 1) o (Gf.dbl x) (by omega) ho hd
        have e : Gf.dbl x = (2 * x) ^^^ 285 := if_pos h2
        rw [e] at this ⊢
        exact this
      · refine ev_neg (by omega) ?_
        have := ih (i + 1) o (Gf.dbl x) (by omega) ho hd
        have e : Gf.dbl x = 2 * x := if_neg h2
        rw [e] at this ⊢
        exact this
theorem spec_mul {a b : Nat} (ha : a < 256) (hb : b < 256) : Ev (fun k => spec_GfMul.f k (a : Int) (b : Int)) ((Gf.gm a b : Nat) : Int) := by
  have := spec_mul_l0 b hb 8 0 0 a rfl (by decide) ha
  unfold spec_GfMul.f
  rw [wrn (by omega)]
  simpa [Gf.gm] using this
/-- The sum of the products, place by place. -/
def dotFrom : List Nat → List Nat → Nat → Nat
  | a :: l, b :: m, s => dotFrom l m (s ^^^ Gf.gm a b)
  | _, _, s => s
theorem impl_dot_l0 (a b : List Nat) (ha : ∀ c ∈ a, c < 256) (hb : ∀ c ∈ b, c < 256) (hl : a.length ≤ 140737488355328) (he : a.length = b.length) (n : Nat) : ∀ (i s : Nat), i + n = a.length → s < 256 →
    Ev (fun k => impl_GfDot.l0 k (I b) (s : Int) (I a) ((I a).length : Int) (i : Int)) (((dotFrom (a.drop i) (b.drop i) s : Nat) : Int), true) := by
  induction n with
  | zero =>
    intro i s hi hs
    refine Ev.step (fun k => impl_GfDot.l0.eq_2 ..) ?_
    refine ev_neg (by rw [I_length]; omega) (ev_ret ?_)
    rw [List.drop_eq_nil_of_le (by omega : a.length ≤ i)]; rfl
  | succ n ih =>
    intro i s hi hs
    refine Ev.step (fun k => impl_GfDot.l0.eq_2 ..) ?_
    have hx := getD_lt ha (by decide) i
    have hy := getD_lt hb (by decide) i
    refine ev_pos (by rw [I_length]; omega) (ev_pos (by omega) (ev_pos (by rw [I_length]; omega) (ev_pos (by rw [I_length]; omega) ?_)))
    rw [rd_I, rd_I, wr_succ (by omega)]
    refine ev_bind (impl_mul hx hy) ?_
    rw [xor8 hs (Gf.gm_lt _ hx), drop_getD a 0 i (by omega), drop_getD b 0 i (by omega)]
    exact ih (i + 1) _ (by omega) (Gf.xor_lt hs (Gf.gm_lt _ hx))
theorem impl_dot {a b : List Nat} (ha : ∀ c ∈ a, c < 256) (hb : ∀ c ∈ b, c < 256) (hl : a.length ≤ 140737488355328) :
    Ev (fun k => impl_GfDot.f k (I a) (I b)) (if a.length = b.length then (((dotFrom a b 0 : Nat) : Int), true) else (0, false)) := by
  unfold impl_GfDot.f
  by_cases h : a.length = b.length
  · rw [if_pos h]
    refine ev_pos (by rw [I_length, I_length, h]) ?_
    have := impl_dot_l0 a b ha hb hl h a.length 0 0 (by omega) (by decide)
    simpa using this
  · rw [if_neg h]
    refine ev_neg (by rw [I_length, I_length]; omega) (ev_ret rfl)
theorem spec_dot_l0 (a b : List Nat) (ha : ∀ c ∈ a, c < 256) (hb : ∀ c ∈ b, c < 256) (hl : a.length ≤ 140737488355328) (he : a.length = b.length) (n : Nat) : ∀ (i s : Nat), i + n = a.length → s < 256 →
    Ev (fun k => spec_GfDot.l0 k (I a) (I b) (s : Int) (i : Int)) (((dotFrom (a.drop i) (b.drop i) s : Nat) : Int), true) := by
  induction n with
  | zero =>
    intro i s hi hs
    refine Ev.step (fun k => spec_GfDot.l0.eq_2 ..) ?_
    refine ev_neg (by rw [I_length]; omega) (ev_ret ?_)
    rw [List.drop_eq_nil_of_le (by omega : a.length ≤ i)]; rfl
  | succ n ih =>
    intro i s hi hs
    refine Ev.step (fun k => spec_GfDot.l0.eq_2 ..) ?_
    have hx := getD_lt ha (by decide) i
    have hy := getD_lt hb (by decide) i
    refine ev_pos (by rw [I_length]; omega) (ev_pos (by omega) (ev_pos (by rw [I_length]; omega) ?_))
    rw [rd_I, rd_I, wr_succ (by omega)]
    refine ev_bind (spec_mul hx hy) ?_
    rw [xor8 hs (Gf.gm_lt _ hx), drop_getD a 0 i (by omega), drop_getD b 0 i (by omega)]
    exact ih (i + 1) _ (by omega) (Gf.xor_lt hs (Gf.gm_lt _ hx))
theorem spec_dot {a b : List Nat} (ha : ∀ c ∈ a, c < 256) (hb : ∀ c ∈ b, c < 256) (hl : a.length ≤ 140737488355328) :
    Ev (fun k => spec_GfDot.f k (I a) (I b)) (if a.length = b.length then (((dotFrom a b 0 : Nat) : Int), true) else (0, false)) := by
  unfold spec_GfDot.f
  by_cases h : a.length = b.length
  · rw [if_pos h]
    refine ev_pos (by rw [I_length, I_length, h]) ?_
    have := spec_dot_l0 a b ha hb hl h a.length 0 0 (by omega) (by decide)
    simpa using this
  · rw [if_neg h]
    refine ev_neg (by rw [I_length, I_length]; omega) (ev_ret rfl)
theorem FnExactGfDot : laws_FnExactGfDot.Pure := by
  intro l m hl _ whb hl2 _ whb2
  obtain ⟨a, rfl, ha⟩ := bytes_of whb
  obtain ⟨b, rfl, hb⟩ := bytes_of whb2
  refine Ev.rounds ?_
  unfold laws_FnExactGfDot.f
  by_cases h : ((I a).length : Int) > 1048576
  · exact ev_pos h (ev_ret rfl)
  refine ev_neg h ?_
  by_cases h2 : ((I b).length : Int) > 1048576
  · exact ev_pos h2 (ev_ret rfl)
  refine ev_neg h2 ?_
  have t1 := toByteS (I a) (by omega)
  have t2 := toByteS (I b) (by omega)
  have q1 := eqByteS (I a) (by omega)
  have q2 := eqByteS (I b) (by omega)
  rw [I_length] at h h2
  refine ev_bind t1 (ev_bind t2 (ev_bind (spec_dot ha hb (by omega)) (ev_bind t1 (ev_bind t2 (ev_bind (impl_dot ha hb (by omega)) (ev_pos rfl ?_))))))
  refine Ev.step (fun k => laws_FnExactGfDot.j0.eq_2 ..) ?_
  refine ev_neg (by simp) (ev_bind t1 (ev_bind q1 (ev_pos rfl (ev_bind t2 (ev_bind q2 (ev_pos rfl (ev_ret rfl)))))))

end Go.Proofs.Ythpijfnhlehnkaa.Pure
