/- GfAxpy answers as the reference's GfAxpy, at every two lists of bytes (of at most 2^20 each) and every byte, in memory of its own. -/
import Derived.Test.YthpijfnhlehnkaaPFnExactGfAxpyx3
import Derived.Test.YthpijfnhlehnkaaKit
import Derived.Test.YthpijfnhlehnkaaGf
namespace Go.Proofs.Ythpijfnhlehnkaa.Pure
open Go.RowKit Go.Proofs.Ythpijfnhlehnkaa Go.Proofs.Ythpijfnhlehnkaa.PFnExactGfAxpy Go.Proofs.YthpijfnhlehnkaaW.PrintWords Go.Proofs.YthpijfnhlehnkaaW.PrintLast Go.Proofs.YthpijfnhlehnkaaW.PrintMore Go.Proofs.Ythpijfnhlehnkaa.K
set_option linter.unusedVariables false

theorem toByteS_l0 (l : List Int) (hl : l.length ≤ 9223372036854775806) (n : Nat) : ∀ i : Nat, i + n = l.length →
    Ev (fun k => laws_toByteS.l0 k l (l.take i ++ List.replicate n 0) (i : Int)) l := by
  induction n with
  | zero =>
    intro i hi
    refine Ev.step (fun k => laws_toByteS.l0.eq_2 ..) ?_
    refine ev_neg (by omega) (ev_ret ?_)
    rw [List.replicate_zero, List.append_nil, List.take_of_length_le (by omega)]
  | succ n ih =>
    intro i hi
    refine Ev.step (fun k => laws_toByteS.l0.eq_2 ..) ?_
    have hlen : (l.take i).length = i := by rw [List.length_take]; omega
    refine ev_pos (by omega) (ev_pos (by omega) (ev_pos (by rw [List.length_append, hlen, List.length_replicate]; omega) ?_))
    rw [wr_succ (by omega), rd_nat, Int.toNat_natCast]
    have e := set_fill (l.take i) (l.getD i 0) 0 n
    rw [hlen, take_getD l 0 i (by omega)] at e
    rw [e]
    exact ih (i + 1) (by omega)
theorem toByteS (l : List Int) (hl : l.length ≤ 140737488355328) : Ev (fun k => laws_toByteS.f k l) l := by
  unfold laws_toByteS.f
  refine ev_pos (by omega) (ev_pos (by omega) ?_)
  have := toByteS_l0 l (by omega) l.length 0 (by omega)
  simpa using this
theorem eqByteS_l0 (l : List Int) (hl : l.length ≤ 9223372036854775806) (n : Nat) : ∀ i : Nat, i + n = l.length →
    Ev (fun k => laws_eqByteS.l0 k l l (i : Int)) true := by
  induction n with
  | zero =>
    intro i hi
    refine Ev.step (fun k => laws_eqByteS.l0.eq_2 ..) ?_
    exact ev_neg (by omega) (ev_ret rfl)
  | succ n ih =>
    intro i hi
    refine Ev.step (fun k => laws_eqByteS.l0.eq_2 ..) ?_
    refine ev_pos (by omega) (ev_pos (by omega) (ev_pos (by omega) (ev_pos rfl ?_)))
    rw [wr_succ (by omega)]
    exact ih (i + 1) (by omega)
theorem eqByteS (l : List Int) (hl : l.length ≤ 140737488355328) : Ev (fun k => laws_eqByteS.f k l l) true := by
  unfold laws_eqByteS.f
  exact ev_pos rfl (eqByteS_l0 l (by omega) l.length 0 (by omega))
def marked (a : Int) : Nat → List Int
  | 0 => []
  | n + 1 => (a % 256) :: marked (a + 1) n
theorem marked_length (n : Nat) : ∀ a, (marked a n).length = n := by
  induction n with
  | zero => intro a; rfl
  | succ n ih => intro a; simp [marked, ih]
theorem marked_snoc (n : Nat) : ∀ a, marked a n ++ [(a + n) % 256] = marked a (n + 1) := by
  induction n with
  | zero => intro a; simp [marked]
  | succ n ih =>
    intro a
    have := ih (a + 1)
    simp only [marked, List.cons_append] at this ⊢
    rw [← this]
    congr 3
    omega
theorem marked_getD (n : Nat) : ∀ a i, i < n → (marked a n).getD i 0 = (a + i) % 256 := by
  induction n with
  | zero => intro a i h; omega
  | succ n ih =>
    intro a i h
    cases i with
    | zero => simp [marked]
    | succ i =>
      have := ih (a + 1) i (by omega)
      simp only [marked, List.getD_cons_succ] at this ⊢
      rw [this]
      congr 1
      omega
theorem markByteS_l0 (l : List Int) (a : Int) (h0 : 0 ≤ a) (ha : a + l.length ≤ 4611686018427387904) (n : Nat) : ∀ i : Nat, i + n = l.length →
    Ev (fun k => laws_markByteS.l0 k (marked a i ++ l.drop i) (a + i) (i : Int)) (a + l.length, marked a l.length) := by
  induction n with
  | zero =>
    intro i hi
    refine Ev.step (fun k => laws_markByteS.l0.eq_2 ..) ?_
    refine ev_neg (by rw [List.length_append, marked_length, List.length_drop]; omega) (ev_ret ?_)
    obtain rfl : i = l.length := by omega
    rw [List.drop_length, List.append_nil]
  | succ n ih =>
    intro i hi
    refine Ev.step (fun k => laws_markByteS.l0.eq_2 ..) ?_
    refine ev_pos (by rw [List.length_append, marked_length, List.length_drop]; omega) (ev_pos (by omega) ?_)
    rw [wr_succ (by omega), Int.toNat_natCast, wr (n := a + i + 1) (by omega) (by omega), drop_getD l 0 i (by omega),
      List.set_append_right _ _ (by rw [marked_length]; exact Nat.le_refl _), marked_length, Nat.sub_self, List.set_cons_zero]
    have := ih (i + 1) (by omega)
    rw [← marked_snoc, List.append_assoc] at this
    rw [show a + (i : Int) + 1 = a + ((i + 1 : Nat) : Int) by omega]
    exact this
theorem markByteS (l : List Int) (a : Int) (h0 : 0 ≤ a) (ha : a + l.length ≤ 4611686018427387904) :
    Ev (fun k => laws_markByteS.f k l a) (a + l.length, marked a l.length) := by
  unfold laws_markByteS.f
  have := markByteS_l0 l a h0 ha l.length 0 (by omega)
  simpa [marked] using this
theorem heldByteS_l0 (a : Int) (m : Nat) (h0 : 0 ≤ a) (ha : a + m ≤ 4611686018427387904) (n : Nat) : ∀ i : Nat, i + n = m →
    Ev (fun k => laws_heldByteS.l0 k (marked a m) (a + i) (i : Int)) (a + m) := by
  induction n with
  | zero =>
    intro i hi
    refine Ev.step (fun k => laws_heldByteS.l0.eq_2 ..) ?_
    refine ev_neg (by rw [marked_length]; omega) (ev_ret ?_)
    omega
  | succ n ih =>
    intro i hi
    refine Ev.step (fun k => laws_heldByteS.l0.eq_2 ..) ?_
    refine ev_pos (by rw [marked_length]; omega) (ev_pos (by omega) (ev_pos (by rw [rd_nat, marked_getD _ _ _ (by omega)]) ?_))
    rw [wr_succ (by omega), wr (n := a + i + 1) (by omega) (by omega), show a + (i : Int) + 1 = a + ((i + 1 : Nat) : Int) by omega]
    exact ih (i + 1) (by omega)
theorem heldByteS (a : Int) (m : Nat) (h0 : 0 ≤ a) (ha : a + m ≤ 4611686018427387904) :
    Ev (fun k => laws_heldByteS.f k (marked a m) a) (a + m) := by
  unfold laws_heldByteS.f
  have := heldByteS_l0 a m h0 ha m 0 (by omega)
  simpa using this
theorem impl_mul_l0 (n : Nat) : ∀ (o x y : Nat), o < 256 → x < 256 → y < 2 ^ n → n ≤ 8 →
    Ev (fun k => impl_GfMul.l0 k (o : Int) (x : Int) (y : Int)) ((Gf.mulAux n x y o : Nat) : Int) := by
  induction n with
  | zero =>
    intro o x y ho hx hy _
    obtain rfl : y = 0 := by omega
    refine Ev.step (fun k => impl_GfMul.l0.eq_2 ..) ?_
    refine ev_neg (by omega) (ev_ret ?_)
    show (o : Int) % 256 = (o : Int)
    omega
  | succ n ih =>
    intro o x y ho hx hy hn
    have hy8 : y < 256 := Nat.lt_of_lt_of_le hy (Nat.pow_le_pow_right (by decide) hn : 2 ^ (n + 1) ≤ 2 ^ 8)
    refine Ev.step (fun k => impl_GfMul.l0.eq_2 ..) ?_
    by_cases h0 : y = 0
    · subst h0
      refine ev_neg (by omega) (ev_ret ?_)
      rw [Gf.mulAux_zero]
      omega
    refine ev_pos (by omega) ?_
    have e0 : Go.bits .and .i64 (y : Int) 1 = ((y % 2 : Nat) : Int) := odd64 (by omega)
    have e1 : wrap64 ((x : Int) * 2) = ((2 * x : Nat) : Int) := by rw [wr (by omega) (by omega)]; omega
    have e2 : Go.bits .xor .i64 (o : Int) (x : Int) = ((o ^^^ x : Nat) : Int) := xor64 (by omega) (by omega)
    have e3 : Go.bits .xor .i64 ((2 * x : Nat) : Int) 285 = (((2 * x) ^^^ 285 : Nat) : Int) := xor64 (b := 285) (by omega) (by omega)
    have e4 : ((y : Int) / 2) = ((y / 2 : Nat) : Int) := by omega
    simp only [e0, e1, e2, e3, e4]
    have hd := Gf.dbl_lt hx
    have hox := Gf.xor_lt ho hx
    have hy2 : y / 2 < 2 ^ n := by rw [Nat.pow_succ] at hy; omega
    simp only [Gf.mulAux]
    by_cases h1 : y % 2 = 1
    · refine ev_pos (by omega) ?_
      rw [if_pos h1]
      by_cases h2 : 2 * x > 255
      · refine ev_pos (by omega) ?_
        have := ih (o ^^^ x) (Gf.dbl x) (y / 2) hox hd hy2 (by omega)
        have e : Gf.dbl x = (2 * x) ^^^ 285 := if_pos h2
        rw [e] at this ⊢
        exact this
      · refine ev_neg (by omega) ?_
        have := ih (o ^^^ x) (Gf.dbl x) (y / 2) hox hd hy2 (by omega)
        have e : Gf.dbl x = 2 * x := if_neg h2
        rw [e] at this ⊢
        exact this
    · refine ev_neg (by omega) ?_
      rw [if_neg h1]
      by_cases h2 : 2 * x > 255
      · refine ev_pos (by omega) ?_
        have := ih o (Gf.dbl x) (y / 2) ho hd hy2 (by omega)
        have e : Gf.dbl x = (2 * x) ^^^ 285 := if_pos h2
        rw [e] at this ⊢
        exact this
      · refine ev_neg (by omega) ?_
        have := ih o (Gf.dbl x) (y / 2) ho hd hy2 (by omega)
        have e : Gf.dbl x = 2 * x := if_neg h2
        rw [e] at this ⊢
        exact this
theorem impl_mul {a b : Nat} (ha : a < 256) (hb : b < 256) : Ev (fun k => impl_GfMul.f k (a : Int) (b : Int)) ((Gf.gm a b : Nat) : Int) := by
  have := impl_mul_l0 8 0 a b (by decide) ha hb (by decide)
  unfold impl_GfMul.f
  rw [wrn (by omega), wrn (by omega)]
  exact this
theorem spec_mul_l0 (b : Nat) (hb : b < 256) (n : Nat) : ∀ (i o x : Nat), i + n = 8 → o < 256 → x < 256 →
    Ev (fun k => spec_GfMul.l0 k (b : Int) (x : Int) (o : Int) (i : Int)) ((Gf.mulAux n x (b / 2 ^ i) o : Nat) : Int) := by
  induction n with
  | zero =>
    intro i o x hi ho hx
    refine Ev.step (fun k => spec_GfMul.l0.eq_2 ..) ?_
    refine ev_neg (by omega) (ev_ret ?_)
    show (o : Int) % 256 = (o : Int)
    omega
  | succ n ih =>
    intro i o x hi ho hx
    refine Ev.step (fun k => spec_GfMul.l0.eq_2 ..) ?_
    refine ev_pos (by omega) (ev_pos (by omega) ?_)
    have e0 : Go.bits .and .i64 (shr .i64 (wrap64 (b : Int)) (i : Int)) 1 = ((b / 2 ^ i % 2 : Nat) : Int) := by
      have : shr .i64 (wrap64 (b : Int)) (i : Int) = ((b / 2 ^ i : Nat) : Int) := by
        unfold shr
        rw [wrn (by omega), Int.toNat_natCast, Nat.min_eq_left (show i ≤ IntKind.i64.bits by show i ≤ 64; omega)]
        simp
      rw [this]
      exact odd64 (Nat.lt_of_le_of_lt (Nat.div_le_self _ _) (by omega))
    have e1 : wrap64 ((x : Int) * 2) = ((2 * x : Nat) : Int) := by rw [wr (by omega) (by omega)]; omega
    have e2 : Go.bits .xor .i64 (o : Int) (x : Int) = ((o ^^^ x : Nat) : Int) := xor64 (by omega) (by omega)
    have e3 : Go.bits .xor .i64 ((2 * x : Nat) : Int) 285 = (((2 * x) ^^^ 285 : Nat) : Int) := xor64 (b := 285) (by omega) (by omega)
    have e4 : wrap64 ((i : Int) + 1) = ((i + 1 : Nat) : Int) := wr_succ (by omega)
    simp only [e0, e1, e2, e3, e4]
    have hd := Gf.dbl_lt hx
    have hox := Gf.xor_lt ho hx
    have e5 : b / 2 ^ i / 2 = b / 2 ^ (i + 1) := by rw [Nat.div_div_eq_div_mul, Nat.pow_succ]
    simp only [Gf.mulAux, e5]
    by_cases h1 : b / 2 ^ i % 2 = 1
    · refine ev_pos (by omega) ?_
      rw [if_pos h1]
      by_cases h2 : 2 * x > 255
      · refine ev_pos (by omega) ?_
        have := ih (i + 1) (o ^^^ x) (Gf.dbl x) (by omega) hox hd
        have e : Gf.dbl x = (2 * x) ^^^ 285 := if_pos h2
        rw [e] at this ⊢
        exact this
      · refine ev_neg (by omega) ?_
        have := ih (i + 1) (o ^^^ x) (Gf.dbl x) (by omega) hox hd
        have e : Gf.dbl x = 2 * x := if_neg h2
        rw [e] at this ⊢
        exact this
    · refine ev_neg (by omega) ?_
      rw [if_neg h1]
      by_cases h2 : 2 * x > 255
      · refine ev_pos (by omega) ?_
        have := ih (i + 1) o (Gf.dbl x) (by omega) ho hd
        have e : Gf.dbl x = (2 * x) ^^^ 285 := if_pos h2
        rw [e] at this ⊢
        exact this
      · refine ev_neg (by omega) ?_
        have := ih (i + 1) o (Gf.dbl x) (by omega) ho hd
        have e : Gf.dbl x = 2 * x := if_neg h2
        rw [e] at this ⊢
        exact this
theorem spec_mul {a b : Nat} (ha : a < 256) (hb : b < 256) : Ev (fun k => spec_GfMul.f k (a : Int) (b : Int)) ((Gf.gm a b : Nat) : Int) := by
  have := spec_mul_l0 b hb 8 0 0 a rfl (by decide) ha
  unfold spec_GfMul.f
  rw [wrn (by omega)]
  simpa [Gf.gm] using this
/-- Place by place: x and the product of k and y. -/
def axpy (k : Nat) : List Nat → List Nat → List Nat
  | a :: l, b :: m => (a ^^^ Gf.gm k b) :: axpy k l m
  | _, _ => []
theorem axpy_length (k : Nat) : ∀ (a b : List Nat), a.length = b.length → (axpy k a b).length = a.length := by
  intro a
  induction a with
  | nil => intro b h; rfl
  | cons x l ih =>
    intro b h
    cases b with
    | nil => simp at h
    | cons y m => simp only [axpy, List.length_cons]; rw [ih m (by simpa using h)]
theorem impl_axpy_l0 (c : Nat) (hc : c < 256) (a b : List Nat) (ha : ∀ c ∈ a, c < 256) (hb : ∀ c ∈ b, c < 256) (hl : a.length ≤ 140737488355327) (he : a.length = b.length) (n : Nat) : ∀ (i : Nat) (o : List Nat), i + n = a.length → o.length = i →
    Ev (fun k => impl_GfAxpy.l0 k (c : Int) (I b) (I o) (I a) ((I a).length : Int) (i : Int)) (I (o ++ axpy c (a.drop i) (b.drop i)), true) := by
  induction n with
  | zero =>
    intro i o hi ho
    refine Ev.step (fun k => impl_GfAxpy.l0.eq_2 ..) ?_
    refine ev_neg (by rw [I_length]; omega) (ev_ret ?_)
    rw [List.drop_eq_nil_of_le (by omega : a.length ≤ i)]
    simp [axpy]
  | succ n ih =>
    intro i o hi ho
    refine Ev.step (fun k => impl_GfAxpy.l0.eq_2 ..) ?_
    have hx := getD_lt ha (by decide) i
    have hy := getD_lt hb (by decide) i
    refine ev_pos (by rw [I_length]; omega) (ev_pos (by omega) (ev_pos (by rw [I_length]; omega) (ev_pos (by rw [I_length]; omega) ?_)))
    rw [rd_I, rd_I, wr_succ (by omega)]
    refine ev_bind (impl_mul hc hy) (ev_pos (by rw [I_length]; omega) ?_)
    rw [xor8 hx (Gf.gm_lt _ hc), drop_getD a 0 i (by omega), drop_getD b 0 i (by omega), I_snoc]
    have := ih (i + 1) (o ++ [a.getD i 0 ^^^ Gf.gm c (b.getD i 0)]) (by omega) (by simp [ho])
    rw [List.append_assoc] at this
    exact this
theorem impl_axpy {c : Nat} (hc : c < 256) {a b : List Nat} (ha : ∀ c ∈ a, c < 256) (hb : ∀ c ∈ b, c < 256) (hl : a.length ≤ 140737488355327) :
    Ev (fun k => impl_GfAxpy.f k (I a) (c : Int) (I b)) (if a.length = b.length then (I (axpy c a b), true) else ([], false)) := by
  unfold impl_GfAxpy.f
  by_cases h : a.length = b.length
  · rw [if_pos h]
    refine ev_pos (by rw [I_length, I_length, h]) ?_
    have := impl_axpy_l0 c hc a b ha hb hl h a.length 0 [] (by omega) rfl
    simpa [I_nil] using this
  · rw [if_neg h]
    refine ev_neg (by rw [I_length, I_length]; omega) (ev_ret rfl)
theorem spec_axpy_l0 (c : Nat) (hc : c < 256) (a b : List Nat) (ha : ∀ c ∈ a, c < 256) (hb : ∀ c ∈ b, c < 256) (hl : a.length ≤ 140737488355327) (he : a.length = b.length) (n : Nat) : ∀ (i : Nat) (o : List Nat), i + n = a.length → o.length = i →
    Ev (fun k => spec_GfAxpy.l0 k (I a) (c : Int) (I b) (I o) (i : Int)) (I (o ++ axpy c (a.drop i) (b.drop i)), true) := by
  induction n with
  | zero =>
    intro i o hi ho
    refine Ev.step (fun k => spec_GfAxpy.l0.eq_2 ..) ?_
    refine ev_neg (by rw [I_length]; omega) (ev_ret ?_)
    rw [List.drop_eq_nil_of_le (by omega : a.length ≤ i)]
    simp [axpy]
  | succ n ih =>
    intro i o hi ho
    refine Ev.step (fun k => spec_GfAxpy.l0.eq_2 ..) ?_
    have hx := getD_lt ha (by decide) i
    have hy := getD_lt hb (by decide) i
    refine ev_pos (by rw [I_length]; omega) (ev_pos (by omega) (ev_pos (by rw [I_length]; omega) ?_))
    rw [rd_I, rd_I, wr_succ (by omega)]
    refine ev_bind (spec_mul hc hy) (ev_pos (by rw [I_length]; omega) ?_)
    rw [xor8 hx (Gf.gm_lt _ hc), drop_getD a 0 i (by omega), drop_getD b 0 i (by omega), I_snoc]
    have := ih (i + 1) (o ++ [a.getD i 0 ^^^ Gf.gm c (b.getD i 0)]) (by omega) (by simp [ho])
    rw [List.append_assoc] at this
    exact this
theorem spec_axpy {c : Nat} (hc : c < 256) {a b : List Nat} (ha : ∀ c ∈ a, c < 256) (hb : ∀ c ∈ b, c < 256) (hl : a.length ≤ 140737488355327) :
    Ev (fun k => spec_GfAxpy.f k (I a) (c : Int) (I b)) (if a.length = b.length then (I (axpy c a b), true) else ([], false)) := by
  unfold spec_GfAxpy.f
  refine ev_some ?_
  by_cases h : a.length = b.length
  · rw [if_pos h]
    refine ev_pos (by rw [I_length, I_length, h]) ?_
    have := spec_axpy_l0 c hc a b ha hb hl h a.length 0 [] (by omega) rfl
    simpa [I_nil] using this
  · rw [if_neg h]
    refine ev_neg (by rw [I_length, I_length]; omega) (ev_ret rfl)
theorem FnExactGfAxpy : laws_FnExactGfAxpy.Pure := by
  intro l c m hl _ whb whc hl2 _ whb2
  obtain ⟨a, rfl, ha⟩ := bytes_of whb
  obtain ⟨b, rfl, hb⟩ := bytes_of whb2
  obtain ⟨c, rfl, hc⟩ := byte_of whc
  refine Ev.rounds ?_
  unfold laws_FnExactGfAxpy.f
  by_cases h : ((I a).length : Int) > 1048576
  · exact ev_pos h (ev_ret rfl)
  refine ev_neg h ?_
  by_cases h2 : ((I b).length : Int) > 1048576
  · exact ev_pos h2 (ev_ret rfl)
  refine ev_neg h2 ?_
  have t1 := toByteS (I a) (by omega)
  have t2 := toByteS (I b) (by omega)
  have q1 := eqByteS (I a) (by omega)
  have q2 := eqByteS (I b) (by omega)
  have m1 := markByteS (I a) 1 (by decide) (by omega)
  have m2 := markByteS (I b) (1 + (I a).length) (by omega) (by omega)
  rw [I_length] at h h2
  have hs := spec_axpy hc ha hb (by omega)
  have hi := impl_axpy hc ha hb (by omega)
  have hr : ∃ (r : List Int) (o : Bool), (if a.length = b.length then (I (axpy c a b), true) else ([], false)) = (r, o) ∧ r.length ≤ 1048576 := by
    by_cases e : a.length = b.length
    · exact ⟨I (axpy c a b), true, if_pos e, by rw [I_length, axpy_length c a b e]; omega⟩
    · exact ⟨[], false, if_neg e, by simp⟩
  obtain ⟨r, o, er, hrl⟩ := hr
  rw [er] at hs hi
  have qr := eqByteS r (by omega)
  have m3 := markByteS r 1 (by decide) (by omega)
  have h3 := heldByteS 1 r.length (by decide) (by omega)
  refine ev_bind t1 (ev_bind t2 (ev_bind hs (ev_bind t1 (ev_bind t2 (ev_bind hi (ev_bind qr (ev_pos rfl ?_)))))))
  refine Ev.step (fun k => laws_FnExactGfAxpy.j0.eq_2 ..) ?_
  refine ev_neg (by simp) (ev_bind t1 (ev_bind q1 (ev_pos rfl (ev_bind t2 (ev_bind q2 (ev_pos rfl (ev_bind m1 (ev_bind m2 (ev_neg (by simp only []; omega) (ev_bind qr (ev_pos rfl ?_)))))))))))
  refine Ev.step (fun k => laws_FnExactGfAxpy.j1.eq_2 ..) ?_
  refine ev_neg (by simp) (ev_bind m3 (ev_bind h3 (ev_neg (by omega) (ev_pos rfl (ev_bind t1 (ev_bind t2 (ev_bind hi (ev_bind qr (ev_pos rfl ?_)))))))))
  refine Ev.step (fun k => laws_FnExactGfAxpy.j2.eq_2 ..) ?_
  exact ev_neg (by simp) (ev_bind h3 (ev_neg (by omega) (ev_pos rfl (ev_ret rfl))))

end Go.Proofs.Ythpijfnhlehnkaa.Pure
