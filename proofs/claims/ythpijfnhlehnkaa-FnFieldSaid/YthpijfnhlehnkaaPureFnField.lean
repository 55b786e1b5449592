/- Of every text of bytes the drawn products may be turned about, put together otherwise, are shared out over sums, and each byte but 0 has an inverse. -/
import Derived.Test.YthpijfnhlehnkaaPFnFieldx2
import Derived.Test.YthpijfnhlehnkaaKit
import Derived.Test.YthpijfnhlehnkaaGf
namespace Go.Proofs.Ythpijfnhlehnkaa.Pure
open Go.RowKit Go.Proofs.Ythpijfnhlehnkaa Go.Proofs.Ythpijfnhlehnkaa.PFnField Go.Proofs.YthpijfnhlehnkaaW.PrintWords Go.Proofs.YthpijfnhlehnkaaW.PrintLast Go.Proofs.YthpijfnhlehnkaaW.PrintMore Go.Proofs.Ythpijfnhlehnkaa.K
set_option linter.unusedVariables false

theorem at_ok {m : List Nat} (hm : ∀ c ∈ m, c < 256) (hl : m.length ≤ 1048576) (i : Nat) (hi : i ≤ 1000000) : ∃ n : Nat, n < 256 ∧ laws_at.f (I m) (i : Int) = some (n : Int) := by
  unfold laws_at.f
  by_cases h : i < m.length
  · refine ⟨m.getD i 0, getD_lt hm (by decide) i, ?_⟩
    have := getD_lt hm (by decide) i
    rw [if_pos (by rw [I_length]; omega), if_pos (by omega), rd_I, wrn (by omega)]
  · refine ⟨(i * 7 + m.length) % 256, Nat.mod_lt _ (by decide), ?_⟩
    rw [if_neg (by rw [I_length]; omega), I_length, wr (n := (i : Int) * 7) (by omega) (by omega), wr (by omega) (by omega), Int.tmod_eq_emod_of_nonneg (by omega)]
    congr 1
theorem impl_mul_l0 (n : Nat) : ∀ (o x y : Nat), o < 256 → x < 256 → y < 2 ^ n → n ≤ 8 →
    Ev (fun k => impl_GfMul.l0 k (o : Int) (x : Int) (y : Int)) ((Gf.mulAux n x y o : Nat) : Int) := by
  induction n with
  | zero =>
    intro o x y ho hx hy _
    obtain rfl : y = 0 := by omega
    refine Ev.step (fun k => impl_GfMul.l0.eq_2 ..) ?_
    refine ev_neg (by omega) (ev_ret ?_)
    show (o : Int) % 256 = (o : Int)
    omega
  | succ n ih =>
    intro o x y ho hx hy hn
    have hy8 : y < 256 := Nat.lt_of_lt_of_le hy (Nat.pow_le_pow_right (by decide) hn : 2 ^ (n + 1) ≤ 2 ^ 8)
    refine Ev.step (fun k => impl_GfMul.l0.eq_2 ..) ?_
    by_cases h0 : y = 0
    · subst h0
      refine ev_neg (by omega) (ev_ret ?_)
      rw [Gf.mulAux_zero]
      omega
    refine ev_pos (by omega) ?_
    have e0 : Go.bits .and .i64 (y : Int) 1 = ((y % 2 : Nat) : Int) := odd64 (by omega)
    have e1 : wrap64 ((x : Int) * 2) = ((2 * x : Nat) : Int) := by rw [wr (by omega) (by omega)]; omega
    have e2 : Go.bits .xor .i64 (o : Int) (x : Int) = ((o ^^^ x : Nat) : Int) := xor64 (by omega) (by omega)
    have e3 : Go.bits .xor .i64 ((2 * x : Nat) : Int) 285 = (((2 * x) ^^^ 285 : Nat) : Int) := xor64 (b := 285) (by omega) (by omega)
    have e4 : ((y : Int) / 2) = ((y / 2 : Nat) : Int) := by omega
    simp only [e0, e1, e2, e3, e4]
    have hd := Gf.dbl_lt hx
    have hox := Gf.xor_lt ho hx
    have hy2 : y / 2 < 2 ^ n := by rw [Nat.pow_succ] at hy; omega
    simp only [Gf.mulAux]
    by_cases h1 : y % 2 = 1
    · refine ev_pos (by omega) ?_
      rw [if_pos h1]
      by_cases h2 : 2 * x > 255
      · refine ev_pos (by omega) ?_
        have := ih (o ^^^ x) (Gf.dbl x) (y / 2) hox hd hy2 (by omega)
        have e : Gf.dbl x = (2 * x) ^^^ 285 := if_pos h2
        rw [e] at this ⊢
        exact this
      · refine ev_neg (by omega) ?_
        have := ih (o ^^^ x) (Gf.dbl x) (y / 2) hox hd hy2 (by omega)
        have e : Gf.dbl x = 2 * x := if_neg h2
        rw [e] at this ⊢
        exact this
    · refine ev_neg (by omega) ?_
      rw [if_neg h1]
      by_cases h2 : 2 * x > 255
      · refine ev_pos (by omega) ?_
        have := ih o (Gf.dbl x) (y / 2) ho hd hy2 (by omega)
        have e : Gf.dbl x = (2 * x) ^^^ 285 := if_pos h2
        rw [e] at this ⊢
        exact this
      · refine ev_neg (by omega) ?_
        have := ih o (Gf.dbl x) (y / 2) ho hd hy2 (by omega)
        have e : Gf.dbl x = 2 * x := if_neg h2
        rw [e] at this ⊢
        exact this
theorem impl_mul {a b : Nat} (ha : a < 256) (hb : b < 256) : Ev (fun k => impl_GfMul.f k (a : Int) (b : Int)) ((Gf.gm a b : Nat) : Int) := by
  have := impl_mul_l0 8 0 a b (by decide) ha hb (by decide)
  unfold impl_GfMul.f
  rw [wrn (by omega), wrn (by omega)]
  exact this
theorem impl_pow_l0 (n : Nat) : ∀ (m a o : Nat), m < 2 ^ n → n ≤ 62 → a < 256 → o < 256 →
    Ev (fun k => impl_GfPow.l0 k (a : Int) (m : Int) (o : Int)) ((Gf.gm o (Gf.gp a m) : Nat) : Int) := by
  induction n with
  | zero =>
    intro m a o hm _ ha ho
    obtain rfl : m = 0 := by omega
    refine Ev.step (fun k => impl_GfPow.l0.eq_2 ..) ?_
    refine ev_neg (by omega) (ev_ret ?_)
    show (o : Int) = ((Gf.gm o 1 : Nat) : Int)
    rw [Gf.gm_one ho]
  | succ n ih =>
    intro m a o hm hn ha ho
    have hm63 : m < 9223372036854775808 := by
      have : 2 ^ (n + 1) ≤ 2 ^ 63 := Nat.pow_le_pow_right (by decide) (by omega)
      omega
    refine Ev.step (fun k => impl_GfPow.l0.eq_2 ..) ?_
    by_cases h0 : m = 0
    · subst h0
      refine ev_neg (by omega) (ev_ret ?_)
      show (o : Int) = ((Gf.gm o 1 : Nat) : Int)
      rw [Gf.gm_one ho]
    refine ev_pos (by omega) ?_
    have e0 : Go.bits .and .i64 (m : Int) 1 = ((m % 2 : Nat) : Int) := odd64 hm63
    have e4 : ((m : Int) / 2) = ((m / 2 : Nat) : Int) := by omega
    simp only [e0, e4]
    have hm2 : m / 2 < 2 ^ n := by rw [Nat.pow_succ] at hm; omega
    have hs := Gf.gp_sq ha (m / 2)
    by_cases h1 : m % 2 = 1
    · refine ev_pos (by omega) (ev_bind (impl_mul ho ha) (ev_bind (impl_mul ha ha) ?_))
      have := ih (m / 2) (Gf.gm a a) (Gf.gm o a) hm2 (by omega) (Gf.gm_lt _ ha) (Gf.gm_lt _ ho)
      refine ev_eq this ?_
      rw [hs, Gf.gm_assoc ho ha (Gf.gp_lt ha _)]
      congr 2
      have e : 1 + 2 * (m / 2) = m := by omega
      have := Gf.gp_add ha 1 (2 * (m / 2))
      rw [e] at this
      rw [this]
      congr 1
      show a = Gf.gm 1 a
      exact (Gf.one_gm ha).symm
    · refine ev_neg (by omega) (ev_bind (impl_mul ha ha) ?_)
      have := ih (m / 2) (Gf.gm a a) o hm2 (by omega) (Gf.gm_lt _ ha) ho
      refine ev_eq this ?_
      rw [hs, show 2 * (m / 2) = m by omega]
/-- What a power is: 0 below 0, else the product. -/
def powOf (a : Nat) (n : Int) : Nat := if n < 0 then 0 else Gf.gp a n.toNat
theorem powOf_lt {a : Nat} (ha : a < 256) (n : Int) : powOf a n < 256 := by
  unfold powOf; split
  · decide
  · exact Gf.gp_lt ha _
theorem impl_pow {a : Nat} (ha : a < 256) {n : Int} (hn : n ≤ 9223372036854775807) : Ev (fun k => impl_GfPow.f k (a : Int) n) ((powOf a n : Nat) : Int) := by
  unfold impl_GfPow.f powOf
  by_cases h : n < 0
  · rw [if_pos h]
    refine ev_pos h ?_
    refine Ev.step (fun k => impl_GfPow.j0.eq_2 ..) ?_
    exact ev_pos rfl (ev_ret rfl)
  refine ev_neg h ?_
  rw [if_neg h]
  obtain ⟨m, rfl⟩ := Int.eq_ofNat_of_zero_le (by omega : 0 ≤ n)
  rw [Int.toNat_natCast]
  by_cases hm : m = 0
  · subst hm
    refine ev_neg (by omega) ?_
    refine Ev.step (fun k => impl_GfPow.j0.eq_2 ..) ?_
    exact ev_neg (by decide) (ev_pos rfl (ev_ret rfl))
  refine ev_pos (by omega) ?_
  refine Ev.step (fun k => impl_GfPow.j0.eq_2 ..) ?_
  by_cases h0 : a = 0
  · subst h0
    refine ev_pos (by decide) (ev_ret ?_)
    obtain ⟨q, rfl⟩ : ∃ q, m = q + 1 := ⟨m - 1, by omega⟩
    rw [Gf.gp_zero]; rfl
  · refine ev_neg (by simpa using h0) (ev_neg (by omega) ?_)
    have e : Int.tmod (m : Int) 255 = ((m % 255 : Nat) : Int) := by
      rw [Int.tmod_eq_emod_of_nonneg (by omega)]; omega
    rw [e]
    have := impl_pow_l0 8 (m % 255) a 1 (Nat.lt_trans (Nat.mod_lt _ (by decide)) (by decide)) (by decide) ha (by decide)
    refine ev_eq this ?_
    rw [Gf.one_gm (Gf.gp_lt ha _), Gf.gp_mod ha h0]
theorem impl_inv {a : Nat} (ha : a < 256) : Ev (fun k => impl_GfInv.f k (a : Int)) (((if a = 0 then 0 else Gf.inv a : Nat) : Int), decide (a ≠ 0)) := by
  unfold impl_GfInv.f
  by_cases h : a = 0
  · subst h
    exact ev_pos rfl (ev_ret rfl)
  · refine ev_neg (by omega) (ev_bind (impl_pow ha (by decide)) (ev_ret ?_))
    rw [if_neg h]
    simp [h, powOf, Gf.inv]
/-- The sum of the products, place by place. -/
def dotFrom : List Nat → List Nat → Nat → Nat
  | a :: l, b :: m, s => dotFrom l m (s ^^^ Gf.gm a b)
  | _, _, s => s
theorem impl_dot_l0 (a b : List Nat) (ha : ∀ c ∈ a, c < 256) (hb : ∀ c ∈ b, c < 256) (hl : a.length ≤ 140737488355328) (he : a.length = b.length) (n : Nat) : ∀ (i s : Nat), i + n = a.length → s < 256 →
    Ev (fun k => impl_GfDot.l0 k (I b) (s : Int) (I a) ((I a).length : Int) (i : Int)) (((dotFrom (a.drop i) (b.drop i) s : Nat) : Int), true) := by
  induction n with
  | zero =>
    intro i s hi hs
    refine Ev.step (fun k => impl_GfDot.l0.eq_2 ..) ?_
    refine ev_neg (by rw [I_length]; omega) (ev_ret ?_)
    rw [List.drop_eq_nil_of_le (by omega : a.length ≤ i)]; rfl
  | succ n ih =>
    intro i s hi hs
    refine Ev.step (fun k => impl_GfDot.l0.eq_2 ..) ?_
    have hx := getD_lt ha (by decide) i
    have hy := getD_lt hb (by decide) i
    refine ev_pos (by rw [I_length]; omega) (ev_pos (by omega) (ev_pos (by rw [I_length]; omega) (ev_pos (by rw [I_length]; omega) ?_)))
    rw [rd_I, rd_I, wr_succ (by omega)]
    refine ev_bind (impl_mul hx hy) ?_
    rw [xor8 hs (Gf.gm_lt _ hx), drop_getD a 0 i (by omega), drop_getD b 0 i (by omega)]
    exact ih (i + 1) _ (by omega) (Gf.xor_lt hs (Gf.gm_lt _ hx))
theorem impl_dot {a b : List Nat} (ha : ∀ c ∈ a, c < 256) (hb : ∀ c ∈ b, c < 256) (hl : a.length ≤ 140737488355328) :
    Ev (fun k => impl_GfDot.f k (I a) (I b)) (if a.length = b.length then (((dotFrom a b 0 : Nat) : Int), true) else (0, false)) := by
  unfold impl_GfDot.f
  by_cases h : a.length = b.length
  · rw [if_pos h]
    refine ev_pos (by rw [I_length, I_length, h]) ?_
    have := impl_dot_l0 a b ha hb hl h a.length 0 0 (by omega) (by decide)
    simpa using this
  · rw [if_neg h]
    refine ev_neg (by rw [I_length, I_length]; omega) (ev_ret rfl)
/-- Place by place: x and the product of k and y. -/
def axpy (k : Nat) : List Nat → List Nat → List Nat
  | a :: l, b :: m => (a ^^^ Gf.gm k b) :: axpy k l m
  | _, _ => []
theorem axpy_length (k : Nat) : ∀ (a b : List Nat), a.length = b.length → (axpy k a b).length = a.length := by
  intro a
  induction a with
  | nil => intro b h; rfl
  | cons x l ih =>
    intro b h
    cases b with
    | nil => simp at h
    | cons y m => simp only [axpy, List.length_cons]; rw [ih m (by simpa using h)]
theorem impl_axpy_l0 (c : Nat) (hc : c < 256) (a b : List Nat) (ha : ∀ c ∈ a, c < 256) (hb : ∀ c ∈ b, c < 256) (hl : a.length ≤ 140737488355327) (he : a.length = b.length) (n : Nat) : ∀ (i : Nat) (o : List Nat), i + n = a.length → o.length = i →
    Ev (fun k => impl_GfAxpy.l0 k (c : Int) (I b) (I o) (I a) ((I a).length : Int) (i : Int)) (I (o ++ axpy c (a.drop i) (b.drop i)), true) := by
  induction n with
  | zero =>
    intro i o hi ho
    refine Ev.step (fun k => impl_GfAxpy.l0.eq_2 ..) ?_
    refine ev_neg (by rw [I_length]; omega) (ev_ret ?_)
    rw [List.drop_eq_nil_of_le (by omega : a.length ≤ i)]
    simp [axpy]
  | succ n ih =>
    intro i o hi ho
    refine Ev.step (fun k => impl_GfAxpy.l0.eq_2 ..) ?_
    have hx := getD_lt ha (by decide) i
    have hy := getD_lt hb (by decide) i
    refine ev_pos (by rw [I_length]; omega) (ev_pos (by omega) (ev_pos (by rw [I_length]; omega) (ev_pos (by rw [I_length]; omega) ?_)))
    rw [rd_I, rd_I, wr_succ (by omega)]
    refine ev_bind (impl_mul hc hy) (ev_pos (by rw [I_length]; omega) ?_)
    rw [xor8 hx (Gf.gm_lt _ hc), drop_getD a 0 i (by omega), drop_getD b 0 i (by omega), I_snoc]
    have := ih (i + 1) (o ++ [a.getD i 0 ^^^ Gf.gm c (b.getD i 0)]) (by omega) (by simp [ho])
    rw [List.append_assoc] at this
    exact this
theorem impl_axpy {c : Nat} (hc : c < 256) {a b : List Nat} (ha : ∀ c ∈ a, c < 256) (hb : ∀ c ∈ b, c < 256) (hl : a.length ≤ 140737488355327) :
    Ev (fun k => impl_GfAxpy.f k (I a) (c : Int) (I b)) (if a.length = b.length then (I (axpy c a b), true) else ([], false)) := by
  unfold impl_GfAxpy.f
  by_cases h : a.length = b.length
  · rw [if_pos h]
    refine ev_pos (by rw [I_length, I_length, h]) ?_
    have := impl_axpy_l0 c hc a b ha hb hl h a.length 0 [] (by omega) rfl
    simpa [I_nil] using this
  · rw [if_neg h]
    refine ev_neg (by rw [I_length, I_length]; omega) (ev_ret rfl)
theorem FnField : laws_FnField.Pure := by
  intro l hl _ wb
  obtain ⟨m, rfl, hm⟩ := bytes_of wb
  refine Ev.rounds ?_
  unfold laws_FnField.f
  refine ev_pure (a := decide (((I m).length : Int) > 1048576)) rfl ?_
  by_cases h : ((I m).length : Int) > 1048576
  · exact ev_pos (by simp [h]) (ev_ret rfl)
  refine ev_neg (by simp only [decide_eq_true_eq]; exact h) ?_
  rw [I_length] at h
  have hml : m.length ≤ 1048576 := by omega
  obtain ⟨a, ha, ea⟩ := at_ok hm hml 0 (by decide)
  obtain ⟨b, hb, eb⟩ := at_ok hm hml 1 (by decide)
  obtain ⟨c, hc, ec⟩ := at_ok hm hml 2 (by decide)
  obtain ⟨d, hd, ed⟩ := at_ok hm hml 3 (by decide)
  refine ev_pure ea (ev_pure eb (ev_pure ec ?_))
  have a8 : (a : Int) % 256 = (a : Int) := by omega
  have b8 : (b : Int) % 256 = (b : Int) := by omega
  have c8 : (c : Int) % 256 = (c : Int) := by omega
  simp only [a8, b8, c8]
  have mab := Gf.gm_lt b ha
  have mbc := Gf.gm_lt c hb
  refine ev_bind (impl_mul ha hb) (ev_bind (impl_mul hb ha) (ev_pos (by rw [Gf.gm_comm ha hb]) ?_))
  refine ev_bind (impl_mul hb hc) (ev_bind (impl_mul ha mbc) (ev_bind (impl_mul mab hc) (ev_pos (by rw [Gf.gm_assoc ha hb hc]) ?_)))
  rw [xor8 hb hc]
  refine ev_bind (impl_mul ha (Gf.xor_lt hb hc)) (ev_bind (impl_mul ha hc) (ev_pos (by rw [xor8 mab (Gf.gm_lt c ha), Gf.gm_xor]) ?_))
  refine ev_bind (impl_mul ha (b := 1) (by decide)) (ev_pos (by rw [Gf.gm_one ha]) (ev_bind (impl_mul (a := 2) (b := 128) (by decide) (by decide)) ?_))
  have e29 : Gf.gm 2 128 = 29 := by decide +kernel
  rw [e29]
  refine Ev.step (fun k => laws_FnField.j0.eq_2 ..) ?_
  refine ev_neg (by decide) (ev_bind (impl_inv ha) ?_)
  have hinv : ∀ r, Ev (fun k => laws_FnField.j1 k (I m) (a : Int) (b : Int) (c : Int) false) r →
      Ev (fun k => if ((((if a = 0 then 0 else Gf.inv a : Nat) : Int), decide (a ≠ 0)).2 != ((a : Int) != 0)) = true then laws_FnField.j1 k (I m) (a : Int) (b : Int) (c : Int) true else
        if (((if a = 0 then 0 else Gf.inv a : Nat) : Int), decide (a ≠ 0)).2 = true then (impl_GfMul.f k (a : Int) (((if a = 0 then 0 else Gf.inv a : Nat) : Int), decide (a ≠ 0)).1).bind fun t => laws_FnField.j1 k (I m) (a : Int) (b : Int) (c : Int) (t != 1)
        else laws_FnField.j1 k (I m) (a : Int) (b : Int) (c : Int) false) r := by
    intro r hr
    by_cases h0 : a = 0
    · subst h0
      exact ev_neg (by decide) (ev_neg (by decide) hr)
    · refine ev_neg (by simp [h0]) (ev_pos (by simp [h0]) ?_)
      rw [if_neg h0]
      refine ev_bind (impl_mul ha (Gf.inv_lt ha)) ?_
      rw [Gf.gm_inv ha h0]
      exact hr
  refine hinv _ ?_
  refine Ev.step (fun k => laws_FnField.j1.eq_2 ..) ?_
  refine ev_neg (by decide) (ev_pure ed ?_)
  have e1 : wrap64 (wrap64 ((d : Int) * 5) + 1) = ((d * 5 + 1 : Nat) : Int) := by rw [wr (n := (d : Int) * 5) (by omega) (by omega), wr (by omega) (by omega)]; omega
  have e2 : wrap64 ((d : Int) * 5) = ((d * 5 : Nat) : Int) := by rw [wr (by omega) (by omega)]; omega
  rw [e1, e2]
  refine ev_bind (impl_pow ha (by omega)) (ev_bind (impl_pow ha (by omega)) (ev_bind (impl_mul (powOf_lt ha _) ha) (ev_pos ?_ (ev_some ?_))))
  · unfold powOf
    rw [if_neg (by omega), if_neg (by omega), Int.toNat_natCast, Int.toNat_natCast]
    rfl
  have ex : ([(a : Int), (b : Int)] : List Int) = I [a, b] := rfl
  have ey : ([1, 2] : List Int) = I [1, 2] := rfl
  have ez : ([(c : Int), 1] : List Int) = I [c, 1] := rfl
  have ew : ([1] : List Int) = I [1] := rfl
  rw [ex, ey, ez, ew]
  have hab : ∀ x ∈ [a, b], x < 256 := by simp [ha, hb]
  have h12 : ∀ x ∈ [1, 2], x < 256 := by simp
  have hc1 : ∀ x ∈ [c, 1], x < 256 := by simp [hc]
  have h1 : ∀ x ∈ [1], x < 256 := by simp
  refine ev_bind (impl_axpy hc hab h12 (by simp)) (ev_bind (impl_dot hab hc1 (by simp)) (ev_bind (impl_dot hab h1 (by simp)) ?_))
  refine ev_pos (by simp) (ev_pos (by simp) (ev_neg (by simp) (ev_pos (by simp [axpy, I]) (ev_pos (by simp [axpy, I]) (ev_pos ?_ (ev_pos (by simp [axpy, I]) ?_))))))
  · rw [xor8 ha hc]
    simp [axpy, I, rd, Gf.gm_one hc]
  refine ev_bind (impl_mul hc (b := 2) (by decide)) (ev_pos ?_ (ev_bind (impl_mul ha hc) (ev_ret ?_)))
  · rw [xor8 hb (Gf.gm_lt _ hc)]
    simp [axpy, I, rd]
  · rw [xor8 (Gf.gm_lt _ ha) hb]
    simp [dotFrom, Gf.gm_one hb]

end Go.Proofs.Ythpijfnhlehnkaa.Pure
