/- GfSolve answers as the reference's GfSolve, at all rows and right sides (of at most 2^20 bytes and rows together), in memory of its own, and leaves both as they were. -/
import Derived.Test.YthaoloacbbohlaaPFnExactGfSolvex
import Derived.Test.YthaoloacbbohlaaKit
import Derived.Test.YthaoloacbbohlaaGf
namespace Go.Proofs.Ythaoloacbbohlaa.Pure
open Go.RowKit Go.Proofs.Ythaoloacbbohlaa Go.Proofs.Ythaoloacbbohlaa.PFnExactGfSolve Go.Proofs.YthaoloacbbohlaaW.PrintWords Go.Proofs.YthaoloacbbohlaaW.PrintLast Go.Proofs.YthaoloacbbohlaaW.PrintMore Go.Proofs.Ythaoloacbbohlaa.K
set_option linter.unusedVariables false

/-- What is left of a behind a taking of t; -1: t was too much. -/
def left (a : Int) (t : Nat) : Int := if a - (t : Int) < 0 then -1 else a - (t : Int)
theorem left_ok {a : Int} {t : Nat} (h : ¬ left a t < 0) : left a t = a - (t : Int) := by
  unfold left at h ⊢
  split
  · rename_i h2
    rw [if_pos h2] at h
    omega
  · rfl
theorem left_neg {a : Int} {t : Nat} (h : a - (t : Int) < 0) : left a t = -1 := if_pos h
theorem left_pos {a : Int} {t : Nat} (h : ¬ a - (t : Int) < 0) : left a t = a - (t : Int) := if_neg h
theorem len_max {n : Nat} (h : n ≤ maxLen) : n ≤ 9223372036854775807 := by unfold maxLen at h; omega
/-- The bytes of all texts together. -/
def tsum : List (List Int) → Nat
  | [] => 0
  | x :: l => x.length + tsum l
/-- .. and the texts. -/
def tot (l : List (List Int)) : Nat := l.length + tsum l
theorem tsum_le (l : List (List Int)) : tsum l ≤ tot l := Nat.le_add_left _ _
theorem tot_len (l : List (List Int)) : l.length ≤ tot l := Nat.le_add_right _ _
theorem tsum_mem {l : List (List Int)} {x : List Int} (h : x ∈ l) : x.length ≤ tsum l := by
  induction l with
  | nil => cases h
  | cons y l ih =>
    rcases List.mem_cons.1 h with rfl | h
    · unfold tsum; omega
    · have := ih h; unfold tsum; omega
theorem tsum_append (l m : List (List Int)) : tsum (l ++ m) = tsum l + tsum m := by
  induction l with
  | nil => simp [tsum]
  | cons x l ih => simp only [List.cons_append, tsum, ih]; omega
theorem rdB_nat (l : List (List Int)) (i : Nat) : rd_L1 l (i : Int) = l.getD i [] := by unfold rd_L1; rw [Int.toNat_natCast]
theorem getD_mem {l : List (List Int)} {i : Nat} (h : i < l.length) : l.getD i [] ∈ l := by
  rw [List.getD_eq_getElem?_getD, List.getElem?_eq_getElem h]
  exact List.getElem_mem h
theorem dropB {l : List (List Int)} {i : Nat} (h : i < l.length) : l.drop i = l.getD i [] :: l.drop (i + 1) := drop_getD l [] i h
theorem szByteS (l : List Int) (a : Int) (h0 : 0 ≤ a) (ha : a ≤ 1048576) (hl : l.length ≤ maxLen) : laws_szByteS.f l a = some (left a l.length) := by
  have hm := len_max hl
  unfold laws_szByteS.f
  rw [wr (n := a - (l.length : Int)) (by omega) (by omega)]
  by_cases h : a - (l.length : Int) < 0
  · rw [if_pos h, left_neg h]
  · rw [if_neg h, left_pos h]
theorem szByteSS_l0 (l : List (List Int)) (hl : l.length ≤ 1048576) (hs : ∀ v ∈ l, v.length ≤ maxLen) (n : Nat) : ∀ (i : Nat) (a : Int), i + n = l.length → 0 ≤ a → a ≤ 1048576 → Ev (fun k => laws_szByteSS.l0 k l a (i : Int)) (left a (tsum (l.drop i))) := by
  induction n with
  | zero =>
    intro i a hi h0 ha
    refine Ev.step (fun k => laws_szByteSS.l0.eq_2 ..) (ev_neg (by omega) (ev_ret ?_))
    rw [List.drop_eq_nil_of_le (by omega)]
    unfold left tsum
    rw [if_neg (by omega)]
    omega
  | succ n ih =>
    intro i a hi h0 ha
    have hlt : i < l.length := by omega
    refine Ev.step (fun k => laws_szByteSS.l0.eq_2 ..) (ev_pos (by omega) (ev_pos (by omega) ?_))
    rw [rdB_nat, dropB hlt]
    have hx := hs _ (getD_mem hlt)
    refine ev_pure (szByteS _ a h0 ha hx) ?_
    generalize l.getD i [] = x at hx
    by_cases h : a - (x.length : Int) < 0
    · rw [left_neg h]
      refine ev_pos (by decide) (ev_ret ?_)
      rw [left_neg]
      simp only [tsum]
      omega
    · rw [left_pos h, wr_succ (by omega)]
      refine ev_neg h (ev_eq (ih (i + 1) _ (by omega) (by omega) (by omega)) ?_)
      simp only [tsum]
      unfold left
      split <;> split <;> omega
theorem szByteSS (l : List (List Int)) (a : Int) (h0 : 0 ≤ a) (ha : a ≤ 1048576) (hl : l.length ≤ maxLen) (hs : ∀ v ∈ l, v.length ≤ maxLen) : Ev (fun k => laws_szByteSS.f k l a) (left a (tot l)) := by
  have hm := len_max hl
  unfold laws_szByteSS.f
  rw [wr (n := a - (l.length : Int)) (by omega) (by omega)]
  by_cases h : a - (l.length : Int) < 0
  · refine ev_pos h (ev_ret ?_)
    have := tot_len l
    rw [left_neg (by omega)]
  · refine ev_neg h (ev_eq (szByteSS_l0 l (by omega) hs l.length 0 _ (by omega) (by omega) (by omega)) ?_)
    rw [List.drop_zero]
    unfold left tot
    split <;> split <;> omega
theorem toByteS_l0 (l : List Int) (hl : l.length ≤ 9223372036854775806) (n : Nat) : ∀ i : Nat, i + n = l.length →
    Ev (fun k => laws_toByteS.l0 k l (l.take i ++ List.replicate n 0) (i : Int)) l := by
  induction n with
  | zero =>
    intro i hi
    refine Ev.step (fun k => laws_toByteS.l0.eq_2 ..) ?_
    refine ev_neg (by omega) (ev_ret ?_)
    rw [List.replicate_zero, List.append_nil, List.take_of_length_le (by omega)]
  | succ n ih =>
    intro i hi
    refine Ev.step (fun k => laws_toByteS.l0.eq_2 ..) ?_
    have hlen : (l.take i).length = i := by rw [List.length_take]; omega
    refine ev_pos (by omega) (ev_pos (by omega) (ev_pos (by rw [List.length_append, hlen, List.length_replicate]; omega) ?_))
    rw [wr_succ (by omega), rd_nat, Int.toNat_natCast]
    have e := set_fill (l.take i) (l.getD i 0) 0 n
    rw [hlen, take_getD l 0 i (by omega)] at e
    rw [e]
    exact ih (i + 1) (by omega)
theorem toByteS (l : List Int) (hl : l.length ≤ 140737488355328) : Ev (fun k => laws_toByteS.f k l) l := by
  unfold laws_toByteS.f
  refine ev_pos (by omega) (ev_pos (by omega) ?_)
  have := toByteS_l0 l (by omega) l.length 0 (by omega)
  simpa using this
theorem toByteSS_l0 (l : List (List Int)) (hl : l.length ≤ 9223372036854775806) (hs : ∀ x ∈ l, x.length ≤ 140737488355328) (n : Nat) : ∀ i : Nat, i + n = l.length →
    Ev (fun k => laws_toByteSS.l0 k l (l.take i ++ List.replicate n []) (i : Int)) l := by
  induction n with
  | zero =>
    intro i hi
    refine Ev.step (fun k => laws_toByteSS.l0.eq_2 ..) ?_
    refine ev_neg (by omega) (ev_ret ?_)
    rw [List.replicate_zero, List.append_nil, List.take_of_length_le (by omega)]
  | succ n ih =>
    intro i hi
    refine Ev.step (fun k => laws_toByteSS.l0.eq_2 ..) ?_
    have hlen : (l.take i).length = i := by rw [List.length_take]; omega
    refine ev_pos (by omega) (ev_pos (by omega) ?_)
    rw [rdB_nat]
    refine ev_bind (toByteS _ (hs _ (getD_mem (by omega)))) (ev_pos (by rw [List.length_append, hlen, List.length_replicate]; omega) ?_)
    rw [wr_succ (by omega), Int.toNat_natCast]
    have e := set_fill (l.take i) (l.getD i []) [] n
    rw [hlen, take_getD l [] i (by omega)] at e
    rw [e]
    exact ih (i + 1) (by omega)
theorem toByteSS (l : List (List Int)) (ht : tot l ≤ 10000000000000) : Ev (fun k => laws_toByteSS.f k l) l := by
  have h1 := tot_len l
  have h2 := tsum_le l
  unfold laws_toByteSS.f
  refine ev_pos (by omega) (ev_pos (by omega) ?_)
  have := toByteSS_l0 l (by omega) (fun x hx => by have := tsum_mem hx; omega) l.length 0 (by omega)
  simpa using this
theorem eqByteS_l0 (l : List Int) (hl : l.length ≤ 9223372036854775806) (n : Nat) : ∀ i : Nat, i + n = l.length →
    Ev (fun k => laws_eqByteS.l0 k l l (i : Int)) true := by
  induction n with
  | zero =>
    intro i hi
    refine Ev.step (fun k => laws_eqByteS.l0.eq_2 ..) ?_
    exact ev_neg (by omega) (ev_ret rfl)
  | succ n ih =>
    intro i hi
    refine Ev.step (fun k => laws_eqByteS.l0.eq_2 ..) ?_
    refine ev_pos (by omega) (ev_pos (by omega) (ev_pos (by omega) (ev_pos rfl ?_)))
    rw [wr_succ (by omega)]
    exact ih (i + 1) (by omega)
theorem eqByteS (l : List Int) (hl : l.length ≤ 140737488355328) : Ev (fun k => laws_eqByteS.f k l l) true := by
  unfold laws_eqByteS.f
  exact ev_pos rfl (eqByteS_l0 l (by omega) l.length 0 (by omega))
theorem eqByteSS_l0 (l : List (List Int)) (hl : l.length ≤ 9223372036854775806) (hs : ∀ x ∈ l, x.length ≤ 140737488355328) (n : Nat) : ∀ i : Nat, i + n = l.length →
    Ev (fun k => laws_eqByteSS.l0 k l l (i : Int)) true := by
  induction n with
  | zero =>
    intro i hi
    refine Ev.step (fun k => laws_eqByteSS.l0.eq_2 ..) ?_
    exact ev_neg (by omega) (ev_ret rfl)
  | succ n ih =>
    intro i hi
    refine Ev.step (fun k => laws_eqByteSS.l0.eq_2 ..) ?_
    refine ev_pos (by omega) (ev_pos (by omega) (ev_pos (by omega) ?_))
    rw [rdB_nat]
    refine ev_bind (eqByteS _ (hs _ (getD_mem (by omega)))) (ev_pos rfl ?_)
    rw [wr_succ (by omega)]
    exact ih (i + 1) (by omega)
theorem eqByteSS (l : List (List Int)) (ht : tot l ≤ 10000000000000) : Ev (fun k => laws_eqByteSS.f k l l) true := by
  have h1 := tot_len l
  have h2 := tsum_le l
  unfold laws_eqByteSS.f
  exact ev_pos rfl (eqByteSS_l0 l (by omega) (fun x hx => by have := tsum_mem hx; omega) l.length 0 (by omega))
def marked (a : Int) : Nat → List Int
  | 0 => []
  | n + 1 => (a % 256) :: marked (a + 1) n
theorem marked_length (n : Nat) : ∀ a, (marked a n).length = n := by
  induction n with
  | zero => intro a; rfl
  | succ n ih => intro a; simp [marked, ih]
theorem marked_snoc (n : Nat) : ∀ a, marked a n ++ [(a + n) % 256] = marked a (n + 1) := by
  induction n with
  | zero => intro a; simp [marked]
  | succ n ih =>
    intro a
    have := ih (a + 1)
    simp only [marked, List.cons_append] at this ⊢
    rw [← this]
    congr 3
    omega
theorem marked_getD (n : Nat) : ∀ a i, i < n → (marked a n).getD i 0 = (a + i) % 256 := by
  induction n with
  | zero => intro a i h; omega
  | succ n ih =>
    intro a i h
    cases i with
    | zero => simp [marked]
    | succ i =>
      have := ih (a + 1) i (by omega)
      simp only [marked, List.getD_cons_succ] at this ⊢
      rw [this]
      congr 1
      omega
theorem markByteS_l0 (l : List Int) (a : Int) (h0 : 0 ≤ a) (ha : a + l.length ≤ 4611686018427387904) (n : Nat) : ∀ i : Nat, i + n = l.length →
    Ev (fun k => laws_markByteS.l0 k (marked a i ++ l.drop i) (a + i) (i : Int)) (a + l.length, marked a l.length) := by
  induction n with
  | zero =>
    intro i hi
    refine Ev.step (fun k => laws_markByteS.l0.eq_2 ..) ?_
    refine ev_neg (by rw [List.length_append, marked_length, List.length_drop]; omega) (ev_ret ?_)
    obtain rfl : i = l.length := by omega
    rw [List.drop_length, List.append_nil]
  | succ n ih =>
    intro i hi
    refine Ev.step (fun k => laws_markByteS.l0.eq_2 ..) ?_
    refine ev_pos (by rw [List.length_append, marked_length, List.length_drop]; omega) (ev_pos (by omega) ?_)
    rw [wr_succ (by omega), Int.toNat_natCast, wr (n := a + i + 1) (by omega) (by omega), drop_getD l 0 i (by omega),
      List.set_append_right _ _ (by rw [marked_length]; exact Nat.le_refl _), marked_length, Nat.sub_self, List.set_cons_zero]
    have := ih (i + 1) (by omega)
    rw [← marked_snoc, List.append_assoc] at this
    rw [show a + (i : Int) + 1 = a + ((i + 1 : Nat) : Int) by omega]
    exact this
theorem markByteS (l : List Int) (a : Int) (h0 : 0 ≤ a) (ha : a + l.length ≤ 4611686018427387904) :
    Ev (fun k => laws_markByteS.f k l a) (a + l.length, marked a l.length) := by
  unfold laws_markByteS.f
  have := markByteS_l0 l a h0 ha l.length 0 (by omega)
  simpa [marked] using this
theorem tsum_snoc (l : List (List Int)) (j : Nat) (h : j < l.length) : tsum (l.take (j + 1)) = tsum (l.take j) + (l.getD j []).length := by
  rw [← take_getD l [] j h, tsum_append]
  simp [tsum]
theorem tsum_take (l : List (List Int)) (j : Nat) : tsum (l.take j) ≤ tsum l := by
  have := tsum_append (l.take j) (l.drop j)
  rw [List.take_append_drop] at this
  omega
/-- Rows, marked one after the other. -/
def markedSS (a : Int) : List (List Int) → List (List Int)
  | [] => []
  | x :: l => marked a x.length :: markedSS (a + x.length) l
theorem markedSS_length (l : List (List Int)) : ∀ a, (markedSS a l).length = l.length := by
  induction l with
  | nil => intro a; rfl
  | cons x l ih => intro a; simp [markedSS, ih]
theorem markedSS_append (l m : List (List Int)) : ∀ a, markedSS a (l ++ m) = markedSS a l ++ markedSS (a + tsum l) m := by
  induction l with
  | nil => intro a; simp [markedSS, tsum]
  | cons x l ih =>
    intro a
    simp only [List.cons_append, markedSS, tsum, ih]
    congr 3
    omega
theorem markedSS_step (a : Int) (l : List (List Int)) (j : Nat) (h : j < l.length) : (markedSS a (l.take j) ++ l.drop j).set j (marked (a + tsum (l.take j)) (l.getD j []).length) = markedSS a (l.take (j + 1)) ++ l.drop (j + 1) := by
  have hl : (markedSS a (l.take j)).length = j := by rw [markedSS_length, List.length_take]; omega
  rw [dropB h, ← take_getD l [] j h, markedSS_append, List.set_append_right _ _ (by omega), hl, Nat.sub_self, List.set_cons_zero, List.append_assoc]
  rfl
theorem markedSS_at (a : Int) (l : List (List Int)) (j : Nat) (h : j < l.length) : (markedSS a (l.take j) ++ l.drop j).getD j [] = l.getD j [] := by
  have hl : (markedSS a (l.take j)).length = j := by rw [markedSS_length, List.length_take]; omega
  rw [List.getD_eq_getElem?_getD, List.getElem?_append_right (by omega), hl, Nat.sub_self, dropB h]
  rfl
theorem heldByteS_l0 (a : Int) (m : Nat) (h0 : 0 ≤ a) (ha : a + m ≤ 4611686018427387904) (n : Nat) : ∀ i : Nat, i + n = m →
    Ev (fun k => laws_heldByteS.l0 k (marked a m) (a + i) (i : Int)) (a + m) := by
  induction n with
  | zero =>
    intro i hi
    refine Ev.step (fun k => laws_heldByteS.l0.eq_2 ..) ?_
    refine ev_neg (by rw [marked_length]; omega) (ev_ret ?_)
    omega
  | succ n ih =>
    intro i hi
    refine Ev.step (fun k => laws_heldByteS.l0.eq_2 ..) ?_
    refine ev_pos (by rw [marked_length]; omega) (ev_pos (by omega) (ev_pos (by rw [rd_nat, marked_getD _ _ _ (by omega)]) ?_))
    rw [wr_succ (by omega), wr (n := a + i + 1) (by omega) (by omega), show a + (i : Int) + 1 = a + ((i + 1 : Nat) : Int) by omega]
    exact ih (i + 1) (by omega)
theorem heldByteS (a : Int) (m : Nat) (h0 : 0 ≤ a) (ha : a + m ≤ 4611686018427387904) :
    Ev (fun k => laws_heldByteS.f k (marked a m) a) (a + m) := by
  unfold laws_heldByteS.f
  have := heldByteS_l0 a m h0 ha m 0 (by omega)
  simpa using this
theorem impl_mul_l0 (n : Nat) : ∀ (o x y : Nat), o < 256 → x < 256 → y < 2 ^ n → n ≤ 8 →
    Ev (fun k => impl_GfMul.l0 k (o : Int) (x : Int) (y : Int)) ((Gf.mulAux n x y o : Nat) : Int) := by
  induction n with
  | zero =>
    intro o x y ho hx hy _
    obtain rfl : y = 0 := by omega
    refine Ev.step (fun k => impl_GfMul.l0.eq_2 ..) ?_
    refine ev_neg (by omega) (ev_ret ?_)
    show (o : Int) % 256 = (o : Int)
    omega
  | succ n ih =>
    intro o x y ho hx hy hn
    have hy8 : y < 256 := Nat.lt_of_lt_of_le hy (Nat.pow_le_pow_right (by decide) hn : 2 ^ (n + 1) ≤ 2 ^ 8)
    refine Ev.step (fun k => impl_GfMul.l0.eq_2 ..) ?_
    by_cases h0 : y = 0
    · subst h0
      refine ev_neg (by omega) (ev_ret ?_)
      rw [Gf.mulAux_zero]
      omega
    refine ev_pos (by omega) ?_
    have e0 : Go.bits .and .i64 (y : Int) 1 = ((y % 2 : Nat) : Int) := odd64 (by omega)
    have e1 : wrap64 ((x : Int) * 2) = ((2 * x : Nat) : Int) := by rw [wr (by omega) (by omega)]; omega
    have e2 : Go.bits .xor .i64 (o : Int) (x : Int) = ((o ^^^ x : Nat) : Int) := xor64 (by omega) (by omega)
    have e3 : Go.bits .xor .i64 ((2 * x : Nat) : Int) 285 = (((2 * x) ^^^ 285 : Nat) : Int) := xor64 (b := 285) (by omega) (by omega)
    have e4 : ((y : Int) / 2) = ((y / 2 : Nat) : Int) := by omega
    simp only [e0, e1, e2, e3, e4]
    have hd := Gf.dbl_lt hx
    have hox := Gf.xor_lt ho hx
    have hy2 : y / 2 < 2 ^ n := by rw [Nat.pow_succ] at hy; omega
    simp only [Gf.mulAux]
    by_cases h1 : y % 2 = 1
    · refine ev_pos (by omega) ?_
      rw [if_pos h1]
      by_cases h2 : 2 * x > 255
      · refine ev_pos (by omega) ?_
        have := ih (o ^^^ x) (Gf.dbl x) (y / 2) hox hd hy2 (by omega)
        have e : Gf.dbl x = (2 * x) ^^^ 285 := if_pos h2
        rw [e] at this ⊢
        exact this
      · refine ev_neg (by omega) ?_
        have := ih (o ^^^ x) (Gf.dbl x) (y / 2) hox hd hy2 (by omega)
        have e : Gf.dbl x = 2 * x := if_neg h2
        rw [e] at this ⊢
        exact this
    · refine ev_neg (by omega) ?_
      rw [if_neg h1]
      by_cases h2 : 2 * x > 255
      · refine ev_pos (by omega) ?_
        have := ih o (Gf.dbl x) (y / 2) ho hd hy2 (by omega)
        have e : Gf.dbl x = (2 * x) ^^^ 285 := if_pos h2
        rw [e] at this ⊢
        exact this
      · refine ev_neg (by omega) ?_
        have := ih o (Gf.dbl x) (y / 2) ho hd hy2 (by omega)
        have e : Gf.dbl x = 2 * x := if_neg h2
        rw [e] at this ⊢
        exact this
theorem impl_mul {a b : Nat} (ha : a < 256) (hb : b < 256) : Ev (fun k => impl_GfMul.f k (a : Int) (b : Int)) ((Gf.gm a b : Nat) : Int) := by
  have := impl_mul_l0 8 0 a b (by decide) ha hb (by decide)
  unfold impl_GfMul.f
  rw [wrn (by omega), wrn (by omega)]
  exact this
theorem spec_mul_l0 (b : Nat) (hb : b < 256) (n : Nat) : ∀ (i o x : Nat), i + n = 8 → o < 256 → x < 256 →
    Ev (fun k => spec_GfMul.l0 k (b : Int) (x : Int) (o : Int) (i : Int)) ((Gf.mulAux n x (b / 2 ^ i) o : Nat) : Int) := by
  induction n with
  | zero =>
    intro i o x hi ho hx
    refine Ev.step (fun k => spec_GfMul.l0.eq_2 ..) ?_
    refine ev_neg (by omega) (ev_ret ?_)
    show (o : Int) % 256 = (o : Int)
    omega
  | succ n ih =>
    intro i o x hi ho hx
    refine Ev.step (fun k => spec_GfMul.l0.eq_2 ..) ?_
    refine ev_pos (by omega) (ev_pos (by omega) ?_)
    have e0 : Go.bits .and .i64 (shr .i64 (wrap64 (b : Int)) (i : Int)) 1 = ((b / 2 ^ i % 2 : Nat) : Int) := by
      have : shr .i64 (wrap64 (b : Int)) (i : Int) = ((b / 2 ^ i : Nat) : Int) := by
        unfold shr
        rw [wrn (by omega), Int.toNat_natCast, Nat.min_eq_left (show i ≤ IntKind.i64.bits by show i ≤ 64; omega)]
        simp
      rw [this]
      exact odd64 (Nat.lt_of_le_of_lt (Nat.div_le_self _ _) (by omega))
    have e1 : wrap64 ((x : Int) * 2) = ((2 * x : Nat) : Int) := by rw [wr (by omega) (by omega)]; omega
    have e2 : Go.bits .xor .i64 (o : Int) (x : Int) = ((o ^^^ x : Nat) : Int) := xor64 (by omega) (by omega)
    have e3 : Go.bits .xor .i64 ((2 * x : Nat) : Int) 285 = (((2 * x) ^^^ 285 : Nat) : Int) := xor64 (b := 285) (by omega) (by omega)
    have e4 : wrap64 ((i : Int) + 1) = ((i + 1 : Nat) : Int) := wr_succ (by omega)
    simp only [e0, e1, e2, e3, e4]
    have hd := Gf.dbl_lt hx
    have hox := Gf.xor_lt ho hx
    have e5 : b / 2 ^ i / 2 = b / 2 ^ (i + 1) := by rw [Nat.div_div_eq_div_mul, Nat.pow_succ]
    simp only [Gf.mulAux, e5]
    by_cases h1 : b / 2 ^ i % 2 = 1
    · refine ev_pos (by omega) ?_
      rw [if_pos h1]
      by_cases h2 : 2 * x > 255
      · refine ev_pos (by omega) ?_
        have := ih (i + 1) (o ^^^ x) (Gf.dbl x) (by omega) hox hd
        have e : Gf.dbl x = (2 * x) ^^^ 285 := if_pos h2
        rw [e] at this ⊢
        exact this
      · refine ev_neg (by omega) ?_
        have := ih (i + 1) (o ^^^ x) (Gf.dbl x) (by omega) hox hd
        have e : Gf.dbl x = 2 * x := if_neg h2
        rw [e] at this ⊢
        exact this
    · refine ev_neg (by omega) ?_
      rw [if_neg h1]
      by_cases h2 : 2 * x > 255
      · refine ev_pos (by omega) ?_
        have := ih (i + 1) o (Gf.dbl x) (by omega) ho hd
        have e : Gf.dbl x = (2 * x) ^^^ 285 := if_pos h2
        rw [e] at this ⊢
        exact this
      · refine ev_neg (by omega) ?_
        have := ih (i + 1) o (Gf.dbl x) (by omega) ho hd
        have e : Gf.dbl x = 2 * x := if_neg h2
        rw [e] at this ⊢
        exact this
theorem spec_mul {a b : Nat} (ha : a < 256) (hb : b < 256) : Ev (fun k => spec_GfMul.f k (a : Int) (b : Int)) ((Gf.gm a b : Nat) : Int) := by
  have := spec_mul_l0 b hb 8 0 0 a rfl (by decide) ha
  unfold spec_GfMul.f
  rw [wrn (by omega)]
  simpa [Gf.gm] using this
theorem impl_pow_l0 (n : Nat) : ∀ (m a o : Nat), m < 2 ^ n → n ≤ 62 → a < 256 → o < 256 →
    Ev (fun k => impl_GfPow.l0 k (a : Int) (m : Int) (o : Int)) ((Gf.gm o (Gf.gp a m) : Nat) : Int) := by
  induction n with
  | zero =>
    intro m a o hm _ ha ho
    obtain rfl : m = 0 := by omega
    refine Ev.step (fun k => impl_GfPow.l0.eq_2 ..) ?_
    refine ev_neg (by omega) (ev_ret ?_)
    show (o : Int) = ((Gf.gm o 1 : Nat) : Int)
    rw [Gf.gm_one ho]
  | succ n ih =>
    intro m a o hm hn ha ho
    have hm63 : m < 9223372036854775808 := by
      have : 2 ^ (n + 1) ≤ 2 ^ 63 := Nat.pow_le_pow_right (by decide) (by omega)
      omega
    refine Ev.step (fun k => impl_GfPow.l0.eq_2 ..) ?_
    by_cases h0 : m = 0
    · subst h0
      refine ev_neg (by omega) (ev_ret ?_)
      show (o : Int) = ((Gf.gm o 1 : Nat) : Int)
      rw [Gf.gm_one ho]
    refine ev_pos (by omega) ?_
    have e0 : Go.bits .and .i64 (m : Int) 1 = ((m % 2 : Nat) : Int) := odd64 hm63
    have e4 : ((m : Int) / 2) = ((m / 2 : Nat) : Int) := by omega
    simp only [e0, e4]
    have hm2 : m / 2 < 2 ^ n := by rw [Nat.pow_succ] at hm; omega
    have hs := Gf.gp_sq ha (m / 2)
    by_cases h1 : m % 2 = 1
    · refine ev_pos (by omega) (ev_bind (impl_mul ho ha) (ev_bind (impl_mul ha ha) ?_))
      have := ih (m / 2) (Gf.gm a a) (Gf.gm o a) hm2 (by omega) (Gf.gm_lt _ ha) (Gf.gm_lt _ ho)
      refine ev_eq this ?_
      rw [hs, Gf.gm_assoc ho ha (Gf.gp_lt ha _)]
      congr 2
      have e : 1 + 2 * (m / 2) = m := by omega
      have := Gf.gp_add ha 1 (2 * (m / 2))
      rw [e] at this
      rw [this]
      congr 1
      show a = Gf.gm 1 a
      exact (Gf.one_gm ha).symm
    · refine ev_neg (by omega) (ev_bind (impl_mul ha ha) ?_)
      have := ih (m / 2) (Gf.gm a a) o hm2 (by omega) (Gf.gm_lt _ ha) ho
      refine ev_eq this ?_
      rw [hs, show 2 * (m / 2) = m by omega]
/-- What a power is: 0 below 0, else the product. -/
def powOf (a : Nat) (n : Int) : Nat := if n < 0 then 0 else Gf.gp a n.toNat
theorem powOf_lt {a : Nat} (ha : a < 256) (n : Int) : powOf a n < 256 := by
  unfold powOf; split
  · decide
  · exact Gf.gp_lt ha _
theorem impl_pow {a : Nat} (ha : a < 256) {n : Int} (hn : n ≤ 9223372036854775807) : Ev (fun k => impl_GfPow.f k (a : Int) n) ((powOf a n : Nat) : Int) := by
  unfold impl_GfPow.f powOf
  by_cases h : n < 0
  · rw [if_pos h]
    refine ev_pos h ?_
    refine Ev.step (fun k => impl_GfPow.j0.eq_2 ..) ?_
    exact ev_pos rfl (ev_ret rfl)
  refine ev_neg h ?_
  rw [if_neg h]
  obtain ⟨m, rfl⟩ := Int.eq_ofNat_of_zero_le (by omega : 0 ≤ n)
  rw [Int.toNat_natCast]
  by_cases hm : m = 0
  · subst hm
    refine ev_neg (by omega) ?_
    refine Ev.step (fun k => impl_GfPow.j0.eq_2 ..) ?_
    exact ev_neg (by decide) (ev_pos rfl (ev_ret rfl))
  refine ev_pos (by omega) ?_
  refine Ev.step (fun k => impl_GfPow.j0.eq_2 ..) ?_
  by_cases h0 : a = 0
  · subst h0
    refine ev_pos (by decide) (ev_ret ?_)
    obtain ⟨q, rfl⟩ : ∃ q, m = q + 1 := ⟨m - 1, by omega⟩
    rw [Gf.gp_zero]; rfl
  · refine ev_neg (by simpa using h0) (ev_neg (by omega) ?_)
    have e : Int.tmod (m : Int) 255 = ((m % 255 : Nat) : Int) := by
      rw [Int.tmod_eq_emod_of_nonneg (by omega)]; omega
    rw [e]
    have := impl_pow_l0 8 (m % 255) a 1 (Nat.lt_trans (Nat.mod_lt _ (by decide)) (by decide)) (by decide) ha (by decide)
    refine ev_eq this ?_
    rw [Gf.one_gm (Gf.gp_lt ha _), Gf.gp_mod ha h0]
theorem spec_pow_l0 (a : Nat) (ha : a < 256) (m : Nat) (hm : m ≤ 255) (n : Nat) : ∀ (i : Nat), i + n = m →
    Ev (fun k => spec_GfPow.l0 k (a : Int) (m : Int) ((Gf.gp a i : Nat) : Int) (i : Int)) ((Gf.gp a m : Nat) : Int) := by
  induction n with
  | zero =>
    intro i hi
    obtain rfl : i = m := by omega
    refine Ev.step (fun k => spec_GfPow.l0.eq_2 ..) ?_
    exact ev_neg (by omega) (ev_ret rfl)
  | succ n ih =>
    intro i hi
    refine Ev.step (fun k => spec_GfPow.l0.eq_2 ..) ?_
    refine ev_pos (by omega) (ev_bind (spec_mul (Gf.gp_lt ha i) ha) ?_)
    rw [wr_succ (by omega)]
    exact ih (i + 1) (by omega)
theorem spec_pow {a : Nat} (ha : a < 256) {n : Int} (hn : n ≤ 9223372036854775807) : Ev (fun k => spec_GfPow.f k (a : Int) n) ((powOf a n : Nat) : Int) := by
  unfold spec_GfPow.f powOf
  by_cases h : n < 0
  · rw [if_pos h]
    exact ev_pos h (ev_ret rfl)
  refine ev_neg h ?_
  rw [if_neg h]
  obtain ⟨m, rfl⟩ := Int.eq_ofNat_of_zero_le (by omega : 0 ≤ n)
  rw [Int.toNat_natCast]
  by_cases hm : m = 0
  · subst hm
    exact ev_pos rfl (ev_ret rfl)
  refine ev_neg (by omega) ?_
  by_cases hb : m > 255
  · refine ev_pos (by omega) ?_
    refine Ev.step (fun k => spec_GfPow.j0.eq_2 ..) ?_
    have e : wrap64 (Int.tmod (wrap64 ((m : Int) - 1)) 255 + 1) = (((m - 1) % 255 + 1 : Nat) : Int) := by
      rw [wr (n := (m : Int) - 1) (by omega) (by omega), Int.tmod_eq_emod_of_nonneg (by omega), wr (by omega) (by omega)]
      omega
    rw [e]
    refine ev_eq (spec_pow_l0 a ha ((m - 1) % 255 + 1) (by omega) _ 0 (Nat.zero_add _)) ?_
    by_cases h0 : a = 0
    · subst h0
      obtain ⟨q, rfl⟩ : ∃ q, m = q + 1 := ⟨m - 1, by omega⟩
      rw [Gf.gp_zero, Gf.gp_zero]
    · rw [← Gf.gp_mod ha h0 m, ← Gf.gp_mod ha h0 ((m - 1) % 255 + 1)]
      congr 2
      omega
  · refine ev_neg (by omega) ?_
    refine Ev.step (fun k => spec_GfPow.j0.eq_2 ..) ?_
    exact spec_pow_l0 a ha m (by omega) _ 0 (Nat.zero_add _)
theorem impl_inv {a : Nat} (ha : a < 256) : Ev (fun k => impl_GfInv.f k (a : Int)) (((if a = 0 then 0 else Gf.inv a : Nat) : Int), decide (a ≠ 0)) := by
  unfold impl_GfInv.f
  by_cases h : a = 0
  · subst h
    exact ev_pos rfl (ev_ret rfl)
  · refine ev_neg (by omega) (ev_bind (impl_pow ha (by decide)) (ev_ret ?_))
    rw [if_neg h]
    simp [h, powOf, Gf.inv]
theorem spec_inv {a : Nat} (ha : a < 256) : Ev (fun k => spec_GfInv.f k (a : Int)) (((if a = 0 then 0 else Gf.inv a : Nat) : Int), decide (a ≠ 0)) := by
  unfold spec_GfInv.f
  by_cases h : a = 0
  · subst h
    exact ev_pos rfl (ev_ret rfl)
  · refine ev_neg (by omega) (ev_bind (spec_pow ha (by decide)) (ev_ret ?_))
    rw [if_neg h]
    simp [h, powOf, Gf.inv]
/-- Place by place: x and the product of k and y. -/
def axpy (k : Nat) : List Nat → List Nat → List Nat
  | a :: l, b :: m => (a ^^^ Gf.gm k b) :: axpy k l m
  | _, _ => []
theorem axpy_length (k : Nat) : ∀ (a b : List Nat), a.length = b.length → (axpy k a b).length = a.length := by
  intro a
  induction a with
  | nil => intro b h; rfl
  | cons x l ih =>
    intro b h
    cases b with
    | nil => simp at h
    | cons y m => simp only [axpy, List.length_cons]; rw [ih m (by simpa using h)]
theorem impl_axpy_l0 (c : Nat) (hc : c < 256) (a b : List Nat) (ha : ∀ c ∈ a, c < 256) (hb : ∀ c ∈ b, c < 256) (hl : a.length ≤ 140737488355327) (he : a.length = b.length) (n : Nat) : ∀ (i : Nat) (o : List Nat), i + n = a.length → o.length = i →
    Ev (fun k => impl_GfAxpy.l0 k (c : Int) (I b) (I o) (I a) ((I a).length : Int) (i : Int)) (I (o ++ axpy c (a.drop i) (b.drop i)), true) := by
  induction n with
  | zero =>
    intro i o hi ho
    refine Ev.step (fun k => impl_GfAxpy.l0.eq_2 ..) ?_
    refine ev_neg (by rw [I_length]; omega) (ev_ret ?_)
    rw [List.drop_eq_nil_of_le (by omega : a.length ≤ i)]
    simp [axpy]
  | succ n ih =>
    intro i o hi ho
    refine Ev.step (fun k => impl_GfAxpy.l0.eq_2 ..) ?_
    have hx := getD_lt ha (by decide) i
    have hy := getD_lt hb (by decide) i
    refine ev_pos (by rw [I_length]; omega) (ev_pos (by omega) (ev_pos (by rw [I_length]; omega) (ev_pos (by rw [I_length]; omega) ?_)))
    rw [rd_I, rd_I, wr_succ (by omega)]
    refine ev_bind (impl_mul hc hy) (ev_pos (by rw [I_length]; omega) ?_)
    rw [xor8 hx (Gf.gm_lt _ hc), drop_getD a 0 i (by omega), drop_getD b 0 i (by omega), I_snoc]
    have := ih (i + 1) (o ++ [a.getD i 0 ^^^ Gf.gm c (b.getD i 0)]) (by omega) (by simp [ho])
    rw [List.append_assoc] at this
    exact this
theorem impl_axpy {c : Nat} (hc : c < 256) {a b : List Nat} (ha : ∀ c ∈ a, c < 256) (hb : ∀ c ∈ b, c < 256) (hl : a.length ≤ 140737488355327) :
    Ev (fun k => impl_GfAxpy.f k (I a) (c : Int) (I b)) (if a.length = b.length then (I (axpy c a b), true) else ([], false)) := by
  unfold impl_GfAxpy.f
  by_cases h : a.length = b.length
  · rw [if_pos h]
    refine ev_pos (by rw [I_length, I_length, h]) ?_
    have := impl_axpy_l0 c hc a b ha hb hl h a.length 0 [] (by omega) rfl
    simpa [I_nil] using this
  · rw [if_neg h]
    refine ev_neg (by rw [I_length, I_length]; omega) (ev_ret rfl)
theorem spec_axpy_l0 (c : Nat) (hc : c < 256) (a b : List Nat) (ha : ∀ c ∈ a, c < 256) (hb : ∀ c ∈ b, c < 256) (hl : a.length ≤ 140737488355327) (he : a.length = b.length) (n : Nat) : ∀ (i : Nat) (o : List Nat), i + n = a.length → o.length = i →
    Ev (fun k => spec_GfAxpy.l0 k (I a) (c : Int) (I b) (I o) (i : Int)) (I (o ++ axpy c (a.drop i) (b.drop i)), true) := by
  induction n with
  | zero =>
    intro i o hi ho
    refine Ev.step (fun k => spec_GfAxpy.l0.eq_2 ..) ?_
    refine ev_neg (by rw [I_length]; omega) (ev_ret ?_)
    rw [List.drop_eq_nil_of_le (by omega : a.length ≤ i)]
    simp [axpy]
  | succ n ih =>
    intro i o hi ho
    refine Ev.step (fun k => spec_GfAxpy.l0.eq_2 ..) ?_
    have hx := getD_lt ha (by decide) i
    have hy := getD_lt hb (by decide) i
    refine ev_pos (by rw [I_length]; omega) (ev_pos (by omega) (ev_pos (by rw [I_length]; omega) ?_))
    rw [rd_I, rd_I, wr_succ (by omega)]
    refine ev_bind (spec_mul hc hy) (ev_pos (by rw [I_length]; omega) ?_)
    rw [xor8 hx (Gf.gm_lt _ hc), drop_getD a 0 i (by omega), drop_getD b 0 i (by omega), I_snoc]
    have := ih (i + 1) (o ++ [a.getD i 0 ^^^ Gf.gm c (b.getD i 0)]) (by omega) (by simp [ho])
    rw [List.append_assoc] at this
    exact this
theorem spec_axpy {c : Nat} (hc : c < 256) {a b : List Nat} (ha : ∀ c ∈ a, c < 256) (hb : ∀ c ∈ b, c < 256) (hl : a.length ≤ 140737488355327) :
    Ev (fun k => spec_GfAxpy.f k (I a) (c : Int) (I b)) (if a.length = b.length then (I (axpy c a b), true) else ([], false)) := by
  unfold spec_GfAxpy.f
  refine ev_some ?_
  by_cases h : a.length = b.length
  · rw [if_pos h]
    refine ev_pos (by rw [I_length, I_length, h]) ?_
    have := spec_axpy_l0 c hc a b ha hb hl h a.length 0 [] (by omega) rfl
    simpa [I_nil] using this
  · rw [if_neg h]
    refine ev_neg (by rw [I_length, I_length]; omega) (ev_ret rfl)
/-- Rows of bytes. -/
def IR (M : List (List Nat)) : List (List Int) := M.map I
theorem IR_length (M : List (List Nat)) : (IR M).length = M.length := by simp [IR]
theorem IR_drop (M : List (List Nat)) (i : Nat) : (IR M).drop i = IR (M.drop i) := by simp [IR]
theorem IR_set (M : List (List Nat)) (i : Nat) (r : List Nat) : (IR M).set i (I r) = IR (M.set i r) := by simp [IR]
theorem IR_snoc (M : List (List Nat)) (r : List Nat) : IR M ++ [I r] = IR (M ++ [r]) := by simp [IR]
theorem IR_getD (M : List (List Nat)) (i : Nat) : (IR M).getD i [] = I (M.getD i []) := by
  simp only [IR, List.getD_eq_getElem?_getD, List.getElem?_map]
  cases M[i]? <;> rfl
theorem I_getD (m : List Nat) (i : Nat) : (I m).getD i 0 = ((m.getD i 0 : Nat) : Int) := by rw [← rd_nat, rd_I]
theorem rows_of {l : List (List Int)} (h : ∀ r ∈ l, ∀ x ∈ r, (Lit.int .u8 x).wf = true) : ∃ M : List (List Nat), l = IR M ∧ ∀ r ∈ M, ∀ c ∈ r, c < 256 := by
  induction l with
  | nil => exact ⟨[], rfl, fun r hr => by cases hr⟩
  | cons x l ih =>
    obtain ⟨M, e, hM⟩ := ih fun r hr => h r (List.mem_cons_of_mem _ hr)
    obtain ⟨m, e2, hm⟩ := bytes_of (h x List.mem_cons_self)
    refine ⟨m :: M, by rw [e, e2]; rfl, fun r hr => ?_⟩
    rcases List.mem_cons.1 hr with rfl | hr
    · exact hm
    · exact hM r hr
theorem getR_mem {l : List (List Nat)} {i : Nat} (h : i < l.length) : l.getD i [] ∈ l := by
  rw [List.getD_eq_getElem?_getD, List.getElem?_eq_getElem h]
  exact List.getElem_mem h
/-- Each row but the i-th, less its i-th times the row. -/
def elimN (i : Nat) (row : List Nat) : Nat → List (List Nat) → List (List Nat)
  | _, [] => []
  | j, x :: l => (if j = i then x else axpy (x.getD i 0) x row) :: elimN i row (j + 1) l
/-- The first row from the p-th on whose i-th is not 0. -/
def pivN (i : Nat) : List (List Nat) → Nat → Option Nat
  | [], _ => none
  | x :: l, p => if x.getD i 0 = 0 then pivN i l (p + 1) else some p
/-- The p-th row, scaled so that its i-th is 1. -/
def rowN (i p : Nat) (M : List (List Nat)) : List Nat := (M.getD p []).map fun x => Gf.gm x (if (M.getD p []).getD i 0 = 0 then 0 else Gf.inv ((M.getD p []).getD i 0))
def stepN (i p : Nat) (M : List (List Nat)) : List (List Nat) := elimN i (rowN i p M) 0 ((M.set p (M.getD i [])).set i (rowN i p M))
def solveN (n : Nat) : Nat → List (List Nat) → Option (List (List Nat))
  | 0, M => some M
  | d + 1, M => match pivN (n - (d + 1)) (M.drop (n - (d + 1))) (n - (d + 1)) with
    | none => none
    | some p => solveN n d (stepN (n - (d + 1)) p M)
def lastN (n : Nat) : Option (List (List Nat)) → List Nat × Bool
  | none => ([], false)
  | some M => (M.map fun r => r.getD n 0, true)
/-- Each row, its right side behind it. -/
def aug : List (List Nat) → List Nat → List (List Nat)
  | r :: l, b :: m => (r ++ [b]) :: aug l m
  | _, _ => []
def gsolve (rows : List (List Nat)) (right : List Nat) : List Nat × Bool :=
  if (1 ≤ rows.length ∧ rows.length ≤ 12) ∧ right.length = rows.length ∧ ∀ r ∈ rows, r.length = rows.length then lastN rows.length (solveN rows.length rows.length (aug rows right)) else ([], false)
def MB (m : Nat) (M : List (List Nat)) : Prop := ∀ r ∈ M, r.length = m ∧ ∀ c ∈ r, c < 256
theorem MB.tail {m : Nat} {x : List Nat} {l : List (List Nat)} (h : MB m (x :: l)) : MB m l := fun r hr => h r (List.mem_cons_of_mem _ hr)
theorem MB.at {m : Nat} {M : List (List Nat)} (h : MB m M) {p : Nat} (hp : p < M.length) : (M.getD p []).length = m ∧ ∀ c ∈ M.getD p [], c < 256 := h _ (getR_mem hp)
theorem MB.set {m : Nat} {M : List (List Nat)} (h : MB m M) {p : Nat} {r : List Nat} (hr : r.length = m ∧ ∀ c ∈ r, c < 256) : MB m (M.set p r) := fun x hx => by
  rcases List.mem_or_eq_of_mem_set hx with h1 | h1
  · exact h x h1
  · rw [h1]; exact hr
theorem axpy_lt {c : Nat} (hc : c < 256) : ∀ (a b : List Nat), (∀ x ∈ a, x < 256) → (∀ x ∈ b, x < 256) → ∀ x ∈ axpy c a b, x < 256
  | [], _, _, _ => fun x hx => by cases hx
  | _ :: _, [], _, _ => fun x hx => by cases hx
  | y :: a, z :: b, h1, h2 => fun x hx => by
    rcases List.mem_cons.1 (show x ∈ (y ^^^ Gf.gm c z) :: axpy c a b from hx) with rfl | hx
    · exact Gf.xor_lt (h1 y List.mem_cons_self) (Gf.gm_lt _ hc)
    · exact axpy_lt hc a b (fun q hq => h1 q (List.mem_cons_of_mem _ hq)) (fun q hq => h2 q (List.mem_cons_of_mem _ hq)) x hx
theorem elimN_length (i : Nat) (row : List Nat) : ∀ (M : List (List Nat)) (j : Nat), (elimN i row j M).length = M.length
  | [], _ => rfl
  | x :: l, j => by simp only [elimN, List.length_cons, elimN_length i row l (j + 1)]
theorem elimN_MB {i m : Nat} {row : List Nat} (hr : row.length = m ∧ ∀ c ∈ row, c < 256) : ∀ {M : List (List Nat)} (j : Nat), MB m M → MB m (elimN i row j M)
  | [], _, _ => fun r hr => by cases hr
  | x :: l, j, h => fun r hx => by
    have h1 := h x List.mem_cons_self
    rcases List.mem_cons.1 (show r ∈ (if j = i then x else axpy (x.getD i 0) x row) :: elimN i row (j + 1) l from hx) with rfl | hx
    · split
      · exact h1
      · exact ⟨by rw [axpy_length _ _ _ (by omega)]; exact h1.1, axpy_lt (getD_lt h1.2 (by decide) i) _ _ h1.2 hr.2⟩
    · exact elimN_MB hr (j + 1) h.tail r hx
theorem pivN_some {i : Nat} : ∀ {l : List (List Nat)} {q p : Nat}, pivN i l q = some p → q ≤ p ∧ p < q + l.length ∧ (l.getD (p - q) []).getD i 0 ≠ 0
  | [], _, _, h => by cases h
  | x :: l, q, p, h => by
    unfold pivN at h
    by_cases e : x.getD i 0 = 0
    · rw [if_pos e] at h
      obtain ⟨h1, h2, h3⟩ := pivN_some h
      have e2 : p - q = (p - (q + 1)) + 1 := by omega
      rw [e2, List.length_cons]
      exact ⟨by omega, by omega, h3⟩
    · rw [if_neg e] at h
      cases h
      rw [Nat.sub_self, List.length_cons]
      exact ⟨Nat.le_refl _, by omega, e⟩
theorem inv1_lt {a : Nat} (ha : a < 256) : (if a = 0 then 0 else Gf.inv a) < 256 := by
  split
  · decide
  · exact Gf.inv_lt ha
theorem rowN_ok {i p m : Nat} {M : List (List Nat)} (hp : p < M.length) (h : MB m M) : (rowN i p M).length = m ∧ ∀ c ∈ rowN i p M, c < 256 := by
  have h1 := h.at hp
  refine ⟨by unfold rowN; rw [List.length_map]; exact h1.1, fun c hc => ?_⟩
  unfold rowN at hc
  obtain ⟨x, hx, rfl⟩ := List.mem_map.1 hc
  exact Gf.gm_lt _ (h1.2 x hx)
theorem stepN_length {i p : Nat} {M : List (List Nat)} : (stepN i p M).length = M.length := by unfold stepN; rw [elimN_length, List.length_set, List.length_set]
theorem stepN_MB {i p m : Nat} {M : List (List Nat)} (hi : i < M.length) (hp : p < M.length) (h : MB m M) : MB m (stepN i p M) :=
  elimN_MB (rowN_ok hp h) 0 ((h.set (h.at hi)).set (rowN_ok hp h))
theorem solveN_ok {n m : Nat} : ∀ {d : Nat} {M R : List (List Nat)}, d ≤ n → M.length = n → MB m M → solveN n d M = some R → R.length = n ∧ MB m R
  | 0, M, R, _, hl, hM, h => by cases h; exact ⟨hl, hM⟩
  | d + 1, M, R, hd, hl, hM, h => by
    unfold solveN at h
    cases hp : pivN (n - (d + 1)) (M.drop (n - (d + 1))) (n - (d + 1)) with
    | none => rw [hp] at h; cases h
    | some p =>
      rw [hp] at h
      have h1 := pivN_some hp
      rw [List.length_drop] at h1
      exact solveN_ok (by omega) (by rw [stepN_length]; exact hl) (stepN_MB (by omega) (by omega) hM) h
theorem piv_eq (i : Nat) : ∀ (M : List (List Nat)) (p : Nat), Mat.pivF i (IR M) p = pivN i M p
  | [], _ => rfl
  | x :: l, p => by
    show (if (I x).getD i 0 = 0 then Mat.pivF i (IR l) (p + 1) else some p) = if x.getD i 0 = 0 then pivN i l (p + 1) else some p
    rw [I_getD, piv_eq i l (p + 1)]
    by_cases e : x.getD i 0 = 0
    · rw [if_pos e, if_pos (by omega)]
    · rw [if_neg e, if_neg (by omega)]
/-- What both programs answer. -/
def finN (n : Nat) (M : List (List Nat)) : List Int × Bool := (I (lastN n (solveN n n M)).1, (lastN n (solveN n n M)).2)
section
variable {mul : Nat → Int → Int → Option Int} {inv : Nat → Int → Option (Int × Bool)} {ax : Nat → List Int → Int → List Int → Option (List Int × Bool)}
theorem ev_scale (hm : ∀ a b : Nat, a < 256 → b < 256 → Ev (fun k => mul k (a : Int) (b : Int)) ((Gf.gm a b : Nat) : Int)) {c : Nat} (hc : c < 256) (l : List Nat) (hl : ∀ x ∈ l, x < 256) :
    Ev (fun k => Mat.scaleF (mul k) (c : Int) (I l)) (I (l.map fun x => Gf.gm x c)) := by
  induction l with
  | nil => exact ev_ret rfl
  | cons x l ih =>
    show Ev (fun k => (mul k (x : Int) (c : Int)).bind fun y => (Mat.scaleF (mul k) (c : Int) (I l)).bind fun r => some (y :: r)) _
    exact ev_bind (hm x c (hl x List.mem_cons_self) hc) (ev_bind (ih fun y hy => hl y (List.mem_cons_of_mem _ hy)) (ev_ret rfl))
theorem ev_elim (hx : ∀ (c : Nat) (a b : List Nat), c < 256 → (∀ x ∈ a, x < 256) → (∀ x ∈ b, x < 256) → a.length ≤ 140737488355327 → Ev (fun k => ax k (I a) (c : Int) (I b)) (if a.length = b.length then (I (axpy c a b), true) else ([], false)))
    {i m : Nat} (hmm : m ≤ 1000) {row : List Nat} (hr : row.length = m ∧ ∀ c ∈ row, c < 256) (M : List (List Nat)) (hM : MB m M) : ∀ j, Ev (fun k => Mat.elimF (ax k) i (I row) j (IR M)) (IR (elimN i row j M)) := by
  induction M with
  | nil => intro j; exact ev_ret rfl
  | cons x l ih =>
    intro j
    obtain ⟨h1, h2⟩ := hM x List.mem_cons_self
    have hrest := ih hM.tail (j + 1)
    have key : Ev (fun k => if j = i then some (I x) else (ax k (I x) ((I x).getD i 0) (I row)).bind fun r => if r.1.length = (I row).length then some r.1 else none) (I (if j = i then x else axpy (x.getD i 0) x row)) := by
      by_cases h : j = i
      · rw [if_pos h]
        exact ev_pos h (ev_ret rfl)
      · rw [if_neg h, I_getD]
        have := hx (x.getD i 0) x row (getD_lt h2 (by decide) i) h2 hr.2 (by omega)
        rw [if_pos (by omega)] at this
        refine ev_neg h (ev_bind this (ev_pos ?_ (ev_ret rfl)))
        show (I (axpy _ _ _)).length = (I row).length
        rw [I_length, I_length, axpy_length _ _ _ (by omega)]
        omega
    show Ev (fun k => (if j = i then some (I x) else (ax k (I x) ((I x).getD i 0) (I row)).bind fun r => if r.1.length = (I row).length then some r.1 else none).bind fun y => (Mat.elimF (ax k) i (I row) (j + 1) (IR l)).bind fun r => some (y :: r)) _
    exact ev_bind key (ev_bind hrest (ev_ret rfl))
theorem ev_solve (hm : ∀ a b : Nat, a < 256 → b < 256 → Ev (fun k => mul k (a : Int) (b : Int)) ((Gf.gm a b : Nat) : Int))
    (hi : ∀ a : Nat, a < 256 → Ev (fun k => inv k (a : Int)) (((if a = 0 then 0 else Gf.inv a : Nat) : Int), decide (a ≠ 0)))
    (hx : ∀ (c : Nat) (a b : List Nat), c < 256 → (∀ x ∈ a, x < 256) → (∀ x ∈ b, x < 256) → a.length ≤ 140737488355327 → Ev (fun k => ax k (I a) (c : Int) (I b)) (if a.length = b.length then (I (axpy c a b), true) else ([], false)))
    {n m : Nat} (hmm : m ≤ 1000) : ∀ (d : Nat) (M : List (List Nat)), d ≤ n → M.length = n → MB m M →
    Ev (fun k => Mat.solveF (mul k) (inv k) (ax k) n d (IR M)) ((solveN n d M).map IR) := by
  intro d
  induction d with
  | zero => intro M _ _ _; exact ev_ret rfl
  | succ d ih =>
    intro M hd hl hM
    unfold Mat.solveF solveN
    simp only [IR_drop, piv_eq]
    cases hp : pivN (n - (d + 1)) (M.drop (n - (d + 1))) (n - (d + 1)) with
    | none => exact ev_ret rfl
    | some p =>
      obtain ⟨h1, h2, _⟩ := pivN_some hp
      rw [List.length_drop] at h2
      generalize n - (d + 1) = i at h1 h2 hp ⊢
      have hi2 : i < M.length := by omega
      have hp2 : p < M.length := by omega
      obtain ⟨r1, r2⟩ := hM.at hp2
      have ha := getD_lt r2 (by decide : 0 < 256) i
      have e1 := ev_scale hm (inv1_lt ha) (M.getD p []) r2
      have e2 := ev_elim hx hmm (rowN_ok (i := i) hp2 hM) _ ((hM.set (p := p) (hM.at hi2)).set (p := i) (rowN_ok (i := i) hp2 hM)) 0 (i := i)
      have e3 := ih (stepN i p M) (by omega) (by rw [stepN_length]; exact hl) (stepN_MB hi2 hp2 hM)
      simp only [IR_getD, I_getD]
      refine ev_bind (hi _ ha) (ev_bind e1 ?_)
      rw [IR_set, show I ((M.getD p []).map fun x => Gf.gm x (if (M.getD p []).getD i 0 = 0 then 0 else Gf.inv ((M.getD p []).getD i 0))) = I (rowN i p M) from rfl, IR_set]
      exact ev_bind e2 e3
theorem ev_tail (hm : ∀ a b : Nat, a < 256 → b < 256 → Ev (fun k => mul k (a : Int) (b : Int)) ((Gf.gm a b : Nat) : Int))
    (hi : ∀ a : Nat, a < 256 → Ev (fun k => inv k (a : Int)) (((if a = 0 then 0 else Gf.inv a : Nat) : Int), decide (a ≠ 0)))
    (hx : ∀ (c : Nat) (a b : List Nat), c < 256 → (∀ x ∈ a, x < 256) → (∀ x ∈ b, x < 256) → a.length ≤ 140737488355327 → Ev (fun k => ax k (I a) (c : Int) (I b)) (if a.length = b.length then (I (axpy c a b), true) else ([], false)))
    {n : Nat} (h1 : 1 ≤ n) (h2 : n ≤ 12) {M : List (List Nat)} (hl : M.length = n) (hM : MB (n + 1) M) :
    Ev (fun k => Mat.tailF (mul k) (inv k) (ax k) (n : Int) (IR M)) (finN n M) := by
  unfold Mat.tailF
  refine ev_pos ⟨by omega, by rw [IR_length]; omega, fun r hr => ?_⟩ ?_
  · obtain ⟨x, hx, rfl⟩ := List.mem_map.1 hr
    rw [I_length, (hM x hx).1]
    omega
  · rw [Int.toNat_natCast]
    obtain ⟨K, hK⟩ := ev_solve hm hi hx (n := n) (m := n + 1) (by omega) n M (Nat.le_refl _) hl hM
    refine ⟨K, fun k hk => ?_⟩
    show (Mat.solveF (mul k) (inv k) (ax k) n n (IR M)).map (Mat.lastF n) = _
    rw [show Mat.solveF (mul k) (inv k) (ax k) n n (IR M) = _ from hK k hk]
    unfold finN
    cases solveN n n M with
    | none => rfl
    | some R =>
      show some ((IR R).map (fun r => r.getD n 0), true) = some (I (R.map fun r => r.getD n 0), true)
      unfold IR I
      rw [List.map_map, List.map_map]
      refine congrArg (fun q => some (q, true)) (List.map_congr_left fun r _ => ?_)
      exact I_getD r n
end
theorem aug_length : ∀ (a : List (List Nat)) (b : List Nat), a.length = b.length → (aug a b).length = a.length
  | [], _, _ => rfl
  | _ :: _, [], h => by simp at h
  | x :: a, y :: b, h => by simp only [aug, List.length_cons]; rw [aug_length a b (by simpa using h)]
theorem aug_MB {n : Nat} : ∀ (a : List (List Nat)) (b : List Nat), (∀ r ∈ a, r.length = n ∧ ∀ c ∈ r, c < 256) → (∀ c ∈ b, c < 256) → MB (n + 1) (aug a b)
  | [], _, _, _ => fun r hr => by cases hr
  | _ :: _, [], _, _ => fun r hr => by cases hr
  | x :: a, y :: b, h, k => fun r hr => by
    rcases List.mem_cons.1 (show r ∈ (x ++ [y]) :: aug a b from hr) with rfl | hr
    · obtain ⟨h1, h2⟩ := h x List.mem_cons_self
      refine ⟨by rw [List.length_append, h1]; rfl, fun c hc => ?_⟩
      rcases List.mem_append.1 hc with hc | hc
      · exact h2 c hc
      · rw [List.mem_singleton.1 hc]; exact k y List.mem_cons_self
    · exact aug_MB a b (fun r hr => h r (List.mem_cons_of_mem _ hr)) (fun c hc => k c (List.mem_cons_of_mem _ hc)) r hr
theorem MB.append {m : Nat} {a b : List (List Nat)} (h : MB m a) (k : MB m b) : MB m (a ++ b) := fun r hr => by
  rcases List.mem_append.1 hr with hr | hr
  · exact h r hr
  · exact k r hr
theorem spec_build (rows : List (List Nat)) (right : List Nat) (n : Nat) (h1 : 1 ≤ n) (h2 : n ≤ 12) (hr : rows.length = n) (hb : right.length = n) (hR : ∀ r ∈ rows, ∀ c ∈ r, c < 256) (hB : ∀ c ∈ right, c < 256) (d : Nat) :
    ∀ (i : Nat) (o : List (List Nat)), i + d = n → o.length = i → MB (n + 1) o →
    Ev (fun k => spec_GfSolve.l0 k (IR rows) (I right) (n : Int) (IR o) (i : Int)) (if ∀ r ∈ rows.drop i, r.length = n then finN n (o ++ aug (rows.drop i) (right.drop i)) else ([], false)) := by
  induction d with
  | zero =>
    intro i o hi ho hM
    rw [List.drop_eq_nil_of_le (by omega : rows.length ≤ i), if_pos (fun r hr => by cases hr)]
    refine Ev.step (fun k => spec_GfSolve.l0.eq_2 ..) (ev_neg (by omega) ?_)
    rw [show aug [] (right.drop i) = [] from rfl, List.append_nil]
    exact ev_tail (fun a b ha hb => spec_mul ha hb) (fun a ha => spec_inv ha) (fun c a b hc ha hb hl => spec_axpy hc ha hb hl) h1 h2 (by omega) hM
  | succ d ih =>
    intro i o hi ho hM
    have hmem : rows.getD i [] ∈ rows := getR_mem (by omega)
    refine Ev.step (fun k => spec_GfSolve.l0.eq_2 ..) (ev_pos (by omega) (ev_pos (by omega) (ev_pos (by rw [IR_length]; omega) ?_)))
    rw [rdB_nat, IR_getD, drop_getD rows [] i (by omega)]
    by_cases hl : (rows.getD i []).length = n
    · refine ev_pos (by rw [I_length]; omega) (ev_pure (a := I (rows.getD i [])) ?_ (ev_pos (by rw [I_length]; omega) (ev_some (ev_pos (by rw [I_length]; simp only [List.length_cons, List.length_nil]; omega) (ev_some (ev_pos (by rw [IR_length]; simp only [List.length_cons, List.length_nil]; omega) ?_))))))
      · unfold spec_l1Bytes.f
        rw [Option.bind_some, if_pos (by rw [I_length]; simp only [List.length_nil]; omega), List.nil_append]
      · rw [rd_I, I_snoc, IR_snoc, wr_succ (by omega)]
        have := ih (i + 1) (o ++ [rows.getD i [] ++ [right.getD i 0]]) (by omega) (by rw [List.length_append, ho]; rfl) (hM.append (fun r hr => by
          rw [List.mem_singleton.1 hr]
          refine ⟨by rw [List.length_append, hl]; rfl, fun c hc => ?_⟩
          rcases List.mem_append.1 hc with hc | hc
          · exact hR _ hmem c hc
          · rw [List.mem_singleton.1 hc]; exact getD_lt hB (by decide) i))
        rw [drop_getD right 0 i (by omega)]
        refine ev_eq this ?_
        by_cases h : ∀ r ∈ rows.drop (i + 1), r.length = n
        · rw [if_pos h, if_pos (fun r hr => by rcases List.mem_cons.1 hr with rfl | hr; · exact hl
                                               · exact h r hr), List.append_assoc]
          rfl
        · rw [if_neg h, if_neg (fun k => h fun r hr => k r (List.mem_cons_of_mem _ hr))]
    · rw [if_neg (fun k => hl (k _ List.mem_cons_self))]
      exact ev_neg (by rw [I_length]; omega) (ev_ret rfl)
theorem impl_build (rows : List (List Nat)) (right : List Nat) (n : Nat) (h1 : 1 ≤ n) (h2 : n ≤ 12) (hr : rows.length = n) (hb : right.length = n) (hR : ∀ r ∈ rows, r.length = n ∧ ∀ c ∈ r, c < 256) (hB : ∀ c ∈ right, c < 256) (d : Nat) :
    ∀ (i : Nat) (o : List (List Nat)), i + d = n → o.length = i → MB (n + 1) o →
    Ev (fun k => impl_GfSolve.l0 k (I right) (IR o) (IR rows) (n : Int) (i : Int)) (finN n (o ++ aug (rows.drop i) (right.drop i))) := by
  induction d with
  | zero =>
    intro i o hi ho hM
    rw [List.drop_eq_nil_of_le (by omega : rows.length ≤ i)]
    refine Ev.step (fun k => impl_GfSolve.l0.eq_2 ..) (ev_neg (by omega) ?_)
    rw [show aug [] (right.drop i) = [] from rfl, List.append_nil]
    exact ev_tail (fun a b ha hb => impl_mul ha hb) (fun a ha => impl_inv ha) (fun c a b hc ha hb hl => impl_axpy hc ha hb hl) h1 h2 (by omega) hM
  | succ d ih =>
    intro i o hi ho hM
    have hmem : rows.getD i [] ∈ rows := getR_mem (by omega)
    have hl := (hR _ hmem).1
    refine Ev.step (fun k => impl_GfSolve.l0.eq_2 ..) (ev_pos (by omega) (ev_pos (by omega) (ev_pos (by rw [IR_length]; omega) ?_)))
    rw [rdB_nat, IR_getD, drop_getD rows [] i (by omega)]
    refine ev_pure (a := I (rows.getD i [])) ?_ (ev_pos (by rw [I_length]; omega) (ev_some (ev_pos (by rw [I_length]; simp only [List.length_cons, List.length_nil]; omega) (ev_some (ev_pos (by rw [IR_length]; simp only [List.length_cons, List.length_nil]; omega) ?_)))))
    · unfold slices_Clone_byte_byte.f
      rw [if_pos (by rw [I_length]; omega)]
    · rw [rd_I, I_snoc, IR_snoc, wr_succ (by omega)]
      have := ih (i + 1) (o ++ [rows.getD i [] ++ [right.getD i 0]]) (by omega) (by rw [List.length_append, ho]; rfl) (hM.append (fun r hr => by
        rw [List.mem_singleton.1 hr]
        refine ⟨by rw [List.length_append, hl]; rfl, fun c hc => ?_⟩
        rcases List.mem_append.1 hc with hc | hc
        · exact (hR _ hmem).2 c hc
        · rw [List.mem_singleton.1 hc]; exact getD_lt hB (by decide) i))
      rw [drop_getD right 0 i (by omega)]
      refine ev_eq this ?_
      rw [List.append_assoc]
      rfl
theorem spec_solve {rows : List (List Nat)} {right : List Nat} (hR : ∀ r ∈ rows, ∀ c ∈ r, c < 256) (hB : ∀ c ∈ right, c < 256) : Ev (fun k => spec_GfSolve.f k (IR rows) (I right)) (I (gsolve rows right).1, (gsolve rows right).2) := by
  unfold spec_GfSolve.f
  refine ev_pure (a := decide (1 ≤ rows.length ∧ rows.length ≤ 12)) (by
    unfold spec_l1In.f
    rw [IR_length]
    by_cases h : (rows.length : Int) ≥ 1
    · rw [if_pos h]; congr 1; apply decide_eq_decide.mpr; omega
    · rw [if_neg h]; congr 1; symm; apply decide_eq_false; omega) ?_
  unfold gsolve
  by_cases h : 1 ≤ rows.length ∧ rows.length ≤ 12
  · refine ev_pos (decide_eq_true h) (Ev.step (fun k => spec_GfSolve.j0.eq_2 ..) ?_)
    rw [IR_length, I_length]
    by_cases hb : right.length = rows.length
    · refine ev_neg (by rw [hb]; simp) ?_
      have := spec_build rows right rows.length h.1 h.2 rfl hb hR hB rows.length 0 [] (by omega) rfl (fun r hr => by cases hr)
      refine ev_eq this ?_
      rw [List.drop_zero, List.drop_zero, List.nil_append]
      by_cases hl : ∀ r ∈ rows, r.length = rows.length
      · rw [if_pos hl, if_pos ⟨h, hb, hl⟩]; rfl
      · rw [if_neg hl, if_neg (fun k => hl k.2.2)]; rfl
    · rw [if_neg (fun k => hb k.2.1)]
      exact ev_pos (bne_iff_ne.mpr (by omega)) (ev_ret rfl)
  · rw [if_neg (fun k => h k.1)]
    exact ev_neg (by simpa using h) (Ev.step (fun k => spec_GfSolve.j0.eq_2 ..) (ev_pos rfl (ev_ret rfl)))
theorem impl_solve {rows : List (List Nat)} {right : List Nat} (hR : ∀ r ∈ rows, ∀ c ∈ r, c < 256) (hB : ∀ c ∈ right, c < 256) : Ev (fun k => impl_GfSolve.f k (IR rows) (I right)) (I (gsolve rows right).1, (gsolve rows right).2) := by
  unfold impl_GfSolve.f
  have hall : ((IR rows).all fun b => !(b.length != (IR rows).length)) = true ↔ ∀ r ∈ rows, r.length = rows.length := by
    rw [List.all_eq_true, IR_length]
    constructor
    · intro h r hr
      have := h (I r) (List.mem_map.2 ⟨r, hr, rfl⟩)
      rw [I_length] at this
      simpa using this
    · intro h x hx
      obtain ⟨r, hr, rfl⟩ := List.mem_map.1 hx
      rw [I_length, h r hr]
      simp
  unfold gsolve
  by_cases hl : ∀ r ∈ rows, r.length = rows.length
  · refine ev_pos (hall.2 hl) ?_
    unfold impl_GfSolve.f0
    refine ev_pure (a := decide (1 ≤ rows.length ∧ rows.length ≤ 12)) (by
      unfold impl_in.f
      rw [IR_length]
      by_cases h : (rows.length : Int) ≥ 1
      · rw [if_pos h]; congr 1; apply decide_eq_decide.mpr; omega
      · rw [if_neg h]; congr 1; symm; apply decide_eq_false; omega) ?_
    by_cases h : 1 ≤ rows.length ∧ rows.length ≤ 12
    · refine ev_pos (decide_eq_true h) (Ev.step (fun k => impl_GfSolve.j0.eq_2 ..) ?_)
      rw [IR_length, I_length]
      by_cases hb : right.length = rows.length
      · refine ev_neg (by rw [hb]; simp) ?_
        have := impl_build rows right rows.length h.1 h.2 rfl hb (fun r hr => ⟨hl r hr, hR r hr⟩) hB rows.length 0 [] (by omega) rfl (fun r hr => by cases hr)
        refine ev_eq this ?_
        rw [List.drop_zero, List.drop_zero, List.nil_append, if_pos ⟨h, hb, hl⟩]
        rfl
      · rw [if_neg (fun k => hb k.2.1)]
        exact ev_pos (bne_iff_ne.mpr (by omega)) (ev_ret rfl)
    · rw [if_neg (fun k => h k.1)]
      exact ev_neg (by simpa using h) (Ev.step (fun k => impl_GfSolve.j0.eq_2 ..) (ev_pos rfl (ev_ret rfl)))
  · rw [if_neg (fun k => hl k.2.2)]
    exact ev_neg (fun k => hl (hall.1 k)) (ev_ret rfl)
theorem gsolve_le (rows : List (List Nat)) (right : List Nat) (hR : ∀ r ∈ rows, ∀ c ∈ r, c < 256) (hB : ∀ c ∈ right, c < 256) : (gsolve rows right).1.length ≤ 12 := by
  unfold gsolve
  split
  · rename_i h
    cases hs : solveN rows.length rows.length (aug rows right) with
    | none => exact Nat.zero_le _
    | some R =>
      have := (solveN_ok (m := rows.length + 1) (Nat.le_refl _) (aug_length rows right h.2.1.symm) (aug_MB rows right (fun r hr => ⟨h.2.2 r hr, hR r hr⟩) hB) hs).1
      show (R.map _).length ≤ 12
      rw [List.length_map, this]
      exact h.1.2
  · exact Nat.zero_le _
theorem FnExactGfSolve (x : List (List Int)) (y : List Int) (hx : x.length ≤ maxLen ∧ ∀ v0 ∈ x, (v0.length ≤ maxLen ∧ ∀ v1 ∈ v0, (Lit.int .u8 v1).wf = true)) (hy : y.length ≤ maxLen ∧ ∀ v0 ∈ y, (Lit.int .u8 v0).wf = true) (_ : y.length ≤ 1048576) (_ : tot x ≤ 1048576) :
    ∃ (r1 : List Int) (r2 : Bool), (∃ k, spec_GfSolve.f k x y = some (r1, r2)) ∧ (∃ k, impl_GfSolve.f k x y = some (r1, r2)) ∧ r1.length ≤ 1000000000000 := by
  obtain ⟨a, rfl, ha⟩ := rows_of fun r hr => (hx.2 r hr).2
  obtain ⟨b, rfl, hb⟩ := bytes_of hy.2
  exact ⟨_, _, (spec_solve ha hb).rounds, (impl_solve ha hb).rounds, by have := gsolve_le a b ha hb; rw [I_length]; omega⟩

end Go.Proofs.Ythaoloacbbohlaa.Pure
