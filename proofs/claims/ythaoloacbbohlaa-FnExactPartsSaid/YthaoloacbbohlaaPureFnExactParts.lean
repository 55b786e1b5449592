/- Parts answers as the reference's Parts, at all lists of texts (of at most 2^20 bytes and texts together), in memory of its own, and leaves the list as it was. -/
import Derived.Test.YthaoloacbbohlaaPFnExactPartsx
import Derived.Test.YthaoloacbbohlaaKit
namespace Go.Proofs.Ythaoloacbbohlaa.Pure
open Go.RowKit Go.Proofs.Ythaoloacbbohlaa Go.Proofs.Ythaoloacbbohlaa.PFnExactParts Go.Proofs.YthaoloacbbohlaaW.PrintWords Go.Proofs.YthaoloacbbohlaaW.PrintLast Go.Proofs.YthaoloacbbohlaaW.PrintMore Go.Proofs.Ythaoloacbbohlaa.K
set_option linter.unusedVariables false

/-- What is left of a behind a taking of t; -1: t was too much. -/
def left (a : Int) (t : Nat) : Int := if a - (t : Int) < 0 then -1 else a - (t : Int)
theorem left_ok {a : Int} {t : Nat} (h : ¬ left a t < 0) : left a t = a - (t : Int) := by
  unfold left at h ⊢
  split
  · rename_i h2
    rw [if_pos h2] at h
    omega
  · rfl
theorem left_neg {a : Int} {t : Nat} (h : a - (t : Int) < 0) : left a t = -1 := if_pos h
theorem left_pos {a : Int} {t : Nat} (h : ¬ a - (t : Int) < 0) : left a t = a - (t : Int) := if_neg h
theorem len_max {n : Nat} (h : n ≤ maxLen) : n ≤ 9223372036854775807 := by unfold maxLen at h; omega
/-- The bytes of all texts together. -/
def tsum : List (List Int) → Nat
  | [] => 0
  | x :: l => x.length + tsum l
/-- .. and the texts. -/
def tot (l : List (List Int)) : Nat := l.length + tsum l
theorem tsum_le (l : List (List Int)) : tsum l ≤ tot l := Nat.le_add_left _ _
theorem tot_len (l : List (List Int)) : l.length ≤ tot l := Nat.le_add_right _ _
theorem tsum_mem {l : List (List Int)} {x : List Int} (h : x ∈ l) : x.length ≤ tsum l := by
  induction l with
  | nil => cases h
  | cons y l ih =>
    rcases List.mem_cons.1 h with rfl | h
    · unfold tsum; omega
    · have := ih h; unfold tsum; omega
theorem tsum_append (l m : List (List Int)) : tsum (l ++ m) = tsum l + tsum m := by
  induction l with
  | nil => simp [tsum]
  | cons x l ih => simp only [List.cons_append, tsum, ih]; omega
theorem rdB_nat (l : List (List Int)) (i : Nat) : rd_L1 l (i : Int) = l.getD i [] := by unfold rd_L1; rw [Int.toNat_natCast]
theorem getD_mem {l : List (List Int)} {i : Nat} (h : i < l.length) : l.getD i [] ∈ l := by
  rw [List.getD_eq_getElem?_getD, List.getElem?_eq_getElem h]
  exact List.getElem_mem h
theorem dropB {l : List (List Int)} {i : Nat} (h : i < l.length) : l.drop i = l.getD i [] :: l.drop (i + 1) := drop_getD l [] i h
theorem szByteS (l : List Int) (a : Int) (h0 : 0 ≤ a) (ha : a ≤ 1048576) (hl : l.length ≤ maxLen) : laws_szByteS.f l a = some (left a l.length) := by
  have hm := len_max hl
  unfold laws_szByteS.f
  rw [wr (n := a - (l.length : Int)) (by omega) (by omega)]
  by_cases h : a - (l.length : Int) < 0
  · rw [if_pos h, left_neg h]
  · rw [if_neg h, left_pos h]
theorem szByteSS_l0 (l : List (List Int)) (hl : l.length ≤ 1048576) (hs : ∀ v ∈ l, v.length ≤ maxLen) (n : Nat) : ∀ (i : Nat) (a : Int), i + n = l.length → 0 ≤ a → a ≤ 1048576 → Ev (fun k => laws_szByteSS.l0 k l a (i : Int)) (left a (tsum (l.drop i))) := by
  induction n with
  | zero =>
    intro i a hi h0 ha
    refine Ev.step (fun k => laws_szByteSS.l0.eq_2 ..) (ev_neg (by omega) (ev_ret ?_))
    rw [List.drop_eq_nil_of_le (by omega)]
    unfold left tsum
    rw [if_neg (by omega)]
    omega
  | succ n ih =>
    intro i a hi h0 ha
    have hlt : i < l.length := by omega
    refine Ev.step (fun k => laws_szByteSS.l0.eq_2 ..) (ev_pos (by omega) (ev_pos (by omega) ?_))
    rw [rdB_nat, dropB hlt]
    have hx := hs _ (getD_mem hlt)
    refine ev_pure (szByteS _ a h0 ha hx) ?_
    generalize l.getD i [] = x at hx
    by_cases h : a - (x.length : Int) < 0
    · rw [left_neg h]
      refine ev_pos (by decide) (ev_ret ?_)
      rw [left_neg]
      simp only [tsum]
      omega
    · rw [left_pos h, wr_succ (by omega)]
      refine ev_neg h (ev_eq (ih (i + 1) _ (by omega) (by omega) (by omega)) ?_)
      simp only [tsum]
      unfold left
      split <;> split <;> omega
theorem szByteSS (l : List (List Int)) (a : Int) (h0 : 0 ≤ a) (ha : a ≤ 1048576) (hl : l.length ≤ maxLen) (hs : ∀ v ∈ l, v.length ≤ maxLen) : Ev (fun k => laws_szByteSS.f k l a) (left a (tot l)) := by
  have hm := len_max hl
  unfold laws_szByteSS.f
  rw [wr (n := a - (l.length : Int)) (by omega) (by omega)]
  by_cases h : a - (l.length : Int) < 0
  · refine ev_pos h (ev_ret ?_)
    have := tot_len l
    rw [left_neg (by omega)]
  · refine ev_neg h (ev_eq (szByteSS_l0 l (by omega) hs l.length 0 _ (by omega) (by omega) (by omega)) ?_)
    rw [List.drop_zero]
    unfold left tot
    split <;> split <;> omega
theorem toByteS_l0 (l : List Int) (hl : l.length ≤ 9223372036854775806) (n : Nat) : ∀ i : Nat, i + n = l.length →
    Ev (fun k => laws_toByteS.l0 k l (l.take i ++ List.replicate n 0) (i : Int)) l := by
  induction n with
  | zero =>
    intro i hi
    refine Ev.step (fun k => laws_toByteS.l0.eq_2 ..) ?_
    refine ev_neg (by omega) (ev_ret ?_)
    rw [List.replicate_zero, List.append_nil, List.take_of_length_le (by omega)]
  | succ n ih =>
    intro i hi
    refine Ev.step (fun k => laws_toByteS.l0.eq_2 ..) ?_
    have hlen : (l.take i).length = i := by rw [List.length_take]; omega
    refine ev_pos (by omega) (ev_pos (by omega) (ev_pos (by rw [List.length_append, hlen, List.length_replicate]; omega) ?_))
    rw [wr_succ (by omega), rd_nat, Int.toNat_natCast]
    have e := set_fill (l.take i) (l.getD i 0) 0 n
    rw [hlen, take_getD l 0 i (by omega)] at e
    rw [e]
    exact ih (i + 1) (by omega)
theorem toByteS (l : List Int) (hl : l.length ≤ 140737488355328) : Ev (fun k => laws_toByteS.f k l) l := by
  unfold laws_toByteS.f
  refine ev_pos (by omega) (ev_pos (by omega) ?_)
  have := toByteS_l0 l (by omega) l.length 0 (by omega)
  simpa using this
theorem toByteSS_l0 (l : List (List Int)) (hl : l.length ≤ 9223372036854775806) (hs : ∀ x ∈ l, x.length ≤ 140737488355328) (n : Nat) : ∀ i : Nat, i + n = l.length →
    Ev (fun k => laws_toByteSS.l0 k l (l.take i ++ List.replicate n []) (i : Int)) l := by
  induction n with
  | zero =>
    intro i hi
    refine Ev.step (fun k => laws_toByteSS.l0.eq_2 ..) ?_
    refine ev_neg (by omega) (ev_ret ?_)
    rw [List.replicate_zero, List.append_nil, List.take_of_length_le (by omega)]
  | succ n ih =>
    intro i hi
    refine Ev.step (fun k => laws_toByteSS.l0.eq_2 ..) ?_
    have hlen : (l.take i).length = i := by rw [List.length_take]; omega
    refine ev_pos (by omega) (ev_pos (by omega) ?_)
    rw [rdB_nat]
    refine ev_bind (toByteS _ (hs _ (getD_mem (by omega)))) (ev_pos (by rw [List.length_append, hlen, List.length_replicate]; omega) ?_)
    rw [wr_succ (by omega), Int.toNat_natCast]
    have e := set_fill (l.take i) (l.getD i []) [] n
    rw [hlen, take_getD l [] i (by omega)] at e
    rw [e]
    exact ih (i + 1) (by omega)
theorem toByteSS (l : List (List Int)) (ht : tot l ≤ 10000000000000) : Ev (fun k => laws_toByteSS.f k l) l := by
  have h1 := tot_len l
  have h2 := tsum_le l
  unfold laws_toByteSS.f
  refine ev_pos (by omega) (ev_pos (by omega) ?_)
  have := toByteSS_l0 l (by omega) (fun x hx => by have := tsum_mem hx; omega) l.length 0 (by omega)
  simpa using this
theorem eqByteS_l0 (l : List Int) (hl : l.length ≤ 9223372036854775806) (n : Nat) : ∀ i : Nat, i + n = l.length →
    Ev (fun k => laws_eqByteS.l0 k l l (i : Int)) true := by
  induction n with
  | zero =>
    intro i hi
    refine Ev.step (fun k => laws_eqByteS.l0.eq_2 ..) ?_
    exact ev_neg (by omega) (ev_ret rfl)
  | succ n ih =>
    intro i hi
    refine Ev.step (fun k => laws_eqByteS.l0.eq_2 ..) ?_
    refine ev_pos (by omega) (ev_pos (by omega) (ev_pos (by omega) (ev_pos rfl ?_)))
    rw [wr_succ (by omega)]
    exact ih (i + 1) (by omega)
theorem eqByteS (l : List Int) (hl : l.length ≤ 140737488355328) : Ev (fun k => laws_eqByteS.f k l l) true := by
  unfold laws_eqByteS.f
  exact ev_pos rfl (eqByteS_l0 l (by omega) l.length 0 (by omega))
theorem eqByteSS_l0 (l : List (List Int)) (hl : l.length ≤ 9223372036854775806) (hs : ∀ x ∈ l, x.length ≤ 140737488355328) (n : Nat) : ∀ i : Nat, i + n = l.length →
    Ev (fun k => laws_eqByteSS.l0 k l l (i : Int)) true := by
  induction n with
  | zero =>
    intro i hi
    refine Ev.step (fun k => laws_eqByteSS.l0.eq_2 ..) ?_
    exact ev_neg (by omega) (ev_ret rfl)
  | succ n ih =>
    intro i hi
    refine Ev.step (fun k => laws_eqByteSS.l0.eq_2 ..) ?_
    refine ev_pos (by omega) (ev_pos (by omega) (ev_pos (by omega) ?_))
    rw [rdB_nat]
    refine ev_bind (eqByteS _ (hs _ (getD_mem (by omega)))) (ev_pos rfl ?_)
    rw [wr_succ (by omega)]
    exact ih (i + 1) (by omega)
theorem eqByteSS (l : List (List Int)) (ht : tot l ≤ 10000000000000) : Ev (fun k => laws_eqByteSS.f k l l) true := by
  have h1 := tot_len l
  have h2 := tsum_le l
  unfold laws_eqByteSS.f
  exact ev_pos rfl (eqByteSS_l0 l (by omega) (fun x hx => by have := tsum_mem hx; omega) l.length 0 (by omega))
def marked (a : Int) : Nat → List Int
  | 0 => []
  | n + 1 => (a % 256) :: marked (a + 1) n
theorem marked_length (n : Nat) : ∀ a, (marked a n).length = n := by
  induction n with
  | zero => intro a; rfl
  | succ n ih => intro a; simp [marked, ih]
theorem marked_snoc (n : Nat) : ∀ a, marked a n ++ [(a + n) % 256] = marked a (n + 1) := by
  induction n with
  | zero => intro a; simp [marked]
  | succ n ih =>
    intro a
    have := ih (a + 1)
    simp only [marked, List.cons_append] at this ⊢
    rw [← this]
    congr 3
    omega
theorem marked_getD (n : Nat) : ∀ a i, i < n → (marked a n).getD i 0 = (a + i) % 256 := by
  induction n with
  | zero => intro a i h; omega
  | succ n ih =>
    intro a i h
    cases i with
    | zero => simp [marked]
    | succ i =>
      have := ih (a + 1) i (by omega)
      simp only [marked, List.getD_cons_succ] at this ⊢
      rw [this]
      congr 1
      omega
theorem markByteS_l0 (l : List Int) (a : Int) (h0 : 0 ≤ a) (ha : a + l.length ≤ 4611686018427387904) (n : Nat) : ∀ i : Nat, i + n = l.length →
    Ev (fun k => laws_markByteS.l0 k (marked a i ++ l.drop i) (a + i) (i : Int)) (a + l.length, marked a l.length) := by
  induction n with
  | zero =>
    intro i hi
    refine Ev.step (fun k => laws_markByteS.l0.eq_2 ..) ?_
    refine ev_neg (by rw [List.length_append, marked_length, List.length_drop]; omega) (ev_ret ?_)
    obtain rfl : i = l.length := by omega
    rw [List.drop_length, List.append_nil]
  | succ n ih =>
    intro i hi
    refine Ev.step (fun k => laws_markByteS.l0.eq_2 ..) ?_
    refine ev_pos (by rw [List.length_append, marked_length, List.length_drop]; omega) (ev_pos (by omega) ?_)
    rw [wr_succ (by omega), Int.toNat_natCast, wr (n := a + i + 1) (by omega) (by omega), drop_getD l 0 i (by omega),
      List.set_append_right _ _ (by rw [marked_length]; exact Nat.le_refl _), marked_length, Nat.sub_self, List.set_cons_zero]
    have := ih (i + 1) (by omega)
    rw [← marked_snoc, List.append_assoc] at this
    rw [show a + (i : Int) + 1 = a + ((i + 1 : Nat) : Int) by omega]
    exact this
theorem markByteS (l : List Int) (a : Int) (h0 : 0 ≤ a) (ha : a + l.length ≤ 4611686018427387904) :
    Ev (fun k => laws_markByteS.f k l a) (a + l.length, marked a l.length) := by
  unfold laws_markByteS.f
  have := markByteS_l0 l a h0 ha l.length 0 (by omega)
  simpa [marked] using this
theorem tsum_snoc (l : List (List Int)) (j : Nat) (h : j < l.length) : tsum (l.take (j + 1)) = tsum (l.take j) + (l.getD j []).length := by
  rw [← take_getD l [] j h, tsum_append]
  simp [tsum]
theorem tsum_take (l : List (List Int)) (j : Nat) : tsum (l.take j) ≤ tsum l := by
  have := tsum_append (l.take j) (l.drop j)
  rw [List.take_append_drop] at this
  omega
/-- Rows, marked one after the other. -/
def markedSS (a : Int) : List (List Int) → List (List Int)
  | [] => []
  | x :: l => marked a x.length :: markedSS (a + x.length) l
theorem markedSS_length (l : List (List Int)) : ∀ a, (markedSS a l).length = l.length := by
  induction l with
  | nil => intro a; rfl
  | cons x l ih => intro a; simp [markedSS, ih]
theorem markedSS_append (l m : List (List Int)) : ∀ a, markedSS a (l ++ m) = markedSS a l ++ markedSS (a + tsum l) m := by
  induction l with
  | nil => intro a; simp [markedSS, tsum]
  | cons x l ih =>
    intro a
    simp only [List.cons_append, markedSS, tsum, ih]
    congr 3
    omega
theorem markedSS_step (a : Int) (l : List (List Int)) (j : Nat) (h : j < l.length) : (markedSS a (l.take j) ++ l.drop j).set j (marked (a + tsum (l.take j)) (l.getD j []).length) = markedSS a (l.take (j + 1)) ++ l.drop (j + 1) := by
  have hl : (markedSS a (l.take j)).length = j := by rw [markedSS_length, List.length_take]; omega
  rw [dropB h, ← take_getD l [] j h, markedSS_append, List.set_append_right _ _ (by omega), hl, Nat.sub_self, List.set_cons_zero, List.append_assoc]
  rfl
theorem markedSS_at (a : Int) (l : List (List Int)) (j : Nat) (h : j < l.length) : (markedSS a (l.take j) ++ l.drop j).getD j [] = l.getD j [] := by
  have hl : (markedSS a (l.take j)).length = j := by rw [markedSS_length, List.length_take]; omega
  rw [List.getD_eq_getElem?_getD, List.getElem?_append_right (by omega), hl, Nat.sub_self, dropB h]
  rfl
theorem heldByteS_l0 (a : Int) (m : Nat) (h0 : 0 ≤ a) (ha : a + m ≤ 4611686018427387904) (n : Nat) : ∀ i : Nat, i + n = m →
    Ev (fun k => laws_heldByteS.l0 k (marked a m) (a + i) (i : Int)) (a + m) := by
  induction n with
  | zero =>
    intro i hi
    refine Ev.step (fun k => laws_heldByteS.l0.eq_2 ..) ?_
    refine ev_neg (by rw [marked_length]; omega) (ev_ret ?_)
    omega
  | succ n ih =>
    intro i hi
    refine Ev.step (fun k => laws_heldByteS.l0.eq_2 ..) ?_
    refine ev_pos (by rw [marked_length]; omega) (ev_pos (by omega) (ev_pos (by rw [rd_nat, marked_getD _ _ _ (by omega)]) ?_))
    rw [wr_succ (by omega), wr (n := a + i + 1) (by omega) (by omega), show a + (i : Int) + 1 = a + ((i + 1 : Nat) : Int) by omega]
    exact ih (i + 1) (by omega)
theorem heldByteS (a : Int) (m : Nat) (h0 : 0 ≤ a) (ha : a + m ≤ 4611686018427387904) :
    Ev (fun k => laws_heldByteS.f k (marked a m) a) (a + m) := by
  unfold laws_heldByteS.f
  have := heldByteS_l0 a m h0 ha m 0 (by omega)
  simpa using this
/-- The parts, each behind its length. -/
def partsL (o : List Int) : List (List Int) → List Int × Bool
  | [] => (o, true)
  | x :: l => if x.length > 60000 then ([], false) else partsL (o ++ [(x.length : Int) / 256 % 256, (x.length : Int) % 256] ++ x) l
def parts (l : List (List Int)) : List Int × Bool := if l.length > 60 then ([], false) else partsL [(l.length : Int) % 256] l
theorem partsL_le (l : List (List Int)) : ∀ o, (partsL o l).1.length ≤ o.length + l.length * 60002 := by
  induction l with
  | nil => intro o; simp [partsL]
  | cons x l ih =>
    intro o
    unfold partsL
    split
    · exact Nat.zero_le _
    · have := ih (o ++ [(x.length : Int) / 256 % 256, (x.length : Int) % 256] ++ x)
      simp only [List.length_append, List.length_cons, List.length_nil] at this ⊢
      omega
theorem parts_le (l : List (List Int)) : (parts l).1.length ≤ 1000000000000 := by
  unfold parts
  split
  · exact Nat.zero_le _
  · have := partsL_le l [(l.length : Int) % 256]
    simp only [List.length_singleton] at this
    omega
theorem spec_parts_l0 (l : List (List Int)) (hl : l.length ≤ 60) (n : Nat) : ∀ (i : Nat) (o : List Int), i + n = l.length → o.length ≤ 100 * (i + 1) * 60002 →
    Ev (fun k => spec_Parts.l0 k l o (i : Int)) (partsL o (l.drop i)) := by
  induction n with
  | zero =>
    intro i o hi ho
    rw [show l.drop i = [] from List.drop_eq_nil_of_le (by omega)]
    exact Ev.step (fun k => spec_Parts.l0.eq_2 ..) (ev_neg (by omega) (ev_ret rfl))
  | succ n ih =>
    intro i o hi ho
    rw [dropB (l := l) (by omega)]
    refine Ev.step (fun k => spec_Parts.l0.eq_2 ..) (ev_pos (by omega) (ev_pos (by omega) ?_))
    rw [rdB_nat]
    generalize l.getD i [] = x
    unfold partsL
    by_cases h : x.length > 60000
    · rw [if_pos h]
      exact ev_pos (by omega) (ev_ret rfl)
    · rw [if_neg h]
      refine ev_neg (by omega) (ev_some (ev_pos (by simp only [List.length_cons, List.length_nil]; omega) (ev_some (ev_pos (by simp only [List.length_append, List.length_cons, List.length_nil]; omega) ?_))))
      rw [wr_succ (by omega)]
      exact ih (i + 1) _ (by omega) (by simp only [List.length_append, List.length_cons, List.length_nil]; omega)
theorem impl_parts_l0 (l : List (List Int)) (hl : l.length ≤ 60) (n : Nat) : ∀ (i : Nat) (o : List Int), i + n = l.length → o.length ≤ 100 * (i + 1) * 60002 →
    Ev (fun k => impl_Parts.l0 k o l (l.length : Int) (i : Int)) (partsL o (l.drop i)) := by
  induction n with
  | zero =>
    intro i o hi ho
    rw [show l.drop i = [] from List.drop_eq_nil_of_le (by omega)]
    exact Ev.step (fun k => impl_Parts.l0.eq_2 ..) (ev_neg (by omega) (ev_ret rfl))
  | succ n ih =>
    intro i o hi ho
    rw [dropB (l := l) (by omega)]
    refine Ev.step (fun k => impl_Parts.l0.eq_2 ..) (ev_pos (by omega) (ev_pos (by omega) (ev_pos (by omega) ?_)))
    rw [rdB_nat]
    generalize l.getD i [] = x
    unfold partsL
    by_cases h : x.length > 60000
    · rw [if_pos h]
      exact ev_pos (by omega) (ev_ret rfl)
    · rw [if_neg h]
      refine ev_neg (by omega) (ev_some (ev_pos (by simp only [List.length_cons, List.length_nil]; omega) (ev_some (ev_pos (by simp only [List.length_append, List.length_cons, List.length_nil]; omega) ?_))))
      rw [wr_succ (by omega)]
      exact ih (i + 1) _ (by omega) (by simp only [List.length_append, List.length_cons, List.length_nil]; omega)
theorem spec_parts (l : List (List Int)) : Ev (fun k => spec_Parts.f k l) (parts l) := by
  unfold spec_Parts.f parts
  refine ev_some ?_
  by_cases h : l.length > 60
  · rw [if_pos h]
    exact ev_pos (by omega) (ev_ret rfl)
  · rw [if_neg h]
    exact ev_neg (by omega) (ev_pos (by simp only [List.length_nil]; omega) (spec_parts_l0 l (by omega) l.length 0 _ (by omega) (by simp)))
theorem impl_parts (l : List (List Int)) : Ev (fun k => impl_Parts.f k l) (parts l) := by
  unfold impl_Parts.f parts
  by_cases h : l.length > 60
  · rw [if_pos h]
    exact ev_pos (by omega) (ev_ret rfl)
  · rw [if_neg h]
    exact ev_neg (by omega) (impl_parts_l0 l (by omega) l.length 0 _ (by omega) (by simp))
theorem FnExactParts (x : List (List Int)) (_ : x.length ≤ maxLen ∧ ∀ v0 ∈ x, (v0.length ≤ maxLen ∧ ∀ v1 ∈ v0, (Lit.int .u8 v1).wf = true)) (_ : tot x ≤ 1048576) :
    ∃ (r1 : List Int) (r2 : Bool), (∃ k, spec_Parts.f k x = some (r1, r2)) ∧ (∃ k, impl_Parts.f k x = some (r1, r2)) ∧ r1.length ≤ 1000000000000 :=
  ⟨_, _, (spec_parts x).rounds, (impl_parts x).rounds, parts_le x⟩

end Go.Proofs.Ythaoloacbbohlaa.Pure
