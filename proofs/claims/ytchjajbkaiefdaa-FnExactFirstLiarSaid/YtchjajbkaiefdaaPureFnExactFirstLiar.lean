/- FirstLiar answers as the reference's FirstLiar, at all numbers, leaves and claims (of at most 2^20 in all), in memory of its own, and leaves what came in as it was. -/
import Derived.Test.YtchjajbkaiefdaaPFnExactFirstLiarx
import Derived.Test.YtchjajbkaiefdaaKit
import Derived.Test.YtchjajbkaiefdaaDig
namespace Go.Proofs.Ytchjajbkaiefdaa.Pure
open Go.RowKit Go.Proofs.Ytchjajbkaiefdaa Go.Proofs.Ytchjajbkaiefdaa.PFnExactFirstLiar Go.Proofs.YtchjajbkaiefdaaW.PrintWords Go.Proofs.YtchjajbkaiefdaaW.PrintLast Go.Proofs.YtchjajbkaiefdaaW.PrintMore Go.Proofs.Ytchjajbkaiefdaa.K
set_option linter.unusedVariables false

/-- What is left of a behind a taking of t; -1: t was too much. -/
def left (a : Int) (t : Nat) : Int := if a - (t : Int) < 0 then -1 else a - (t : Int)
theorem left_ok {a : Int} {t : Nat} (h : ¬ left a t < 0) : left a t = a - (t : Int) := by
  unfold left at h ⊢
  split
  · rename_i h2
    rw [if_pos h2] at h
    omega
  · rfl
theorem left_neg {a : Int} {t : Nat} (h : a - (t : Int) < 0) : left a t = -1 := if_pos h
theorem left_pos {a : Int} {t : Nat} (h : ¬ a - (t : Int) < 0) : left a t = a - (t : Int) := if_neg h
theorem len_max {n : Nat} (h : n ≤ maxLen) : n ≤ 9223372036854775807 := by unfold maxLen at h; omega
/-- The bytes of all texts together. -/
def tsum : List (List Int) → Nat
  | [] => 0
  | x :: l => x.length + tsum l
/-- .. and the texts. -/
def tot (l : List (List Int)) : Nat := l.length + tsum l
theorem tsum_le (l : List (List Int)) : tsum l ≤ tot l := Nat.le_add_left _ _
theorem tot_len (l : List (List Int)) : l.length ≤ tot l := Nat.le_add_right _ _
theorem tsum_mem {l : List (List Int)} {x : List Int} (h : x ∈ l) : x.length ≤ tsum l := by
  induction l with
  | nil => cases h
  | cons y l ih =>
    rcases List.mem_cons.1 h with rfl | h
    · unfold tsum; omega
    · have := ih h; unfold tsum; omega
theorem tsum_append (l m : List (List Int)) : tsum (l ++ m) = tsum l + tsum m := by
  induction l with
  | nil => simp [tsum]
  | cons x l ih => simp only [List.cons_append, tsum, ih]; omega
theorem rdB_nat (l : List (List Int)) (i : Nat) : rd_L1 l (i : Int) = l.getD i [] := by unfold rd_L1; rw [Int.toNat_natCast]
theorem getD_mem {l : List (List Int)} {i : Nat} (h : i < l.length) : l.getD i [] ∈ l := by
  rw [List.getD_eq_getElem?_getD, List.getElem?_eq_getElem h]
  exact List.getElem_mem h
theorem dropB {l : List (List Int)} {i : Nat} (h : i < l.length) : l.drop i = l.getD i [] :: l.drop (i + 1) := drop_getD l [] i h
theorem szByteS (l : List Int) (a : Int) (h0 : 0 ≤ a) (ha : a ≤ 1048576) (hl : l.length ≤ maxLen) : laws_szByteS.f l a = some (left a l.length) := by
  have hm := len_max hl
  unfold laws_szByteS.f
  rw [wr (n := a - (l.length : Int)) (by omega) (by omega)]
  by_cases h : a - (l.length : Int) < 0
  · rw [if_pos h, left_neg h]
  · rw [if_neg h, left_pos h]
theorem szByteSS_l0 (l : List (List Int)) (hl : l.length ≤ 1048576) (hs : ∀ v ∈ l, v.length ≤ maxLen) (n : Nat) : ∀ (i : Nat) (a : Int), i + n = l.length → 0 ≤ a → a ≤ 1048576 → Ev (fun k => laws_szByteSS.l0 k l a (i : Int)) (left a (tsum (l.drop i))) := by
  induction n with
  | zero =>
    intro i a hi h0 ha
    refine Ev.step (fun k => laws_szByteSS.l0.eq_2 ..) (ev_neg (by omega) (ev_ret ?_))
    rw [List.drop_eq_nil_of_le (by omega)]
    unfold left tsum
    rw [if_neg (by omega)]
    omega
  | succ n ih =>
    intro i a hi h0 ha
    have hlt : i < l.length := by omega
    refine Ev.step (fun k => laws_szByteSS.l0.eq_2 ..) (ev_pos (by omega) (ev_pos (by omega) ?_))
    rw [rdB_nat, dropB hlt]
    have hx := hs _ (getD_mem hlt)
    refine ev_pure (szByteS _ a h0 ha hx) ?_
    generalize l.getD i [] = x at hx
    by_cases h : a - (x.length : Int) < 0
    · rw [left_neg h]
      refine ev_pos (by decide) (ev_ret ?_)
      rw [left_neg]
      simp only [tsum]
      omega
    · rw [left_pos h, wr_succ (by omega)]
      refine ev_neg h (ev_eq (ih (i + 1) _ (by omega) (by omega) (by omega)) ?_)
      simp only [tsum]
      unfold left
      split <;> split <;> omega
theorem szByteSS (l : List (List Int)) (a : Int) (h0 : 0 ≤ a) (ha : a ≤ 1048576) (hl : l.length ≤ maxLen) (hs : ∀ v ∈ l, v.length ≤ maxLen) : Ev (fun k => laws_szByteSS.f k l a) (left a (tot l)) := by
  have hm := len_max hl
  unfold laws_szByteSS.f
  rw [wr (n := a - (l.length : Int)) (by omega) (by omega)]
  by_cases h : a - (l.length : Int) < 0
  · refine ev_pos h (ev_ret ?_)
    have := tot_len l
    rw [left_neg (by omega)]
  · refine ev_neg h (ev_eq (szByteSS_l0 l (by omega) hs l.length 0 _ (by omega) (by omega) (by omega)) ?_)
    rw [List.drop_zero]
    unfold left tot
    split <;> split <;> omega
theorem toByteS_l0 (l : List Int) (hl : l.length ≤ 9223372036854775806) (n : Nat) : ∀ i : Nat, i + n = l.length →
    Ev (fun k => laws_toByteS.l0 k l (l.take i ++ List.replicate n 0) (i : Int)) l := by
  induction n with
  | zero =>
    intro i hi
    refine Ev.step (fun k => laws_toByteS.l0.eq_2 ..) ?_
    refine ev_neg (by omega) (ev_ret ?_)
    rw [List.replicate_zero, List.append_nil, List.take_of_length_le (by omega)]
  | succ n ih =>
    intro i hi
    refine Ev.step (fun k => laws_toByteS.l0.eq_2 ..) ?_
    have hlen : (l.take i).length = i := by rw [List.length_take]; omega
    refine ev_pos (by omega) (ev_pos (by omega) (ev_pos (by rw [List.length_append, hlen, List.length_replicate]; omega) ?_))
    rw [wr_succ (by omega), rd_nat, Int.toNat_natCast]
    have e := set_fill (l.take i) (l.getD i 0) 0 n
    rw [hlen, take_getD l 0 i (by omega)] at e
    rw [e]
    exact ih (i + 1) (by omega)
theorem toByteS (l : List Int) (hl : l.length ≤ 140737488355328) : Ev (fun k => laws_toByteS.f k l) l := by
  unfold laws_toByteS.f
  refine ev_pos (by omega) (ev_pos (by omega) ?_)
  have := toByteS_l0 l (by omega) l.length 0 (by omega)
  simpa using this
theorem toByteSS_l0 (l : List (List Int)) (hl : l.length ≤ 9223372036854775806) (hs : ∀ x ∈ l, x.length ≤ 140737488355328) (n : Nat) : ∀ i : Nat, i + n = l.length →
    Ev (fun k => laws_toByteSS.l0 k l (l.take i ++ List.replicate n []) (i : Int)) l := by
  induction n with
  | zero =>
    intro i hi
    refine Ev.step (fun k => laws_toByteSS.l0.eq_2 ..) ?_
    refine ev_neg (by omega) (ev_ret ?_)
    rw [List.replicate_zero, List.append_nil, List.take_of_length_le (by omega)]
  | succ n ih =>
    intro i hi
    refine Ev.step (fun k => laws_toByteSS.l0.eq_2 ..) ?_
    have hlen : (l.take i).length = i := by rw [List.length_take]; omega
    refine ev_pos (by omega) (ev_pos (by omega) ?_)
    rw [rdB_nat]
    refine ev_bind (toByteS _ (hs _ (getD_mem (by omega)))) (ev_pos (by rw [List.length_append, hlen, List.length_replicate]; omega) ?_)
    rw [wr_succ (by omega), Int.toNat_natCast]
    have e := set_fill (l.take i) (l.getD i []) [] n
    rw [hlen, take_getD l [] i (by omega)] at e
    rw [e]
    exact ih (i + 1) (by omega)
theorem toByteSS (l : List (List Int)) (ht : tot l ≤ 10000000000000) : Ev (fun k => laws_toByteSS.f k l) l := by
  have h1 := tot_len l
  have h2 := tsum_le l
  unfold laws_toByteSS.f
  refine ev_pos (by omega) (ev_pos (by omega) ?_)
  have := toByteSS_l0 l (by omega) (fun x hx => by have := tsum_mem hx; omega) l.length 0 (by omega)
  simpa using this
theorem toIntS_l0 (l : List Int) (hl : l.length ≤ 9223372036854775806) (n : Nat) : ∀ i : Nat, i + n = l.length →
    Ev (fun k => laws_toIntS.l0 k l (l.take i ++ List.replicate n 0) (i : Int)) l := by
  induction n with
  | zero =>
    intro i hi
    refine Ev.step (fun k => laws_toIntS.l0.eq_2 ..) ?_
    refine ev_neg (by omega) (ev_ret ?_)
    rw [List.replicate_zero, List.append_nil, List.take_of_length_le (by omega)]
  | succ n ih =>
    intro i hi
    refine Ev.step (fun k => laws_toIntS.l0.eq_2 ..) ?_
    have hlen : (l.take i).length = i := by rw [List.length_take]; omega
    refine ev_pos (by omega) (ev_pos (by omega) (ev_pos (by rw [List.length_append, hlen, List.length_replicate]; omega) ?_))
    rw [wr_succ (by omega), rd_nat, Int.toNat_natCast]
    have e := set_fill (l.take i) (l.getD i 0) 0 n
    rw [hlen, take_getD l 0 i (by omega)] at e
    rw [e]
    exact ih (i + 1) (by omega)
theorem toIntS (l : List Int) (hl : l.length ≤ 17592186044416) : Ev (fun k => laws_toIntS.f k l) l := by
  unfold laws_toIntS.f
  refine ev_pos (by omega) (ev_pos (by omega) ?_)
  have := toIntS_l0 l (by omega) l.length 0 (by omega)
  simpa using this
theorem eqByteS_l0 (l : List Int) (hl : l.length ≤ 9223372036854775806) (n : Nat) : ∀ i : Nat, i + n = l.length →
    Ev (fun k => laws_eqByteS.l0 k l l (i : Int)) true := by
  induction n with
  | zero =>
    intro i hi
    refine Ev.step (fun k => laws_eqByteS.l0.eq_2 ..) ?_
    exact ev_neg (by omega) (ev_ret rfl)
  | succ n ih =>
    intro i hi
    refine Ev.step (fun k => laws_eqByteS.l0.eq_2 ..) ?_
    refine ev_pos (by omega) (ev_pos (by omega) (ev_pos (by omega) (ev_pos rfl ?_)))
    rw [wr_succ (by omega)]
    exact ih (i + 1) (by omega)
theorem eqByteS (l : List Int) (hl : l.length ≤ 140737488355328) : Ev (fun k => laws_eqByteS.f k l l) true := by
  unfold laws_eqByteS.f
  exact ev_pos rfl (eqByteS_l0 l (by omega) l.length 0 (by omega))
theorem eqByteSS_l0 (l : List (List Int)) (hl : l.length ≤ 9223372036854775806) (hs : ∀ x ∈ l, x.length ≤ 140737488355328) (n : Nat) : ∀ i : Nat, i + n = l.length →
    Ev (fun k => laws_eqByteSS.l0 k l l (i : Int)) true := by
  induction n with
  | zero =>
    intro i hi
    refine Ev.step (fun k => laws_eqByteSS.l0.eq_2 ..) ?_
    exact ev_neg (by omega) (ev_ret rfl)
  | succ n ih =>
    intro i hi
    refine Ev.step (fun k => laws_eqByteSS.l0.eq_2 ..) ?_
    refine ev_pos (by omega) (ev_pos (by omega) (ev_pos (by omega) ?_))
    rw [rdB_nat]
    refine ev_bind (eqByteS _ (hs _ (getD_mem (by omega)))) (ev_pos rfl ?_)
    rw [wr_succ (by omega)]
    exact ih (i + 1) (by omega)
theorem eqByteSS (l : List (List Int)) (ht : tot l ≤ 10000000000000) : Ev (fun k => laws_eqByteSS.f k l l) true := by
  have h1 := tot_len l
  have h2 := tsum_le l
  unfold laws_eqByteSS.f
  exact ev_pos rfl (eqByteSS_l0 l (by omega) (fun x hx => by have := tsum_mem hx; omega) l.length 0 (by omega))
theorem eqIntS_l0 (l : List Int) (hl : l.length ≤ 9223372036854775806) (n : Nat) : ∀ i : Nat, i + n = l.length →
    Ev (fun k => laws_eqIntS.l0 k l l (i : Int)) true := by
  induction n with
  | zero =>
    intro i hi
    refine Ev.step (fun k => laws_eqIntS.l0.eq_2 ..) ?_
    exact ev_neg (by omega) (ev_ret rfl)
  | succ n ih =>
    intro i hi
    refine Ev.step (fun k => laws_eqIntS.l0.eq_2 ..) ?_
    refine ev_pos (by omega) (ev_pos (by omega) (ev_pos (by omega) (ev_pos rfl ?_)))
    rw [wr_succ (by omega)]
    exact ih (i + 1) (by omega)
theorem eqIntS (l : List Int) (hl : l.length ≤ 140737488355328) : Ev (fun k => laws_eqIntS.f k l l) true := by
  unfold laws_eqIntS.f
  exact ev_pos rfl (eqIntS_l0 l (by omega) l.length 0 (by omega))
def marked (a : Int) : Nat → List Int
  | 0 => []
  | n + 1 => (a % 256) :: marked (a + 1) n
theorem marked_length (n : Nat) : ∀ a, (marked a n).length = n := by
  induction n with
  | zero => intro a; rfl
  | succ n ih => intro a; simp [marked, ih]
theorem marked_snoc (n : Nat) : ∀ a, marked a n ++ [(a + n) % 256] = marked a (n + 1) := by
  induction n with
  | zero => intro a; simp [marked]
  | succ n ih =>
    intro a
    have := ih (a + 1)
    simp only [marked, List.cons_append] at this ⊢
    rw [← this]
    congr 3
    omega
theorem marked_getD (n : Nat) : ∀ a i, i < n → (marked a n).getD i 0 = (a + i) % 256 := by
  induction n with
  | zero => intro a i h; omega
  | succ n ih =>
    intro a i h
    cases i with
    | zero => simp [marked]
    | succ i =>
      have := ih (a + 1) i (by omega)
      simp only [marked, List.getD_cons_succ] at this ⊢
      rw [this]
      congr 1
      omega
theorem markByteS_l0 (l : List Int) (a : Int) (h0 : 0 ≤ a) (ha : a + l.length ≤ 4611686018427387904) (n : Nat) : ∀ i : Nat, i + n = l.length →
    Ev (fun k => laws_markByteS.l0 k (marked a i ++ l.drop i) (a + i) (i : Int)) (a + l.length, marked a l.length) := by
  induction n with
  | zero =>
    intro i hi
    refine Ev.step (fun k => laws_markByteS.l0.eq_2 ..) ?_
    refine ev_neg (by rw [List.length_append, marked_length, List.length_drop]; omega) (ev_ret ?_)
    obtain rfl : i = l.length := by omega
    rw [List.drop_length, List.append_nil]
  | succ n ih =>
    intro i hi
    refine Ev.step (fun k => laws_markByteS.l0.eq_2 ..) ?_
    refine ev_pos (by rw [List.length_append, marked_length, List.length_drop]; omega) (ev_pos (by omega) ?_)
    rw [wr_succ (by omega), Int.toNat_natCast, wr (n := a + i + 1) (by omega) (by omega), drop_getD l 0 i (by omega),
      List.set_append_right _ _ (by rw [marked_length]; exact Nat.le_refl _), marked_length, Nat.sub_self, List.set_cons_zero]
    have := ih (i + 1) (by omega)
    rw [← marked_snoc, List.append_assoc] at this
    rw [show a + (i : Int) + 1 = a + ((i + 1 : Nat) : Int) by omega]
    exact this
theorem markByteS (l : List Int) (a : Int) (h0 : 0 ≤ a) (ha : a + l.length ≤ 4611686018427387904) :
    Ev (fun k => laws_markByteS.f k l a) (a + l.length, marked a l.length) := by
  unfold laws_markByteS.f
  have := markByteS_l0 l a h0 ha l.length 0 (by omega)
  simpa [marked] using this
theorem tsum_snoc (l : List (List Int)) (j : Nat) (h : j < l.length) : tsum (l.take (j + 1)) = tsum (l.take j) + (l.getD j []).length := by
  rw [← take_getD l [] j h, tsum_append]
  simp [tsum]
theorem tsum_take (l : List (List Int)) (j : Nat) : tsum (l.take j) ≤ tsum l := by
  have := tsum_append (l.take j) (l.drop j)
  rw [List.take_append_drop] at this
  omega
/-- Rows, marked one after the other. -/
def markedSS (a : Int) : List (List Int) → List (List Int)
  | [] => []
  | x :: l => marked a x.length :: markedSS (a + x.length) l
theorem markedSS_length (l : List (List Int)) : ∀ a, (markedSS a l).length = l.length := by
  induction l with
  | nil => intro a; rfl
  | cons x l ih => intro a; simp [markedSS, ih]
theorem markedSS_append (l m : List (List Int)) : ∀ a, markedSS a (l ++ m) = markedSS a l ++ markedSS (a + tsum l) m := by
  induction l with
  | nil => intro a; simp [markedSS, tsum]
  | cons x l ih =>
    intro a
    simp only [List.cons_append, markedSS, tsum, ih]
    congr 3
    omega
theorem markedSS_step (a : Int) (l : List (List Int)) (j : Nat) (h : j < l.length) : (markedSS a (l.take j) ++ l.drop j).set j (marked (a + tsum (l.take j)) (l.getD j []).length) = markedSS a (l.take (j + 1)) ++ l.drop (j + 1) := by
  have hl : (markedSS a (l.take j)).length = j := by rw [markedSS_length, List.length_take]; omega
  rw [dropB h, ← take_getD l [] j h, markedSS_append, List.set_append_right _ _ (by omega), hl, Nat.sub_self, List.set_cons_zero, List.append_assoc]
  rfl
theorem markedSS_at (a : Int) (l : List (List Int)) (j : Nat) (h : j < l.length) : (markedSS a (l.take j) ++ l.drop j).getD j [] = l.getD j [] := by
  have hl : (markedSS a (l.take j)).length = j := by rw [markedSS_length, List.length_take]; omega
  rw [List.getD_eq_getElem?_getD, List.getElem?_append_right (by omega), hl, Nat.sub_self, dropB h]
  rfl
def markedI (a : Int) : Nat → List Int
  | 0 => []
  | n + 1 => a :: markedI (a + 1) n
theorem markedI_length (n : Nat) : ∀ a, (markedI a n).length = n := by
  induction n with
  | zero => intro a; rfl
  | succ n ih => intro a; simp [markedI, ih]
theorem markedI_snoc (n : Nat) : ∀ a, markedI a n ++ [a + n] = markedI a (n + 1) := by
  induction n with
  | zero => intro a; simp [markedI]
  | succ n ih =>
    intro a
    have := ih (a + 1)
    simp only [markedI, List.cons_append] at this ⊢
    rw [← this]
    congr 3
    omega
theorem markedI_getD (n : Nat) : ∀ a i, i < n → (markedI a n).getD i 0 = a + i := by
  induction n with
  | zero => intro a i h; omega
  | succ n ih =>
    intro a i h
    cases i with
    | zero => simp [markedI]
    | succ i =>
      have := ih (a + 1) i (by omega)
      simp only [markedI, List.getD_cons_succ] at this ⊢
      rw [this]
      omega
theorem markIntS_l0 (l : List Int) (a : Int) (h0 : 0 ≤ a) (ha : a + l.length ≤ 4611686018427387904) (n : Nat) : ∀ i : Nat, i + n = l.length →
    Ev (fun k => laws_markIntS.l0 k (markedI a i ++ l.drop i) (a + i) (i : Int)) (a + l.length, markedI a l.length) := by
  induction n with
  | zero =>
    intro i hi
    refine Ev.step (fun k => laws_markIntS.l0.eq_2 ..) ?_
    refine ev_neg (by rw [List.length_append, markedI_length, List.length_drop]; omega) (ev_ret ?_)
    obtain rfl : i = l.length := by omega
    rw [List.drop_length, List.append_nil]
  | succ n ih =>
    intro i hi
    refine Ev.step (fun k => laws_markIntS.l0.eq_2 ..) ?_
    refine ev_pos (by rw [List.length_append, markedI_length, List.length_drop]; omega) (ev_pos (by omega) ?_)
    rw [wr_succ (by omega), Int.toNat_natCast, wr (n := a + i + 1) (by omega) (by omega), drop_getD l 0 i (by omega),
      List.set_append_right _ _ (by rw [markedI_length]; exact Nat.le_refl _), markedI_length, Nat.sub_self, List.set_cons_zero]
    have := ih (i + 1) (by omega)
    rw [← markedI_snoc, List.append_assoc] at this
    rw [show a + (i : Int) + 1 = a + ((i + 1 : Nat) : Int) by omega]
    exact this
theorem markIntS (l : List Int) (a : Int) (h0 : 0 ≤ a) (ha : a + l.length ≤ 4611686018427387904) :
    Ev (fun k => laws_markIntS.f k l a) (a + l.length, markedI a l.length) := by
  unfold laws_markIntS.f
  have := markIntS_l0 l a h0 ha l.length 0 (by omega)
  simpa [markedI] using this
theorem heldByteS_l0 (a : Int) (m : Nat) (h0 : 0 ≤ a) (ha : a + m ≤ 4611686018427387904) (n : Nat) : ∀ i : Nat, i + n = m →
    Ev (fun k => laws_heldByteS.l0 k (marked a m) (a + i) (i : Int)) (a + m) := by
  induction n with
  | zero =>
    intro i hi
    refine Ev.step (fun k => laws_heldByteS.l0.eq_2 ..) ?_
    refine ev_neg (by rw [marked_length]; omega) (ev_ret ?_)
    omega
  | succ n ih =>
    intro i hi
    refine Ev.step (fun k => laws_heldByteS.l0.eq_2 ..) ?_
    refine ev_pos (by rw [marked_length]; omega) (ev_pos (by omega) (ev_pos (by rw [rd_nat, marked_getD _ _ _ (by omega)]) ?_))
    rw [wr_succ (by omega), wr (n := a + i + 1) (by omega) (by omega), show a + (i : Int) + 1 = a + ((i + 1 : Nat) : Int) by omega]
    exact ih (i + 1) (by omega)
theorem heldByteS (a : Int) (m : Nat) (h0 : 0 ≤ a) (ha : a + m ≤ 4611686018427387904) :
    Ev (fun k => laws_heldByteS.f k (marked a m) a) (a + m) := by
  unfold laws_heldByteS.f
  have := heldByteS_l0 a m h0 ha m 0 (by omega)
  simpa using this
theorem eqPair (p q : List Int) (hp : p.length ≤ 140737488355328) (hq : q.length ≤ 140737488355328) : Ev (fun k => laws_eqPair.f k p q p q) true := by
  unfold laws_eqPair.f
  exact ev_bind (eqByteS p hp) (ev_pos rfl (ev_bind (eqByteS q hq) (ev_pos rfl (ev_ret rfl))))
theorem markPair (p q : List Int) (hp : p.length ≤ 140737488355328) (hq : q.length ≤ 140737488355328) : Ev (fun k => laws_markPair.f k p q 1) (1 + (p.length : Int) + (q.length : Int), marked 1 p.length, marked (1 + p.length) q.length) := by
  unfold laws_markPair.f
  exact ev_bind (markByteS p 1 (by decide) (by omega)) (ev_bind (markByteS q (1 + p.length) (by omega) (by omega)) (ev_ret rfl))
theorem heldPair (m n : Nat) (hp : m ≤ 140737488355328) (hq : n ≤ 140737488355328) : Ev (fun k => laws_heldPair.f k (marked 1 m) (marked (1 + m) n) 1) (1 + (m : Int) + (n : Int)) := by
  unfold laws_heldPair.f
  exact ev_bind (heldByteS 1 m (by decide) (by omega)) (ev_neg (by omega) (ev_bind (heldByteS (1 + m) n (by omega) (by omega)) (ev_neg (by omega) (ev_ret rfl))))
theorem eqClaim (x y : Int) (p q : List Int) (hp : p.length ≤ 10000000000000) (hq : q.length ≤ 10000000000000) : Ev (fun k => laws_eqClaim.f k x y p q x y p q) true := by
  unfold laws_eqClaim.f
  exact ev_pos rfl (ev_pos rfl (ev_bind (eqByteS p (by omega)) (ev_pos rfl (ev_bind (eqIntS q (by omega)) (ev_pos rfl (ev_ret rfl))))))
theorem markClaim (x y : Int) (p q : List Int) (a : Int) (h0 : 0 ≤ a) (ha : a + p.length + q.length ≤ 4611686018427387904) : Ev (fun k => laws_markClaim.f k x y p q a) (a + (p.length : Int) + (q.length : Int), marked a p.length, markedI (a + p.length) q.length) := by
  unfold laws_markClaim.f
  exact ev_bind (markByteS p a h0 (by omega)) (ev_bind (markIntS q (a + p.length) (by omega) (by omega)) (ev_ret rfl))
theorem toClaim (x y : Int) (p q : List Int) (hp : p.length ≤ 140737488355328) (hq : q.length ≤ 10000000000000) : Ev (fun k => laws_toClaim.f k x y p q) (x, y, p, q) := by
  unfold laws_toClaim.f
  exact ev_bind (toByteS p (by omega)) (ev_bind (toIntS q (by omega)) (ev_ret rfl))
theorem szIntS (l : List Int) (a : Int) (h0 : 0 ≤ a) (ha : a ≤ 1048576) (hl : l.length ≤ maxLen) : laws_szIntS.f l a = some (left a l.length) := by
  have hm := len_max hl
  unfold laws_szIntS.f
  rw [wr (n := a - (l.length : Int)) (by omega) (by omega)]
  by_cases h : a - (l.length : Int) < 0
  · rw [if_pos h, left_neg h]
  · rw [if_neg h, left_pos h]
theorem szClaim (x y : Int) (l l1 : List Int) (a : Int) (h0 : 0 ≤ a) (ha : a ≤ 1048576) (hl : l.length ≤ maxLen) (hl1 : l1.length ≤ maxLen) : laws_szClaim.f x y l l1 a = some (left a (l.length + l1.length)) := by
  unfold laws_szClaim.f
  rw [szByteS l a h0 ha hl, Option.bind_some]
  by_cases h : a - (l.length : Int) < 0
  · rw [left_neg h, if_pos (by decide), left_neg (by omega)]
  · rw [left_pos h, if_neg h, szIntS l1 _ (by omega) (by omega) hl1, Option.bind_some]
    by_cases h2 : a - (l.length : Int) - (l1.length : Int) < 0
    · rw [left_neg h2, if_pos (by decide), left_neg (by omega)]
    · rw [left_pos h2, if_neg h2, left_pos (by omega)]
      congr 1
      omega
/-- A claim as impl has it. -/
def cl (x : S58) : S31 := ⟨x.f0, x.f1, x.f2, x.f3⟩
/-- How much claims hold. -/
def ctot : List S58 → Nat
  | [] => 0
  | x :: l => 1 + (x.f2.length + x.f3.length) + ctot l
theorem ctot_len : ∀ l : List S58, l.length ≤ ctot l
  | [] => Nat.le_refl _
  | x :: l => by have := ctot_len l; simp only [ctot, List.length_cons]; omega
theorem ctot_mem {x : S58} : ∀ {l : List S58}, x ∈ l → x.f2.length + x.f3.length ≤ ctot l
  | y :: l, h => by
    simp only [ctot]
    rcases List.mem_cons.1 h with rfl | h
    · omega
    · have := ctot_mem h; omega
theorem drop58 {l : List S58} {i : Nat} (h : i < l.length) : l.drop i = l.getD i z58 :: l.drop (i + 1) := by
  rw [List.getD_eq_getElem?_getD, List.getElem?_eq_getElem h]
  exact List.drop_eq_getElem_cons h
theorem rd58 (l : List S58) (i : Nat) : rd_T58 l (i : Int) = l.getD i z58 := by unfold rd_T58; rw [Int.toNat_natCast]
theorem rd31 (l : List S31) (i : Nat) : rd_T31 l (i : Int) = l.getD i z31 := by unfold rd_T31; rw [Int.toNat_natCast]
theorem mem58 {l : List S58} {i : Nat} (h : i < l.length) : l.getD i z58 ∈ l := by
  rw [List.getD_eq_getElem?_getD, List.getElem?_eq_getElem h]
  exact List.getElem_mem h
/-- How much the claims' rows hold, and the claims themselves. -/
def crows (l : List S58) : Nat := ctot l - l.length
theorem crows_cons (x : S58) (l : List S58) : crows (x :: l) = x.f2.length + x.f3.length + crows l := by
  have := ctot_len l
  unfold crows
  simp only [ctot, List.length_cons]
  omega
theorem szClaimS_l0 (l : List S58) (hl : l.length ≤ maxLen) (hm : ∀ x ∈ l, x.f2.length ≤ maxLen ∧ x.f3.length ≤ maxLen) (n : Nat) : ∀ (i : Nat) (a : Int), i + n = l.length → 0 ≤ a → a ≤ 1048576 →
    Ev (fun k => laws_szClaimS.l0 k l a (i : Int)) (left a (crows (l.drop i))) := by
  have hmx := len_max hl
  induction n with
  | zero =>
    intro i a hi h0 h1
    rw [List.drop_eq_nil_of_le (by omega)]
    refine Ev.step (fun k => laws_szClaimS.l0.eq_2 ..) (ev_neg (by omega) (ev_ret ?_))
    rw [left_pos (by simp [crows, ctot]; omega)]
    simp [crows, ctot]
  | succ n ih =>
    intro i a hi h0 h1
    have hil : i < l.length := by omega
    obtain ⟨m2, m3⟩ := hm _ (mem58 hil)
    refine Ev.step (fun k => laws_szClaimS.l0.eq_2 ..) (ev_pos (by omega) (ev_pos (by omega) ?_))
    rw [rd58, wr_succ (by omega), drop58 hil, crows_cons]
    generalize l.getD i z58 = x at m2 m3
    refine ev_pure (szClaim x.f0 x.f1 x.f2 x.f3 a h0 h1 m2 m3) ?_
    by_cases h : a - ((x.f2.length + x.f3.length : Nat) : Int) < 0
    · rw [left_neg h, left_neg (by omega)]
      exact ev_pos (by decide) (ev_ret rfl)
    · rw [left_pos h]
      refine ev_neg h (ev_eq (ih (i + 1) _ (by omega) (by omega) (by omega)) ?_)
      generalize crows (l.drop (i + 1)) = q
      by_cases h2 : a - ((x.f2.length + x.f3.length + q : Nat) : Int) < 0
      · rw [left_neg h2, left_neg (by omega)]
      · rw [left_pos h2, left_pos (by omega)]
        omega
theorem szClaimS (l : List S58) (a : Int) (h0 : 0 ≤ a) (ha : a ≤ 1048576) (hl : l.length ≤ maxLen) (hm : ∀ x ∈ l, x.f2.length ≤ maxLen ∧ x.f3.length ≤ maxLen) : Ev (fun k => laws_szClaimS.f k l a) (left a (ctot l)) := by
  have hmx := len_max hl
  have hc := ctot_len l
  unfold laws_szClaimS.f
  rw [wr (n := a - (l.length : Int)) (by omega) (by omega)]
  by_cases h : a - (l.length : Int) < 0
  · rw [left_neg (by omega)]
    exact ev_pos h (ev_ret rfl)
  · refine ev_neg h (ev_eq (szClaimS_l0 l hl hm l.length 0 _ (Nat.zero_add _) (by omega) (by omega)) ?_)
    rw [List.drop_zero]
    unfold crows
    by_cases h2 : a - (ctot l : Int) < 0
    · rw [left_neg h2, left_neg (by omega)]
    · rw [left_pos h2, left_pos (by omega)]
      omega
theorem toClaimS_l0 (l : List S58) (hl : ctot l ≤ 10000000000000) (n : Nat) : ∀ (i : Nat), i + n = l.length →
    Ev (fun k => laws_toClaimS.l0 k l ((l.take i).map cl ++ List.replicate n z31) (i : Int)) (l.map cl) := by
  have hc := ctot_len l
  induction n with
  | zero =>
    intro i hi
    refine Ev.step (fun k => laws_toClaimS.l0.eq_2 ..) (ev_neg (by omega) (ev_ret ?_))
    rw [List.replicate_zero, List.append_nil, List.take_of_length_le (by omega)]
  | succ n ih =>
    intro i hi
    have hil : i < l.length := by omega
    have hm := ctot_mem (mem58 hil)
    have h2 := ih (i + 1) (by omega)
    have et : l.take (i + 1) = l.take i ++ [l.getD i z58] := by
      rw [List.take_succ_eq_append_getElem hil, List.getD_eq_getElem?_getD, List.getElem?_eq_getElem hil]; rfl
    have hset : ((l.take i).map cl ++ List.replicate (n + 1) z31).set i (cl (l.getD i z58)) = (l.take (i + 1)).map cl ++ List.replicate n z31 := by
      have hlen : ((l.take i).map cl).length = i := by rw [List.length_map, List.length_take]; omega
      rw [List.set_append_right _ _ (by omega), hlen, Nat.sub_self, List.replicate_succ, List.set_cons_zero, et, List.map_append, List.append_assoc]
      rfl
    refine Ev.step (fun k => laws_toClaimS.l0.eq_2 ..) (ev_pos (by omega) (ev_pos (by omega) ?_))
    rw [rd58, wr_succ (by omega), Int.toNat_natCast]
    rw [← hset] at h2
    generalize l.getD i z58 = x at hm h2
    refine ev_bind (toClaim x.f0 x.f1 x.f2 x.f3 (by omega) (by omega)) (ev_pos ?_ h2)
    simp only [List.length_append, List.length_map, List.length_take, List.length_replicate]
    omega
theorem toClaimS (l : List S58) (hl : ctot l ≤ 1000000000000) : Ev (fun k => laws_toClaimS.f k l) (l.map cl) := by
  have hc := ctot_len l
  unfold laws_toClaimS.f
  rw [Int.toNat_natCast]
  exact ev_pos (by omega) (ev_pos (by omega) (toClaimS_l0 l (by omega) l.length 0 (Nat.zero_add _)))
/-- How much of impl's claims. -/
def dtot : List S31 → Nat
  | [] => 0
  | x :: l => 2 + x.f2.length + x.f3.length + dtot l
theorem dtot_len : ∀ l : List S31, 2 * l.length ≤ dtot l
  | [] => Nat.le_refl _
  | x :: l => by have := dtot_len l; simp only [dtot, List.length_cons]; omega
theorem dtot_cl : ∀ l : List S58, dtot (l.map cl) ≤ 2 * ctot l
  | [] => Nat.le_refl _
  | x :: l => by have := dtot_cl l; simp only [List.map_cons, dtot, ctot, cl]; omega
theorem dtot_mem {x : S31} : ∀ {l : List S31}, x ∈ l → x.f2.length + x.f3.length ≤ dtot l
  | y :: l, h => by
    simp only [dtot]
    rcases List.mem_cons.1 h with rfl | h
    · omega
    · have := dtot_mem h; omega
theorem mem31 {l : List S31} {i : Nat} (h : i < l.length) : l.getD i z31 ∈ l := by
  rw [List.getD_eq_getElem?_getD, List.getElem?_eq_getElem h]
  exact List.getElem_mem h
theorem eqClaimS_l0 (l : List S31) (hl : dtot l ≤ 10000000000000) (n : Nat) : ∀ i : Nat, i + n = l.length → Ev (fun k => laws_eqClaimS.l0 k l l (i : Int)) true := by
  have hc := dtot_len l
  induction n with
  | zero =>
    intro i hi
    exact Ev.step (fun k => laws_eqClaimS.l0.eq_2 ..) (ev_neg (by omega) (ev_ret rfl))
  | succ n ih =>
    intro i hi
    have hil : i < l.length := by omega
    have hm := dtot_mem (mem31 hil)
    refine Ev.step (fun k => laws_eqClaimS.l0.eq_2 ..) (ev_pos (by omega) (ev_pos (by omega) (ev_pos (by omega) ?_)))
    rw [rd31, wr_succ (by omega)]
    exact ev_bind (eqClaim _ _ _ _ (by omega) (by omega)) (ev_pos rfl (ih (i + 1) (by omega)))
theorem eqClaimS (l : List S31) (hl : dtot l ≤ 10000000000000) : Ev (fun k => laws_eqClaimS.f k l l) true := by
  unfold laws_eqClaimS.f
  exact ev_pos rfl (eqClaimS_l0 l hl l.length 0 (Nat.zero_add _))
/-- Claims, marked one after the other. -/
def mkC (a : Int) (x : S31) : S31 := ⟨a, a + 1, marked (a + 2) x.f2.length, markedI (a + 2 + x.f2.length) x.f3.length⟩
def markedCS (a : Int) : List S31 → List S31
  | [] => []
  | x :: l => mkC a x :: markedCS (a + 2 + x.f2.length + x.f3.length) l
theorem markedCS_length (l : List S31) : ∀ a, (markedCS a l).length = l.length := by
  induction l with
  | nil => intro a; rfl
  | cons x l ih => intro a; simp [markedCS, ih]
theorem dtot_append (l m : List S31) : dtot (l ++ m) = dtot l + dtot m := by
  induction l with
  | nil => simp [dtot]
  | cons x l ih => simp only [List.cons_append, dtot, ih]; omega
theorem markedCS_append (l m : List S31) : ∀ a, markedCS a (l ++ m) = markedCS a l ++ markedCS (a + dtot l) m := by
  induction l with
  | nil => intro a; simp [markedCS, dtot]
  | cons x l ih =>
    intro a
    simp only [List.cons_append, markedCS, dtot, ih]
    congr 3
    omega
theorem drop31 {l : List S31} {i : Nat} (h : i < l.length) : l.drop i = l.getD i z31 :: l.drop (i + 1) := by
  rw [List.getD_eq_getElem?_getD, List.getElem?_eq_getElem h]
  exact List.drop_eq_getElem_cons h
theorem take31 (l : List S31) (j : Nat) (h : j < l.length) : l.take (j + 1) = l.take j ++ [l.getD j z31] := by
  rw [List.take_succ_eq_append_getElem h, List.getD_eq_getElem?_getD, List.getElem?_eq_getElem h]; rfl
theorem markedCS_step (a : Int) (l : List S31) (j : Nat) (h : j < l.length) : (markedCS a (l.take j) ++ l.drop j).set j (mkC (a + dtot (l.take j)) (l.getD j z31)) = markedCS a (l.take (j + 1)) ++ l.drop (j + 1) := by
  have hl : (markedCS a (l.take j)).length = j := by rw [markedCS_length, List.length_take]; omega
  rw [drop31 h, take31 l j h, markedCS_append, List.set_append_right _ _ (by omega), hl, Nat.sub_self, List.set_cons_zero, List.append_assoc]
  rfl
theorem markedCS_at (a : Int) (l : List S31) (j : Nat) (h : j < l.length) : (markedCS a (l.take j) ++ l.drop j).getD j z31 = l.getD j z31 := by
  have hl : (markedCS a (l.take j)).length = j := by rw [markedCS_length, List.length_take]; omega
  rw [List.getD_eq_getElem?_getD, List.getElem?_append_right (by omega), hl, Nat.sub_self, drop31 h]
  rfl
theorem dtot_snoc (l : List S31) (j : Nat) (h : j < l.length) : dtot (l.take (j + 1)) = dtot (l.take j) + (2 + (l.getD j z31).f2.length + (l.getD j z31).f3.length) := by
  rw [take31 l j h, dtot_append]
  simp [dtot]
theorem dtot_take (l : List S31) (j : Nat) : dtot (l.take j) ≤ dtot l := by
  have := dtot_append (l.take j) (l.drop j)
  rw [List.take_append_drop] at this
  omega
/-- What a claim that came in is. -/
def cq (x : S58) : Prop := (Lit.int .i64 x.f0).wf = true ∧ (Lit.int .i64 x.f1).wf = true ∧ (x.f2.length ≤ maxLen ∧ ∀ v0 ∈ x.f2, (Lit.int .u8 v0).wf = true) ∧ (x.f3.length ≤ maxLen ∧ ∀ v0 ∈ x.f3, (Lit.int .i64 v0).wf = true)
theorem digest_a (a0 : Int) (l : List Int) (h1 : 2 ≤ a0 ∧ a0 ≤ 60) (h2 : l.length ≤ 4000) : impl_Squeeze.f a0 l 1 = some ([Dig.out a0 (Dig.rnds 6 (Dig.taken l))], true) := by
  unfold impl_Squeeze.f
  rw [if_pos h1, if_pos h2, if_pos (by decide)]
  generalize Dig.rnds 6 (Dig.taken l) = s
  simp only [Int.toNat_one, Dig.squeeze]
theorem digest_b (a0 : Int) (l : List Int) (h : ¬ ((2 ≤ a0 ∧ a0 ≤ 60) ∧ l.length ≤ 4000)) : impl_Squeeze.f a0 l 1 = some ([], false) := by
  unfold impl_Squeeze.f
  by_cases h1 : 2 ≤ a0 ∧ a0 ≤ 60
  · rw [if_pos h1, if_neg (fun h2 => h ⟨h1, h2⟩)]
  · rw [if_neg h1]
theorem digest_fin (x : Int) : ((some ([x], true) : Option (List Int × Bool)).bind fun bt => (if bt.2 = true then (if 0 < (bt.1.length : Int) then (some (rd bt.1 0)) else (none)) else (some (-1)))) = some x := by
  rw [Option.bind_some, if_pos rfl, if_pos (by simp)]
  rfl
theorem digest_non : ((some ([], false) : Option (List Int × Bool)).bind fun bt => (if bt.2 = true then (if 0 < (bt.1.length : Int) then (some (rd bt.1 0)) else (none)) else (some (-1)))) = some (-1) := by
  rw [Option.bind_some, if_neg (by simp)]
theorem impl_digest (a0 : Int) (l : List Int) : impl_Digest.f a0 l = some (Dig.digest a0 l) := by
  unfold impl_Digest.f
  by_cases h1 : 2 ≤ a0 ∧ a0 ≤ 60
  · by_cases h2 : l.length ≤ 4000
    · have e : Dig.digest a0 l = Dig.out a0 (Dig.rnds 6 (Dig.taken l)) := by
        unfold Dig.digest
        rw [if_pos h1, if_pos h2]
      rw [digest_a a0 l h1 h2, e]
      exact digest_fin _
    · have e : Dig.digest a0 l = -1 := by
        unfold Dig.digest
        rw [if_pos h1, if_neg h2]
      rw [digest_b a0 l (fun h => h2 h.2), e]
      exact digest_non
  · have e : Dig.digest a0 l = -1 := by
      unfold Dig.digest
      rw [if_neg h1]
    rw [digest_b a0 l (fun h => h1 h.1), e]
    exact digest_non

theorem spec_turn13 (x : Int) : spec_l1Turn.f x 13 = some (Dig.r13 x) := by
  have e : wrap64 (64 - 13) = 51 := by unfold wrap64; decide
  unfold spec_l1Turn.f
  rw [e, if_pos (by decide), if_pos (by decide)]
  have e1 : shl .u64 x 13 = IntKind.u64.wrap (x * 8192) := by
    unfold shl
    rw [show (2 : Int) ^ min (13 : Int).toNat IntKind.u64.bits = 8192 by decide]
  have e2 : shr .u64 x 51 = x / 2251799813685248 := by
    unfold shr
    rw [show (2 : Int) ^ min (51 : Int).toNat IntKind.u64.bits = 2251799813685248 by decide]
  rw [e1, e2]
  rfl
theorem spec_turn29 (x : Int) : spec_l1Turn.f x 29 = some (Dig.r29 x) := by
  have e : wrap64 (64 - 29) = 35 := by unfold wrap64; decide
  unfold spec_l1Turn.f
  rw [e, if_pos (by decide), if_pos (by decide)]
  have e1 : shl .u64 x 29 = IntKind.u64.wrap (x * 536870912) := by
    unfold shl
    rw [show (2 : Int) ^ min (29 : Int).toNat IntKind.u64.bits = 536870912 by decide]
  have e2 : shr .u64 x 35 = x / 34359738368 := by
    unfold shr
    rw [show (2 : Int) ^ min (35 : Int).toNat IntKind.u64.bits = 34359738368 by decide]
  rw [e1, e2]
  rfl
theorem spec_turn41 (x : Int) : spec_l1Turn.f x 41 = some (Dig.r41 x) := by
  have e : wrap64 (64 - 41) = 23 := by unfold wrap64; decide
  unfold spec_l1Turn.f
  rw [e, if_pos (by decide), if_pos (by decide)]
  have e1 : shl .u64 x 41 = IntKind.u64.wrap (x * 2199023255552) := by
    unfold shl
    rw [show (2 : Int) ^ min (41 : Int).toNat IntKind.u64.bits = 2199023255552 by decide]
  have e2 : shr .u64 x 23 = x / 8388608 := by
    unfold shr
    rw [show (2 : Int) ^ min (23 : Int).toNat IntKind.u64.bits = 8388608 by decide]
  rw [e1, e2]
  rfl
theorem spec_round (a b c : Int) : spec_l1Round.f a b c = some (Dig.rnd (a, b, c)) := by
  unfold spec_l1Round.f
  simp only [spec_turn13, spec_turn29, spec_turn41, Option.bind_some, Dig.rnd0_left, Dig.rnd1_left, Dig.rnd2_left]
  rfl
theorem spec_out_l0 (bits : Int) (hb : 0 ≤ bits) (m : Nat) (hm : m ≤ 1000) (n : Nat) : ∀ (i : Nat) (a b c : Int), i + n = m →
    Ev (fun k => spec_l1Out.l0 k bits (m : Int) (i : Int) a b c) (Dig.out bits (Dig.rnds n (a, b, c))) := by
  induction n with
  | zero =>
    intro i a b c hi
    refine Ev.step (fun k => spec_l1Out.l0.eq_2 ..) ?_
    exact ev_neg (by omega) (ev_pos hb (ev_ret rfl))
  | succ n ih =>
    intro i a b c hi
    refine Ev.step (fun k => spec_l1Out.l0.eq_2 ..) ?_
    refine ev_pos (by omega) (ev_pure (spec_round a b c) ?_)
    rw [wr_succ (by omega)]
    exact ih (i + 1) _ _ _ (by omega)
theorem spec_out {bits : Int} (hb : 0 ≤ bits) (a b c : Int) (m : Nat) (hm : m ≤ 1000) : Ev (fun k => spec_l1Out.f k bits a b c (m : Int)) (Dig.out bits (Dig.rnds m (a, b, c))) := by
  unfold spec_l1Out.f
  exact spec_out_l0 bits hb m hm m 0 a b c (Nat.zero_add _)
theorem spec_digest_l0 {bits : Int} (hb : 0 ≤ bits) (l : List Int) (hl : l.length ≤ 4000) (n : Nat) : ∀ (i : Nat) (a b c : Int), i + n = l.length → Dig.takes (l.take i) (1, 2, 3) = (a, b, c) →
    Ev (fun k => spec_Digest.l0 k bits l (i : Int) a b c) (Dig.out bits (Dig.rnds 6 (Dig.taken l))) := by
  induction n with
  | zero =>
    intro i a b c hi hs
    refine Ev.step (fun k => spec_Digest.l0.eq_2 ..) ?_
    rw [List.take_of_length_le (by omega)] at hs
    refine ev_neg (by omega) ?_
    have e : Dig.taken l = (Go.bits .xor .u64 a (IntKind.u64.wrap (l.length : Int)), b, c) := by
      unfold Dig.taken
      rw [hs]
      rfl
    refine ev_bind (a := Dig.out bits (Dig.rnds 6 (Dig.taken l))) ?_ (ev_ret rfl)
    rw [e]
    exact spec_out hb _ _ _ 6 (by decide)
  | succ n ih =>
    intro i a b c hi hs
    refine Ev.step (fun k => spec_Digest.l0.eq_2 ..) ?_
    refine ev_pos (by omega) (ev_pos (by omega) (ev_pure (spec_round _ _ _) (ev_pure (spec_round _ _ _) ?_)))
    rw [wr_succ (by omega)]
    refine ih (i + 1) _ _ _ (by omega) ?_
    have et : l.take (i + 1) = l.take i ++ [rd l (i : Int)] := by
      rw [rd_nat, take_getD l 0 i (by omega)]
    rw [et, Dig.takes_snoc, hs]
    rfl
theorem spec_digest (a0 : Int) (l : List Int) : Ev (fun k => spec_Digest.f k a0 l) (Dig.digest a0 l) := by
  unfold spec_Digest.f Dig.digest
  refine ev_pure (a := decide (2 ≤ a0 ∧ a0 ≤ 60)) (by unfold spec_l1In.f; by_cases h : a0 ≥ 2 <;> simp [h]) ?_
  by_cases h1 : 2 ≤ a0 ∧ a0 ≤ 60
  · rw [if_pos h1]
    refine ev_pos (by simp [h1]) ?_
    refine Ev.step (fun k => spec_Digest.j0.eq_2 ..) ?_
    by_cases h2 : l.length ≤ 4000
    · rw [if_pos h2]
      refine ev_neg (by simp; omega) ?_
      exact spec_digest_l0 (by omega) l h2 l.length 0 1 2 3 (Nat.zero_add _) rfl
    · rw [if_neg h2]
      exact ev_pos (by simp; omega) (ev_ret rfl)
  · rw [if_neg h1]
    refine ev_neg (by simp; omega) ?_
    refine Ev.step (fun k => spec_Digest.j0.eq_2 ..) ?_
    exact ev_pos rfl (ev_ret rfl)
/-- The last n bytes of a number, the highest first. -/
def be : Nat → Nat → List Int
  | 0, _ => []
  | n + 1, x => be n (x / 256) ++ [((x % 256 : Nat) : Int)]
theorem be_length (n : Nat) : ∀ x, (be n x).length = n := by
  induction n with
  | zero => intro x; rfl
  | succ n ih => intro x; simp [be, ih]
/-- The eight bytes of a number, nothing below 0. -/
def eightOf (x : Int) : List Int := if x < 0 then [] else be 8 x.toNat
theorem impl_high_l0 (n : Nat) : ∀ (x : Nat) (t : List Int), n ≤ 8 → t.length = 8 - n →
    Ev (fun k => impl_high.l0 k (x : Int) (List.replicate n 0 ++ t) ((n : Int) - 1)) (be n x ++ t) := by
  induction n with
  | zero =>
    intro x t _ _
    refine Ev.step (fun k => impl_high.l0.eq_2 ..) ?_
    exact ev_neg (by omega) (ev_ret rfl)
  | succ n ih =>
    intro x t hn ht
    refine Ev.step (fun k => impl_high.l0.eq_2 ..) ?_
    refine ev_pos (by omega) (ev_pos (by omega) (ev_pos (by rw [List.length_append, List.length_replicate, ht]; omega) ?_))
    have e1 : wrap64 (((n + 1 : Nat) : Int) - 1 - 1) = (n : Int) - 1 := by rw [wr (by omega) (by omega)]; omega
    have e2 : (((n + 1 : Nat) : Int) - 1).toNat = n := by omega
    have e3 : (x : Int) / 256 = ((x / 256 : Nat) : Int) := by omega
    have e4 : (x : Int) % 256 = ((x % 256 : Nat) : Int) := by omega
    rw [e1, e2, e3, e4]
    have e5 : (List.replicate (n + 1) (0 : Int) ++ t).set n ((x % 256 : Nat) : Int) = List.replicate n 0 ++ (((x % 256 : Nat) : Int) :: t) := by
      rw [List.replicate_succ', List.append_assoc, List.set_append_right _ _ (by rw [List.length_replicate]; exact Nat.le_refl _), List.length_replicate, Nat.sub_self]
      rfl
    rw [e5]
    have := ih (x / 256) (((x % 256 : Nat) : Int) :: t) (by omega) (by rw [List.length_cons, ht]; omega)
    simp only [be, List.append_assoc, List.singleton_append]
    exact this
theorem impl_eight {x : Int} (hx : x ≤ 9223372036854775807) : Ev (fun k => impl_Eight.f k x) (eightOf x) := by
  unfold impl_Eight.f eightOf
  by_cases h : x < 0
  · rw [if_pos h]
    exact ev_pos h (ev_ret rfl)
  · rw [if_neg h]
    refine ev_neg h (ev_bind (a := be 8 x.toNat) ?_ (ev_ret rfl))
    unfold impl_high.f
    refine ev_pos (by decide) (ev_pos (by decide) ?_)
    have := impl_high_l0 8 x.toNat [] (by decide) rfl
    rw [Int.toNat_of_nonneg (by omega)] at this
    simpa [wrap64] using this
theorem spec_eight_l0 (x : Nat) (hx : x ≤ 9223372036854775807) (n : Nat) : ∀ (i : Nat), i + n = 8 →
    Ev (fun k => spec_Eight.l0 k (x : Int) (be i (x / 256 ^ n)) ((n : Int) - 1)) (be 8 x) := by
  induction n with
  | zero =>
    intro i hi
    refine Ev.step (fun k => spec_Eight.l0.eq_2 ..) ?_
    obtain rfl : i = 8 := by omega
    refine ev_neg (by omega) (ev_ret ?_)
    rw [Nat.pow_zero, Nat.div_one]
  | succ n ih =>
    intro i hi
    refine Ev.step (fun k => spec_Eight.l0.eq_2 ..) ?_
    have e1 : wrap64 (8 * (((n + 1 : Nat) : Int) - 1)) = ((8 * n : Nat) : Int) := by rw [wr (by omega) (by omega)]; omega
    have e2 : wrap64 (((n + 1 : Nat) : Int) - 1 - 1) = (n : Int) - 1 := by rw [wr (by omega) (by omega)]; omega
    have e3 : shr .i64 (x : Int) ((8 * n : Nat) : Int) = ((x / 256 ^ n : Nat) : Int) := by
      unfold shr
      have e : (256 : Nat) ^ n = 2 ^ (8 * n) := by rw [show (256 : Nat) = 2 ^ 8 from rfl, ← Nat.pow_mul]
      rw [Int.toNat_natCast, Nat.min_eq_left (show 8 * n ≤ IntKind.i64.bits by show 8 * n ≤ 64; omega), e]
      simp
    have e4 : ((x / 256 ^ n : Nat) : Int) % 256 = ((x / 256 ^ n % 256 : Nat) : Int) := by omega
    rw [e1, e2]
    refine ev_pos (by omega) (ev_pos (by omega) (ev_pos (by rw [be_length]; omega) ?_))
    rw [e3, e4]
    have := ih (i + 1) (by omega)
    have e5 : be (i + 1) (x / 256 ^ n) = be i (x / 256 ^ (n + 1)) ++ [((x / 256 ^ n % 256 : Nat) : Int)] := by
      rw [Nat.pow_succ, ← Nat.div_div_eq_div_mul]
      rfl
    rw [e5] at this
    exact this
theorem spec_eight {x : Int} (hx : x ≤ 9223372036854775807) : Ev (fun k => spec_Eight.f k x) (eightOf x) := by
  unfold spec_Eight.f eightOf
  refine ev_some ?_
  by_cases h : x < 0
  · rw [if_pos h]
    exact ev_pos h (ev_ret rfl)
  · rw [if_neg h]
    refine ev_neg h ?_
    have := spec_eight_l0 x.toNat (by omega) 8 0 rfl
    rw [Int.toNat_of_nonneg (by omega)] at this
    exact this
theorem impl_leafin {l : List Int} (hl : l.length ≤ 140737488355000) : impl_leafInput.f l = some (0 :: l) := by
  unfold impl_leafInput.f
  rw [Option.bind_some, if_pos (by simp only [List.length_singleton]; omega)]
  rfl
theorem impl_leaf (a : Int) {l : List Int} (hl : l.length ≤ 140737488355000) : impl_LeafOf.f a l = some (Dig.digest a (0 :: l)) := by
  unfold impl_LeafOf.f
  rw [impl_leafin hl, Option.bind_some, impl_digest, Option.bind_some]
theorem spec_leafin {l : List Int} (hl : l.length ≤ 140737488355000) : spec_l2Leaf.f l = some (0 :: l) := by
  unfold spec_l2Leaf.f
  rw [Option.bind_some, if_pos (by simp only [List.length_singleton]; omega)]
  rfl
theorem spec_leaf (a : Int) {l : List Int} (hl : l.length ≤ 140737488355000) : Ev (fun k => spec_LeafOf.f k a l) (Dig.digest a (0 :: l)) := by
  unfold spec_LeafOf.f
  exact ev_pure (spec_leafin hl) (ev_bind (spec_digest a (0 :: l)) (ev_ret rfl))
theorem shl_one {b : Int} (h : 2 ≤ b ∧ b ≤ 60) : shl .i64 1 b = 2 ^ b.toNat ∧ (4 : Int) ≤ 2 ^ b.toNat ∧ (2 : Int) ^ b.toNat ≤ 1152921504606846976 := by
  have h1 := Dig.two_pow_le b.toNat (by omega)
  have e60 : (2 : Nat) ^ 60 = 1152921504606846976 := by decide
  have ec : (2 : Int) ^ b.toNat = ((2 ^ b.toNat : Nat) : Int) := by simp
  have h2 : 2 ^ 2 ≤ 2 ^ b.toNat := Nat.pow_le_pow_right (by decide) (by omega)
  unfold shl
  rw [Nat.min_eq_left (show b.toNat ≤ IntKind.i64.bits by show b.toNat ≤ 64; omega), IntKind.wrap_i64, ec]
  omega
/-- A number that is a digest of so many bits. -/
def okd (b x : Int) : Prop := (2 ≤ b ∧ b ≤ 60) ∧ 0 ≤ x ∧ x < 2 ^ b.toNat
instance (b x : Int) : Decidable (okd b x) := by unfold okd; infer_instance
theorem okd_le {b x : Int} (h : okd b x) : 0 ≤ x ∧ x ≤ 9223372036854775807 := by
  have := (shl_one h.1).2.2
  have := h.2
  omega
theorem impl_in_eq (a b c : Int) : impl_in.f a b c = some (decide (b ≤ a ∧ a ≤ c)) := by
  unfold impl_in.f
  by_cases h : a ≥ b <;> simp [h]
theorem impl_bits_eq (a : Int) : impl_bitsOk.f a = some (decide (2 ≤ a ∧ a ≤ 60)) := by
  unfold impl_bitsOk.f
  rw [impl_in_eq, Option.bind_some]
theorem impl_isdig (b x : Int) : impl_isDigest.f b x = some (decide (okd b x)) := by
  unfold impl_isDigest.f
  rw [impl_bits_eq, Option.bind_some]
  by_cases h : 2 ≤ b ∧ b ≤ 60
  · obtain ⟨h1, h2, h3⟩ := shl_one h
    rw [if_pos (by simp [h]), if_pos (by omega), h1, wr (by omega) (by omega), impl_in_eq, Option.bind_some]
    congr 1
    apply decide_eq_decide.2
    unfold okd
    omega
  · rw [if_neg (by simp [h])]
    congr 1
    exact (decide_eq_false (fun k => h k.1)).symm
theorem spec_in_eq (a b c : Int) : spec_l1In.f a b c = some (decide (b ≤ a ∧ a ≤ c)) := by
  unfold spec_l1In.f
  by_cases h : a ≥ b <;> simp [h]
theorem spec_isdig (b x : Int) : spec_l2Digest.f b x = some (decide (okd b x)) := by
  unfold spec_l2Digest.f
  rw [spec_in_eq, Option.bind_some]
  by_cases h : 2 ≤ b ∧ b ≤ 60
  · obtain ⟨h1, h2, h3⟩ := shl_one h
    rw [if_pos (by simp [h]), if_pos (by omega), h1, wr (by omega) (by omega), spec_in_eq, Option.bind_some]
    congr 1
    apply decide_eq_decide.2
    unfold okd
    omega
  · rw [if_neg (by simp [h])]
    congr 1
    exact (decide_eq_false (fun k => h k.1)).symm
theorem eightOf_le (x : Int) : (eightOf x).length ≤ 8 := by
  unfold eightOf; split
  · simp
  · rw [be_length]; omega
/-- What a node's digest is taken of. -/
def nodeIn (x y : Int) : List Int := 1 :: (eightOf x ++ eightOf y)
theorem nodeIn_le (x y : Int) : (nodeIn x y).length ≤ 17 := by
  have := eightOf_le x
  have := eightOf_le y
  unfold nodeIn
  simp only [List.length_cons, List.length_append]
  omega
theorem impl_nodein {x y : Int} (hx : x ≤ 9223372036854775807) (hy : y ≤ 9223372036854775807) : Ev (fun k => impl_nodeInput.f k x y) (nodeIn x y) := by
  unfold impl_nodeInput.f
  have h1 := eightOf_le x
  have h2 := eightOf_le y
  refine ev_bind (impl_eight hx) (ev_bind (impl_eight hy) (ev_pure (a := nodeIn x y) ?_ (ev_ret rfl)))
  unfold slices_Concat_byte_byte.f nodeIn
  generalize eightOf x = p at h1 ⊢
  generalize eightOf y = q at h2 ⊢
  have e : [[1], p, q].flatten = 1 :: (p ++ q) := by simp
  rw [e, if_pos (by simp only [List.length_cons, List.length_append]; omega)]
/-- A node's digest. -/
def node (b x y : Int) : Int := if okd b x ∧ okd b y then Dig.digest b (nodeIn x y) else -1
theorem impl_node (b x y : Int) : Ev (fun k => impl_NodeOf.f k b x y) (node b x y) := by
  unfold impl_NodeOf.f node
  refine ev_pure (impl_isdig b x) ?_
  by_cases h1 : okd b x
  · refine ev_pos (decide_eq_true h1) (ev_pure (impl_isdig b y) (Ev.step (fun k => impl_NodeOf.j0.eq_2 ..) ?_))
    by_cases h2 : okd b y
    · rw [if_pos ⟨h1, h2⟩]
      exact ev_neg (by simp [h2]) (ev_bind (impl_nodein (okd_le h1).2 (okd_le h2).2) (ev_pure (impl_digest b (nodeIn x y)) (ev_ret rfl)))
    · rw [if_neg (fun h => h2 h.2)]
      exact ev_pos (by simp [h2]) (ev_ret rfl)
  · rw [if_neg (fun h => h1 h.1)]
    exact ev_neg (by simp [h1]) (Ev.step (fun k => impl_NodeOf.j0.eq_2 ..) (ev_pos rfl (ev_ret rfl)))
theorem spec_nodein {x y : Int} (hx : x ≤ 9223372036854775807) (hy : y ≤ 9223372036854775807) : Ev (fun k => spec_l2Node.f k x y) (nodeIn x y) := by
  unfold spec_l2Node.f nodeIn
  have h1 := eightOf_le x
  have h2 := eightOf_le y
  refine ev_some (ev_bind (spec_eight hx) (ev_pos (by simp only [List.length_singleton]; omega) (ev_some (ev_bind (spec_eight hy) (ev_pos (by simp only [List.length_append, List.length_singleton]; omega) (ev_ret ?_))))))
  simp
theorem spec_node (b x y : Int) : Ev (fun k => spec_NodeOf.f k b x y) (node b x y) := by
  unfold spec_NodeOf.f node
  refine ev_pure (spec_isdig b x) ?_
  by_cases h1 : okd b x
  · refine ev_pos (decide_eq_true h1) (ev_pure (spec_isdig b y) (Ev.step (fun k => spec_NodeOf.j0.eq_2 ..) ?_))
    by_cases h2 : okd b y
    · rw [if_pos ⟨h1, h2⟩]
      exact ev_neg (by simp [h2]) (ev_bind (spec_nodein (okd_le h1).2 (okd_le h2).2) (ev_bind (spec_digest b (nodeIn x y)) (ev_ret rfl)))
    · rw [if_neg (fun h => h2 h.2)]
      exact ev_pos (by simp [h2]) (ev_ret rfl)
  · rw [if_neg (fun h => h1 h.1)]
    exact ev_neg (by simp [h1]) (Ev.step (fun k => spec_NodeOf.j0.eq_2 ..) (ev_pos rfl (ev_ret rfl)))
/-- What a top's digest is taken of. -/
def topIn (many : Nat) (x : Int) : List Int := 2 :: (many : Int) :: eightOf x
theorem topIn_le (many : Nat) (x : Int) : (topIn many x).length ≤ 10 := by
  have := eightOf_le x
  unfold topIn
  simp only [List.length_cons]
  omega
/-- The place beside. -/
def beside (a : Nat) : Nat := if a % 2 = 0 then a + 1 else a - 1
/-- The input of a step up. -/
def stepIn (a : Nat) (q x : Int) : List Int := if a % 2 = 1 then nodeIn q x else nodeIn x q
/-- The way up from a place: the nodes' inputs, what is left of the path, and the digest at the end. -/
def ups (b : Int) : Nat → Nat → Nat → Int → List Int → Option (List (List Int) × List Int × Int)
  | 0, _, _, x, p => some ([], p, x)
  | n + 1, size, a, x, p =>
    if 1 < size then
      if beside a < size then
        match p with
        | [] => none
        | q :: p => (ups b n ((size + 1) / 2) (a / 2) (Dig.digest b (stepIn a q x)) p).map fun r => (stepIn a q x :: r.1, r.2)
      else ups b n ((size + 1) / 2) (a / 2) x p
    else some ([], p, x)
/-- All that a way up must hold to. -/
def upOk (b many at_ : Int) (leaf path : List Int) : Prop := (1 ≤ many ∧ many ≤ 16) ∧ (0 ≤ at_ ∧ at_ < many) ∧ (2 ≤ b ∧ b ≤ 60) ∧ leaf.length < 4000 ∧ ∀ p ∈ path, okd b p
instance (b many at_ : Int) (leaf path : List Int) : Decidable (upOk b many at_ leaf path) := by unfold upOk; infer_instance
theorem upOk_okd {b many at_ : Int} {leaf path : List Int} (h : upOk b many at_ leaf path) : okd b (Dig.digest b (0 :: leaf)) := by
  obtain ⟨_, _, h3, h4, _⟩ := h
  exact ⟨h3, Dig.digest_range h3.1 h3.2 (by simp only [List.length_cons]; omega)⟩
theorem node_okd {b : Int} (hb : 2 ≤ b ∧ b ≤ 60) (x y : Int) : okd b (Dig.digest b (nodeIn x y)) :=
  ⟨hb, Dig.digest_range hb.1 hb.2 (by have := nodeIn_le x y; omega)⟩
/-- The inputs of a way up, the top's the last. -/
def climbed (b many at_ : Int) (leaf path : List Int) : List (List Int) × Bool :=
  if upOk b many at_ leaf path then
    match ups b 16 many.toNat at_.toNat (Dig.digest b (0 :: leaf)) path with
    | none => ([], false)
    | some (l, r, y) => ((0 :: leaf) :: (l ++ [topIn many.toNat y]), decide (r = []))
  else ([], false)
/-- RootFrom's answer. -/
def rootFrom (b many at_ : Int) (leaf path : List Int) : Int :=
  if upOk b many at_ leaf path then
    match ups b 16 many.toNat at_.toNat (Dig.digest b (0 :: leaf)) path with
    | none => -1
    | some (_, r, y) => if r = [] then Dig.digest b (topIn many.toNat y) else -1
  else -1
theorem half_nat (a : Nat) (h : a ≤ 1000) : wrap64 (Int.tdiv (a : Int) 2) = ((a / 2 : Nat) : Int) := by
  rw [Int.tdiv_eq_ediv_of_nonneg (by omega), wr (by omega) (by omega)]
  omega
theorem odd_nat (a : Nat) : Int.tmod (a : Int) 2 = ((a % 2 : Nat) : Int) := by
  rw [Int.tmod_eq_emod_of_nonneg (by omega)]
  omega
theorem ups_le (b : Int) (n size a : Nat) (x : Int) (p : List Int) (h : size ≤ 1) : ups b (n + 1) size a x p = some ([], p, x) := by
  unfold ups
  rw [if_neg (by omega)]
theorem ups_nil (b : Int) (n size a : Nat) (x : Int) (h : 1 < size) (h2 : beside a < size) : ups b (n + 1) size a x [] = none := by
  rw [ups, if_pos h, if_pos h2]
theorem step_okd {b : Int} (hb : 2 ≤ b ∧ b ≤ 60) (a : Nat) (q x : Int) : okd b (Dig.digest b (stepIn a q x)) := by
  by_cases h : a % 2 = 1
  · have e : stepIn a q x = nodeIn q x := if_pos h
    rw [e]
    exact node_okd hb _ _
  · have e : stepIn a q x = nodeIn x q := if_neg h
    rw [e]
    exact node_okd hb _ _
theorem ups_step (b : Int) (n size a : Nat) (x q : Int) (p : List Int) (h : 1 < size) (h2 : beside a < size) : ups b (n + 1) size a x (q :: p) = (ups b n ((size + 1) / 2) (a / 2) (Dig.digest b (stepIn a q x)) p).map fun r => (stepIn a q x :: r.1, r.2) := by
  rw [ups, if_pos h, if_pos h2]
theorem ups_skip (b : Int) (n size a : Nat) (x : Int) (p : List Int) (h : 1 < size) (h2 : ¬ beside a < size) : ups b (n + 1) size a x p = ups b n ((size + 1) / 2) (a / 2) x p := by
  cases p <;> rw [ups, if_pos h, if_neg h2]
theorem xor_one : ∀ a : Fin 16, Go.bits .xor .i64 ((a.val : Nat) : Int) 1 = ((beside a.val : Nat) : Int) := by decide
theorem impl_leafin' {l : List Int} (hl : l.length < 4000) : impl_leafInput.f l = some (0 :: l) := by
  unfold impl_leafInput.f
  rw [Option.bind_some, if_pos (by simp only [List.length_singleton]; omega)]
  rfl
theorem impl_topin {many : Nat} {x : Int} (hm : many ≤ 16) (hx : x ≤ 9223372036854775807) : Ev (fun k => impl_topInput.f k (many : Int) x) (topIn many x) := by
  unfold impl_topInput.f topIn
  have h1 := eightOf_le x
  have e : (many : Int) % 256 = many := by omega
  rw [e]
  exact ev_some (ev_bind (impl_eight hx) (ev_pos (by simp only [List.length_cons, List.length_nil]; omega) (ev_ret rfl)))
theorem rd_last (l : List (List Int)) (x : List Int) (hl : l.length ≤ 1000) : rd_L1 (l ++ [x]) (wrap64 (((l ++ [x]).length : Int) - 1)) = x := by
  have e : wrap64 (((l ++ [x]).length : Int) - 1) = (l.length : Int) := by
    rw [List.length_append, List.length_singleton, wr (by omega) (by omega)]
    omega
  rw [e]
  unfold rd_L1
  rw [Int.toNat_natCast, List.getD_eq_getElem?_getD, List.getElem?_append_right (Nat.le_refl _), Nat.sub_self]
  rfl
theorem last_le (l : List (List Int)) (x : List Int) (hl : l.length ≤ 1000) : 0 ≤ wrap64 (((l ++ [x]).length : Int) - 1) ∧ wrap64 (((l ++ [x]).length : Int) - 1) < ((l ++ [x]).length : Int) := by
  rw [List.length_append, List.length_singleton, wr (by omega) (by omega)]
  omega
/-- What climb answers behind its leaf. -/
def climbEnd (many : Nat) (out : List (List Int)) : Option (List (List Int) × List Int × Int) → List (List Int) × Bool
  | none => ([], false)
  | some (l, r, y) => (out ++ (l ++ [topIn many y]), decide (r = []))
theorem climbEnd_some (many : Nat) (out l : List (List Int)) (r : List Int) (y : Int) : climbEnd many out (some (l, r, y)) = (out ++ (l ++ [topIn many y]), decide (r = [])) := rfl
theorem nil_len (p : List Int) : ((p.length : Int) == 0) = decide (p = []) := by
  cases p with
  | nil => rfl
  | cons x p =>
    rw [decide_eq_false (by simp)]
    simp only [List.length_cons, beq_eq_false_iff_ne]
    omega
theorem climb_l0 {b : Int} (hb : 2 ≤ b ∧ b ≤ 60) (many : Nat) (hm : many ≤ 16) (n : Nat) : ∀ (size a : Nat) (x : Int) (p : List Int) (out : List (List Int)), size ≤ n + 1 → size ≤ 16 → a < 16 → okd b x → (∀ q ∈ p, okd b q) → out.length + n ≤ 100 →
    Ev (fun k => impl_climb.l0 k b (many : Int) (a : Int) p out x (size : Int)) (climbEnd many out (ups b (n + 1) size a x p)) := by
  induction n with
  | zero =>
    intro size a x p out hs _ _ hx hp ho
    refine Ev.step (fun k => impl_climb.l0.eq_2 ..) (ev_neg (by omega) (ev_bind (impl_topin hm (okd_le hx).2) (ev_pos (by omega) (ev_ret ?_))))
    rw [ups_le b 0 size a x p (by omega), climbEnd_some, nil_len, List.nil_append]
  | succ n ih =>
    intro size a x p out hs hs2 ha hx hp ho
    refine Ev.step (fun k => impl_climb.l0.eq_2 ..) ?_
    by_cases h1 : 1 < size
    · have e1 : wrap64 ((size : Int) + 1) = ((size + 1 : Nat) : Int) := wr_succ (by omega)
      rw [e1, half_nat a (by omega), half_nat (size + 1) (by omega), xor_one ⟨a, ha⟩, odd_nat a]
      refine ev_pos (by omega) ?_
      by_cases h2 : beside a < size
      · refine ev_pos (by show ((beside a : Nat) : Int) < size; omega) ?_
        cases p with
        | nil =>
          rw [ups_nil b (n + 1) size a x h1 h2]
          exact ev_pos rfl (ev_ret rfl)
        | cons q p =>
          rw [ups_step b (n + 1) size a x q p h1 h2]
          have hq : okd b q := hp q List.mem_cons_self
          have hp2 : ∀ r ∈ p, okd b r := fun r hr => hp r (List.mem_cons_of_mem _ hr)
          have eq0 : rd (q :: p) 0 = q := rfl
          have ed0 : (q :: p).drop 1 = p := rfl
          rw [eq0, ed0]
          refine ev_neg (by simp only [List.length_cons]; omega) (ev_pos (by simp only [List.length_cons]; omega) ?_)
          have hr := ih ((size + 1) / 2) (a / 2) (Dig.digest b (stepIn a q x)) p (out ++ [stepIn a q x]) (by omega) (by omega) (by omega) (step_okd hb a q x) hp2 (by simp only [List.length_append, List.length_singleton]; omega)
          have hfin : ∀ u, climbEnd many (out ++ [stepIn a q x]) u = climbEnd many out (u.map fun r => (stepIn a q x :: r.1, r.2)) := by
            intro u
            generalize stepIn a q x = s
            cases u with
            | none => rfl
            | some u => obtain ⟨l, r, y⟩ := u; simp [climbEnd]
          rw [hfin] at hr
          by_cases h3 : a % 2 = 1
          · have es : stepIn a q x = nodeIn q x := if_pos h3
            refine ev_pos (by omega) (ev_pos (by simp only [List.length_cons]; omega) (ev_bind (impl_nodein (okd_le hq).2 (okd_le hx).2) ?_))
            rw [es] at hr ⊢
            refine ev_pos (by omega) (ev_some (ev_pos (last_le _ _ (by omega)).1 (ev_pos (last_le _ _ (by omega)).2 (ev_pure (impl_digest b _) ?_))))
            rw [rd_last _ _ (by omega)]
            exact hr
          · have es : stepIn a q x = nodeIn x q := if_neg h3
            refine ev_neg (by omega) (ev_pos (by simp only [List.length_cons]; omega) (ev_bind (impl_nodein (okd_le hx).2 (okd_le hq).2) ?_))
            rw [es] at hr ⊢
            refine ev_pos (by omega) (ev_some (ev_pos (last_le _ _ (by omega)).1 (ev_pos (last_le _ _ (by omega)).2 (ev_pure (impl_digest b _) ?_))))
            rw [rd_last _ _ (by omega)]
            exact hr
      · rw [ups_skip b (n + 1) size a x p h1 h2]
        exact ev_neg (by show ¬ ((beside a : Nat) : Int) < size; omega) (ih ((size + 1) / 2) (a / 2) x p out (by omega) (by omega) (by omega) hx hp (by omega))
    · refine ev_neg (by omega) (ev_bind (impl_topin hm (okd_le hx).2) (ev_pos (by omega) (ev_ret ?_)))
      rw [ups_le b (n + 1) size a x p (by omega), climbEnd_some, nil_len, List.nil_append]
theorem impl_leaves (b : Int) (l : List (List Int)) : impl_leavesOk.f b l = some (decide ((2 ≤ b ∧ b ≤ 60) ∧ 1 ≤ l.length ∧ l.length ≤ 16) && l.all fun x => decide (x.length < 4000)) := rfl
theorem impl_digs (b : Int) (l : List Int) : impl_digests.f b l = some (decide (∀ x ∈ l, okd b x)) := by
  unfold impl_digests.f
  rw [if_pos (List.all_eq_true.2 fun x _ => by rw [impl_isdig]; rfl)]
  congr 1
  rw [Bool.eq_iff_iff, List.all_eq_true]
  simp only [impl_isdig, Option.getD_some, decide_eq_true_eq]
theorem impl_climbed (b many at_ : Int) (leaf path : List Int) : Ev (fun k => impl_climb.f k b many at_ leaf path) (climbed b many at_ leaf path) := by
  unfold impl_climb.f
  have hno : ∀ a : Bool, a = true → ¬ upOk b many at_ leaf path → Ev (fun k => impl_climb.j0 k b many at_ leaf path a) (climbed b many at_ leaf path) := by
    intro a ha h
    subst ha
    unfold climbed
    rw [if_neg h]
    exact Ev.step (fun k => impl_climb.j0.eq_2 ..) (ev_pos rfl (ev_ret rfl))
  refine ev_pure (impl_in_eq _ _ _) ?_
  by_cases h1 : 1 ≤ many ∧ many ≤ 16
  · refine ev_pos (decide_eq_true h1) (ev_pure (impl_in_eq _ _ _) ?_)
    rw [wr (n := many - 1) (by omega) (by omega)]
    by_cases h2 : 0 ≤ at_ ∧ at_ ≤ many - 1
    · refine ev_pos (decide_eq_true h2) (ev_pure (impl_leaves b _) ?_)
      by_cases h3 : (2 ≤ b ∧ b ≤ 60) ∧ leaf.length < 4000
      · refine ev_pos (by simp [h3]) (ev_pure (impl_digs b path) ?_)
        by_cases h4 : ∀ p ∈ path, okd b p
        · have hu : upOk b many at_ leaf path := ⟨h1, ⟨h2.1, by omega⟩, h3.1, h3.2, h4⟩
          have hx := upOk_okd hu
          obtain ⟨m, rfl⟩ := Int.eq_ofNat_of_zero_le (by omega : 0 ≤ many)
          obtain ⟨a, rfl⟩ := Int.eq_ofNat_of_zero_le h2.1
          have hr := climb_l0 h3.1 m (by omega) 15 m a (Dig.digest b (0 :: leaf)) path [0 :: leaf] (by omega) (by omega) (by omega) hx h4 (by simp only [List.length_singleton]; omega)
          refine Ev.step (fun k => impl_climb.j0.eq_2 ..) (ev_neg (by simp; exact h4) (ev_pure (impl_leafin' h3.2) (ev_some (ev_pos (by simp only [List.length_singleton]; omega) (ev_pure (impl_digest b _) ?_)))))
          refine ev_eq hr ?_
          unfold climbed
          rw [if_pos hu, Int.toNat_natCast, Int.toNat_natCast]
          generalize ups b (15 + 1) m a (Dig.digest b (0 :: leaf)) path = u
          cases u with
          | none => rfl
          | some u => rfl
        · exact hno _ (by simp only [decide_eq_false h4]; rfl) (fun h => h4 h.2.2.2.2)
      · refine ev_neg ?_ (hno _ rfl (fun h => h3 ⟨h.2.2.1, h.2.2.2.1⟩))
        simp only [List.all_cons, List.all_nil, Bool.and_true, Bool.and_eq_true, decide_eq_true_eq]
        exact fun h => h3 ⟨h.1.1, h.2⟩
    · exact ev_neg (by simp only [decide_eq_true_eq]; exact h2) (hno _ rfl (fun h => h2 ⟨h.2.1.1, by have := h.2.1.2; omega⟩))
  · exact ev_neg (by simp only [decide_eq_true_eq]; exact h1) (hno _ rfl (fun h => h1 h.1))
theorem ups_length {b : Int} (n : Nat) : ∀ (size a : Nat) (x : Int) (p : List Int) {r}, ups b n size a x p = some r → r.1.length ≤ n := by
  induction n with
  | zero => intro size a x p r h; unfold ups at h; cases h; exact Nat.le_refl _
  | succ n ih =>
    intro size a x p r h
    by_cases h1 : 1 < size
    · by_cases h2 : beside a < size
      · cases p with
        | nil => rw [ups_nil b n size a x h1 h2] at h; cases h
        | cons q p =>
          rw [ups_step b n size a x q p h1 h2] at h
          obtain ⟨r', h1, rfl⟩ := Option.map_eq_some_iff.1 h
          have := ih _ _ _ _ h1
          simp only [List.length_cons]
          omega
      · rw [ups_skip b n size a x p h1 h2] at h
        have := ih _ _ _ _ h
        omega
    · rw [ups_le b n size a x p (by omega)] at h
      cases h
      exact Nat.zero_le _
theorem impl_lastof (b many at_ : Int) (leaf path : List Int) : impl_lastOf.f b (climbed b many at_ leaf path).1 (climbed b many at_ leaf path).2 = some (rootFrom b many at_ leaf path) := by
  unfold climbed rootFrom impl_lastOf.f
  by_cases hu : upOk b many at_ leaf path
  · rw [if_pos hu, if_pos hu]
    have hl := fun r => @ups_length b 16 many.toNat at_.toNat (Dig.digest b (0 :: leaf)) path r
    generalize ups b 16 many.toNat at_.toNat (Dig.digest b (0 :: leaf)) path = u at hl ⊢
    cases u with
    | none => rfl
    | some u =>
      obtain ⟨l, r, y⟩ := u
      have hl := hl _ rfl
      simp only at hl
      simp only []
      by_cases hr : r = []
      · have e1 := rd_last ((0 :: leaf) :: l) (topIn many.toNat y) (by simp only [List.length_cons]; omega)
        have e2 := last_le ((0 :: leaf) :: l) (topIn many.toNat y) (by simp only [List.length_cons]; omega)
        rw [List.cons_append] at e1 e2
        rw [if_pos (decide_eq_true hr), if_pos e2.1, if_pos e2.2, e1, impl_digest, if_pos hr]
        rfl
      · rw [if_neg (by simp [hr]), if_neg hr]
  · rw [if_neg hu, if_neg hu]
    rfl
theorem impl_root (b many at_ : Int) (leaf path : List Int) : Ev (fun k => impl_RootFrom.f k b many at_ leaf path) (rootFrom b many at_ leaf path) := by
  unfold impl_RootFrom.f
  exact ev_bind (impl_climbed b many at_ leaf path) (ev_pure (impl_lastof b many at_ leaf path) (ev_ret rfl))
theorem spec_leaf' (b : Int) {l : List Int} (hl : l.length < 4000) : Ev (fun k => spec_LeafOf.f k b l) (Dig.digest b (0 :: l)) := by
  unfold spec_LeafOf.f
  refine ev_pure (a := 0 :: l) ?_ (ev_bind (spec_digest b (0 :: l)) (ev_ret rfl))
  unfold spec_l2Leaf.f
  rw [Option.bind_some, if_pos (by simp only [List.length_singleton]; omega)]
  rfl
theorem spec_topin {many : Nat} {x : Int} (hm : many ≤ 16) (hx : x ≤ 9223372036854775807) : Ev (fun k => spec_l2Top.f k (many : Int) x) (topIn many x) := by
  unfold spec_l2Top.f topIn
  have h1 := eightOf_le x
  have e : (many : Int) % 256 = many := by omega
  rw [e]
  exact ev_some (ev_bind (spec_eight hx) (ev_pos (by simp only [List.length_cons, List.length_nil]; omega) (ev_ret rfl)))
theorem beside_eq (a : Nat) (h : a ≤ 100) : wrap64 ((wrap64 ((a : Int) + 1)) - (wrap64 (2 * (Int.tmod (a : Int) 2)))) = ((beside a : Nat) : Int) := by
  rw [odd_nat, wr (n := (a : Int) + 1) (by omega) (by omega), wr (n := 2 * ((a % 2 : Nat) : Int)) (by omega) (by omega), wr (by omega) (by omega)]
  unfold beside
  split <;> omega
/-- What the reference answers at the end of its way. -/
def rootEnd (b : Int) (many : Nat) : Option (List (List Int) × List Int × Int) → Int
  | none => -1
  | some (_, r, y) => if r = [] then Dig.digest b (topIn many y) else -1
theorem rootEnd_some (b : Int) (many : Nat) (l : List (List Int)) (r : List Int) (y : Int) : rootEnd b many (some (l, r, y)) = if r = [] then Dig.digest b (topIn many y) else -1 := rfl
theorem rootEnd_map (b : Int) (many : Nat) (i : List Int) (u : Option (List (List Int) × List Int × Int)) : rootEnd b many (u.map fun r => (i :: r.1, r.2)) = rootEnd b many u := by
  cases u with
  | none => rfl
  | some u => obtain ⟨l, r, y⟩ := u; rfl
theorem ite_iff {p q : Prop} [Decidable p] [Decidable q] (h : p ↔ q) (a b : Int) : (if p then a else b) = if q then a else b := by
  by_cases hq : q
  · rw [if_pos hq, if_pos (h.2 hq)]
  · rw [if_neg hq, if_neg (fun k => hq (h.1 k))]
theorem root_l0 {b : Int} (hb : 2 ≤ b ∧ b ≤ 60) (many : Nat) (hm : many ≤ 16) (path : List Int) (hpl : path.length ≤ 1048576) (n : Nat) : ∀ (size a : Nat) (x : Int) (p : List Int) (u : Nat), size ≤ n + 1 → size ≤ 16 → a < 16 → okd b x → path.drop u = p → u ≤ path.length →
    Ev (fun k => spec_RootFrom.l0 k b (many : Int) (a : Int) path x (u : Int) (size : Int)) (if ∀ q ∈ p, okd b q then rootEnd b many (ups b (n + 1) size a x p) else -1) := by
  have hend : ∀ (size a : Nat) (x : Int) (p : List Int) (u : Nat), size ≤ 1 → okd b x → path.drop u = p → u ≤ path.length → Ev (fun k => spec_RootFrom.l0 k b (many : Int) (a : Int) path x (u : Int) (size : Int)) (if ∀ q ∈ p, okd b q then (if p = [] then Dig.digest b (topIn many x) else -1) else -1) := by
    intro size a x p u hs hx hp hu
    refine Ev.step (fun k => spec_RootFrom.l0.eq_2 ..) (ev_neg (by omega) ?_)
    have hpl := congrArg List.length hp
    rw [List.length_drop] at hpl
    by_cases h : u = path.length
    · have : p = [] := List.length_eq_zero_iff.1 (by omega)
      subst this
      rw [if_pos (by simp), if_pos rfl]
      exact ev_pos (by omega) (ev_bind (spec_topin hm (okd_le hx).2) (ev_bind (spec_digest b _) (ev_ret rfl)))
    · have hne : p ≠ [] := fun e => by subst e; simp only [List.length_nil] at hpl; omega
      rw [if_neg hne, ite_self]
      exact ev_neg (by omega) (ev_ret rfl)
  induction n with
  | zero =>
    intro size a x p u hs _ _ hx hp hu
    rw [ups_le b 0 size a x p (by omega), rootEnd_some]
    exact hend size a x p u (by omega) hx hp hu
  | succ n ih =>
    intro size a x p u hs hs2 ha hx hp hu
    by_cases h1 : 1 < size
    · have s1 : (size + 1) / 2 ≤ n + 1 := by omega
      have s2 : (size + 1) / 2 ≤ 16 := by omega
      have s3 : a / 2 < 16 := by omega
      refine Ev.step (fun k => spec_RootFrom.l0.eq_2 ..) ?_
      have e1 : wrap64 ((size : Int) + 1) = ((size + 1 : Nat) : Int) := wr_succ (by omega)
      have hh1 : ∀ _ : Unit, wrap64 (Int.tdiv (a : Int) 2) = ((a / 2 : Nat) : Int) := fun _ => half_nat a (by omega)
      have hh2 : ∀ _ : Unit, wrap64 (Int.tdiv ((size + 1 : Nat) : Int) 2) = (((size + 1) / 2 : Nat) : Int) := fun _ => half_nat (size + 1) (by omega)
      rw [e1, hh1 (), hh2 (), beside_eq a (by omega)]
      refine ev_pos (by omega) ?_
      have hpl2 := congrArg List.length hp
      rw [List.length_drop] at hpl2
      by_cases h2 : beside a < size
      · refine ev_pos (by omega) ?_
        cases p with
        | nil =>
          simp only [List.length_nil] at hpl2
          rw [if_pos (by simp), ups_nil b (n + 1) size a x h1 h2]
          exact ev_pos (by omega) (Ev.step (fun k => spec_RootFrom.j2.eq_2 ..) (ev_pos rfl (ev_ret rfl)))
        | cons q p =>
          simp only [List.length_cons] at hpl2
          have s4 : u + 1 ≤ path.length := by omega
          have hu1 : (0 : Int) ≤ u := by omega
          have hu2 : (u : Int) < path.length := by omega
          have hu3 : ¬ (u : Int) = (path.length : Int) := by omega
          rw [ups_step b (n + 1) size a x q p h1 h2, rootEnd_map]
          have hq : rd path (u : Int) = q := by
            rw [rd_nat, List.getD_eq_getElem?_getD, ← List.head?_drop, hp]
            rfl
          have hp' : path.drop (u + 1) = p := by
            rw [← List.drop_drop, hp]
            rfl
          refine ev_neg hu3 (ev_pos hu1 (ev_pos hu2 (ev_pure (spec_isdig b _) (Ev.step (fun k => spec_RootFrom.j2.eq_2 ..) ?_))))
          rw [hq]
          by_cases hqd : okd b q
          · have hall : (∀ r ∈ q :: p, okd b r) ↔ ∀ r ∈ p, okd b r := by simp [hqd]
            have e2 : wrap64 ((u : Int) + 1) = ((u + 1 : Nat) : Int) := wr_succ (by omega)
            have hpar : beside a > a ↔ ¬ a % 2 = 1 := by
              unfold beside
              split <;> omega
            have hr := ih ((size + 1) / 2) (a / 2) (Dig.digest b (stepIn a q x)) p (u + 1) s1 s2 s3 (step_okd hb a q x) hp' s4
            rw [e2, e1, hh1 (), hh2 ()]
            clear ih hend hpl2 hp hp'
            rw [ite_iff hall]
            refine ev_neg (by simp [hqd]) ?_
            by_cases h3 : a % 2 = 1
            · have es : stepIn a q x = nodeIn q x := if_pos h3
              have hn := spec_node b q x
              unfold node at hn
              rw [if_pos ⟨hqd, hx⟩] at hn
              rw [es] at hr ⊢
              have hlt : ¬ ((beside a : Nat) : Int) > (a : Int) := by omega
              exact ev_neg hlt (ev_pos hu1 (ev_pos hu2 (ev_bind hn hr)))
            · have es : stepIn a q x = nodeIn x q := if_neg h3
              have hn := spec_node b x q
              unfold node at hn
              rw [if_pos ⟨hx, hqd⟩] at hn
              rw [es] at hr ⊢
              have hlt : ((beside a : Nat) : Int) > (a : Int) := by omega
              exact ev_pos hlt (ev_pos hu1 (ev_pos hu2 (ev_bind hn hr)))
          · rw [if_neg (fun h => hqd (h q List.mem_cons_self))]
            exact ev_pos (by simp [hqd]) (ev_ret rfl)
      · rw [ups_skip b (n + 1) size a x p h1 h2]
        exact ev_neg (by omega) (ih ((size + 1) / 2) (a / 2) x p u (by omega) (by omega) (by omega) hx hp hu)
    · rw [ups_le b (n + 1) size a x p (by omega), rootEnd_some]
      exact hend size a x p u (by omega) hx hp hu
theorem spec_root (b many at_ : Int) (leaf path : List Int) (hpl : path.length ≤ 1048576) : Ev (fun k => spec_RootFrom.f k b many at_ leaf path) (rootFrom b many at_ leaf path) := by
  unfold spec_RootFrom.f
  have hno : ∀ a : Bool, a = true → ¬ upOk b many at_ leaf path → Ev (fun k => spec_RootFrom.j0 k b many at_ leaf path a) (rootFrom b many at_ leaf path) := by
    intro a ha h
    subst ha
    unfold rootFrom
    rw [if_neg h]
    exact Ev.step (fun k => spec_RootFrom.j0.eq_2 ..) (ev_pos rfl (ev_ret rfl))
  refine ev_pure (spec_in_eq _ _ _) ?_
  by_cases h0 : 2 ≤ b ∧ b ≤ 60
  · refine ev_pos (decide_eq_true h0) (ev_pure (spec_in_eq _ _ _) ?_)
    by_cases h1 : 1 ≤ many ∧ many ≤ 16
    · refine ev_pos (decide_eq_true h1) (ev_pure (spec_in_eq _ _ _) ?_)
      rw [wr (n := many - 1) (by omega) (by omega)]
      by_cases h2 : 0 ≤ at_ ∧ at_ ≤ many - 1
      · refine ev_pos (decide_eq_true h2) ?_
        by_cases h3 : leaf.length < 4000
        · refine Ev.step (fun k => spec_RootFrom.j0.eq_2 ..) (ev_neg (by simp only [decide_eq_true_eq]; omega) (ev_bind (spec_leaf' b h3) ?_))
          obtain ⟨m, rfl⟩ := Int.eq_ofNat_of_zero_le (by omega : 0 ≤ many)
          obtain ⟨a, rfl⟩ := Int.eq_ofNat_of_zero_le h2.1
          have hx : okd b (Dig.digest b (0 :: leaf)) := ⟨h0, Dig.digest_range h0.1 h0.2 (by simp only [List.length_cons]; omega)⟩
          have hr := root_l0 h0 m (by omega) path hpl 15 m a (Dig.digest b (0 :: leaf)) path 0 (by omega) (by omega) (by omega) hx rfl (Nat.zero_le _)
          refine ev_eq hr ?_
          unfold rootFrom
          rw [Int.toNat_natCast, Int.toNat_natCast]
          by_cases h4 : ∀ q ∈ path, okd b q
          · have hu : upOk b m a leaf path := ⟨h1, ⟨h2.1, by omega⟩, h0, h3, h4⟩
            rw [if_pos h4, if_pos hu]
            generalize ups b (15 + 1) m a (Dig.digest b (0 :: leaf)) path = u
            cases u with
            | none => rfl
            | some u => rfl
          · rw [if_neg h4, if_neg (fun h => h4 h.2.2.2.2)]
        · exact hno _ (by simp only [decide_eq_true_eq]; omega) (fun h => h3 h.2.2.2.1)
      · exact ev_neg (by simp only [decide_eq_true_eq]; exact h2) (hno _ rfl (fun h => h2 ⟨h.2.1.1, by have := h.2.1.2; omega⟩))
    · exact ev_neg (by simp only [decide_eq_true_eq]; exact h1) (hno _ rfl (fun h => h1 h.1))
  · exact ev_neg (by simp only [decide_eq_true_eq]; exact h0) (hno _ rfl (fun h => h0 h.2.2.1))
theorem strs_map (l : List Int) : (strOfNums l).toList = l.map (fun n => UInt8.ofNat n.toNat) := ByteArray.toList_mk _
/-- As the two programs compare two texts. -/
def same (p q : List Int) : Bool := (strOfNums p).toList == (strOfNums q).toList
theorem same_self (p : List Int) : same p p = true := by simp [same]
theorem same_imp (p : List Int) : ∀ q : List Int, (∀ x ∈ p, 0 ≤ x ∧ x < 256) → (∀ x ∈ q, 0 ≤ x ∧ x < 256) → same p q = true → p = q := by
  induction p with
  | nil =>
    intro q _ _ h
    cases q with
    | nil => rfl
    | cons y q => simp [same, strs_map] at h
  | cons x p ih =>
    intro q hp hq h
    cases q with
    | nil => simp [same, strs_map] at h
    | cons y q =>
      unfold same at h
      rw [strs_map, strs_map, List.map_cons, List.map_cons, beq_iff_eq, List.cons.injEq] at h
      obtain ⟨h1, h2⟩ := h
      have hx := hp x List.mem_cons_self
      have hy := hq y List.mem_cons_self
      have e : x.toNat = y.toNat := by
        have := congrArg UInt8.toNat h1
        simp only [UInt8.toNat_ofNat'] at this
        omega
      have exy : x = y := by omega
      subst exy
      rw [ih q (fun z hz => hp z (List.mem_cons_of_mem _ hz)) (fun z hz => hq z (List.mem_cons_of_mem _ hz)) (by unfold same; rw [strs_map, strs_map, beq_iff_eq]; exact h2)]
/-- The last of the first so many places where two lists of texts are unlike. -/
def lastU (p q : List (List Int)) : Nat → List Int × List Int × Bool
  | 0 => ([], [], false)
  | n + 1 => if same (p.getD n []) (q.getD n []) = true then lastU p q n else (p.getD n [], q.getD n [], true)
theorem lastU_self (p : List (List Int)) (n : Nat) : lastU p p n = ([], [], false) := by
  induction n with
  | zero => rfl
  | succ n ih =>
    unfold lastU
    rw [if_pos (same_self _), ih]
theorem impl_lastu_l0 (p q : List (List Int)) (hp : ∀ x ∈ p, x.length ≤ 1048576) (hq : ∀ x ∈ q, x.length ≤ 1048576) (hl : q.length = p.length) (n : Nat) (hn : n ≤ p.length) (hm : p.length ≤ 1000) : Ev (fun k => impl_lastUnlike.l0 k p q ((n : Int) - 1)) (lastU p q n) := by
  induction n with
  | zero => exact Ev.step (fun k => impl_lastUnlike.l0.eq_2 ..) (ev_neg (by omega) (ev_ret rfl))
  | succ n ih =>
    have e : ((n + 1 : Nat) : Int) - 1 = (n : Int) := by omega
    have e2 : wrap64 ((n : Int) - 1) = (n : Int) - 1 := wr (by omega) (by omega)
    have ep : rd_L1 p (n : Int) = p.getD n [] := by unfold rd_L1; rw [Int.toNat_natCast]
    have eq : rd_L1 q (n : Int) = q.getD n [] := by unfold rd_L1; rw [Int.toNat_natCast]
    have h1 : (p.getD n []).length ≤ 1048576 := by
      rw [List.getD_eq_getElem?_getD, List.getElem?_eq_getElem (by omega)]
      exact hp _ (List.getElem_mem _)
    have h2 : (q.getD n []).length ≤ 1048576 := by
      rw [List.getD_eq_getElem?_getD, List.getElem?_eq_getElem (by omega)]
      exact hq _ (List.getElem_mem _)
    rw [e]
    refine Ev.step (fun k => impl_lastUnlike.l0.eq_2 ..) (ev_pos (by omega) (ev_pos (by omega) (ev_pos (by omega) (ev_pos (by omega) ?_))))
    rw [ep, eq, e2]
    unfold lastU
    refine ev_pure (a := same (p.getD n []) (q.getD n [])) rfl ?_
    by_cases h : same (p.getD n []) (q.getD n []) = true
    · rw [if_pos h]
      exact ev_pos h (ih (by omega))
    · rw [if_neg h]
      refine ev_neg h (ev_pure (a := (p.getD n [], q.getD n [])) ?_ (ev_ret rfl))
      unfold impl_pairOf.f bytes_Clone.f
      rw [if_pos (by omega), if_pos (by omega)]
      rfl
theorem spec_lastu_l0 (p q : List (List Int)) (hl : q.length = p.length) (n : Nat) (hn : n ≤ p.length) (hm : p.length ≤ 1000) : Ev (fun k => spec_FromPaths.l0 k p q ((n : Int) - 1)) (lastU p q n) := by
  induction n with
  | zero => exact Ev.step (fun k => spec_FromPaths.l0.eq_2 ..) (ev_neg (by omega) (ev_ret rfl))
  | succ n ih =>
    have e : ((n + 1 : Nat) : Int) - 1 = (n : Int) := by omega
    have e2 : wrap64 ((n : Int) - 1) = (n : Int) - 1 := wr (by omega) (by omega)
    have ep : rd_L1 p (n : Int) = p.getD n [] := by unfold rd_L1; rw [Int.toNat_natCast]
    have eq : rd_L1 q (n : Int) = q.getD n [] := by unfold rd_L1; rw [Int.toNat_natCast]
    rw [e]
    refine Ev.step (fun k => spec_FromPaths.l0.eq_2 ..) (ev_pos (by omega) (ev_pos (by omega) (ev_pos (by omega) (ev_pos (by omega) ?_))))
    rw [ep, eq, e2]
    unfold lastU
    refine ev_pure (a := same (p.getD n []) (q.getD n [])) rfl ?_
    by_cases h : same (p.getD n []) (q.getD n []) = true
    · rw [if_pos h]
      exact ev_pos h (ih (by omega))
    · rw [if_neg h]
      exact ev_neg h (ev_ret rfl)
theorem spec_inputs_l0 {b : Int} (hb : 2 ≤ b ∧ b ≤ 60) (many : Nat) (hm : many ≤ 16) (path : List Int) (hpl : path.length ≤ 1048576) (hall : ∀ q ∈ path, okd b q) (n : Nat) : ∀ (size a : Nat) (x : Int) (p : List Int) (u : Nat) (out l : List (List Int)) (r : List Int) (y : Int), size ≤ n + 1 → size ≤ 16 → a < 16 → okd b x → path.drop u = p → ups b (n + 1) size a x p = some (l, r, y) → okd b y → out.length + n ≤ 100 →
    Ev (fun k => spec_l3Inputs.l0 k b (many : Int) (a : Int) path out x (u : Int) (size : Int)) (out ++ (l ++ [topIn many y])) := by
  have hend : ∀ (n size a : Nat) (x : Int) (p : List Int) (u : Nat) (out l : List (List Int)) (r : List Int) (y : Int), size ≤ 1 → ups b (n + 1) size a x p = some (l, r, y) → okd b y → out.length ≤ 100 → Ev (fun k => spec_l3Inputs.l0 k b (many : Int) (a : Int) path out x (u : Int) (size : Int)) (out ++ (l ++ [topIn many y])) := by
    intro n size a x p u out l r y hs h hy ho
    rw [ups_le b n size a x p hs] at h
    cases h
    exact Ev.step (fun k => spec_l3Inputs.l0.eq_2 ..) (ev_neg (by omega) (ev_bind (spec_topin hm (okd_le hy).2) (ev_pos (by omega) (ev_ret rfl))))
  induction n with
  | zero =>
    intro size a x p u out l r y hs _ _ hx hp h hy ho
    exact hend 0 size a x p u out l r y (by omega) h hy (by omega)
  | succ n ih =>
    intro size a x p u out l r y hs hs2 ha hx hp h hy ho
    by_cases h1 : 1 < size
    · have s1 : (size + 1) / 2 ≤ n + 1 := by omega
      have s2 : (size + 1) / 2 ≤ 16 := by omega
      have s3 : a / 2 < 16 := by omega
      have s5 : out.length + n ≤ 100 := by omega
      have s6 : out.length < 5864062014805 := by omega
      refine Ev.step (fun k => spec_l3Inputs.l0.eq_2 ..) ?_
      have e1 : wrap64 ((size : Int) + 1) = ((size + 1 : Nat) : Int) := wr_succ (by omega)
      have hh1 : ∀ _ : Unit, wrap64 (Int.tdiv (a : Int) 2) = ((a / 2 : Nat) : Int) := fun _ => half_nat a (by omega)
      have hh2 : ∀ _ : Unit, wrap64 (Int.tdiv ((size + 1 : Nat) : Int) 2) = (((size + 1) / 2 : Nat) : Int) := fun _ => half_nat (size + 1) (by omega)
      rw [e1, hh1 (), hh2 (), beside_eq a (by omega)]
      refine ev_pos (by omega) ?_
      have hpl2 := congrArg List.length hp
      rw [List.length_drop] at hpl2
      by_cases h2 : beside a < size
      · refine ev_pos (by omega) ?_
        cases p with
        | nil =>
          rw [ups_nil b (n + 1) size a x h1 h2] at h
          cases h
        | cons q p =>
          simp only [List.length_cons] at hpl2
          have hu1 : (0 : Int) ≤ u := by omega
          have hu2 : (u : Int) < path.length := by omega
          have e2 : wrap64 ((u : Int) + 1) = ((u + 1 : Nat) : Int) := wr_succ (by omega)
          rw [ups_step b (n + 1) size a x q p h1 h2] at h
          obtain ⟨⟨l', r', y'⟩, h3, h4⟩ := Option.map_eq_some_iff.1 h
          cases h4
          have hq : rd path (u : Int) = q := by
            rw [rd_nat, List.getD_eq_getElem?_getD, ← List.head?_drop, hp]
            rfl
          have hqd : okd b q := hall q (by rw [← List.take_append_drop u path, hp]; simp)
          have hp' : path.drop (u + 1) = p := by
            rw [← List.drop_drop, hp]
            rfl
          have hpar : beside a > a ↔ ¬ a % 2 = 1 := by
            unfold beside
            split <;> omega
          have hr := ih ((size + 1) / 2) (a / 2) (Dig.digest b (stepIn a q x)) p (u + 1) (out ++ [stepIn a q x]) l' r y s1 s2 s3 (step_okd hb a q x) hp' h3 hy (by rw [List.length_append, List.length_singleton]; omega)
          clear ih hend h3 h
          rw [List.append_assoc] at hr
          refine ev_pos hu1 (ev_pos hu2 ?_)
          rw [hq, e2]
          refine ev_bind (spec_nodein (okd_le hqd).2 (okd_le hx).2) ?_
          by_cases h3 : a % 2 = 1
          · have es : stepIn a q x = nodeIn q x := if_pos h3
            have hlt : ¬ ((beside a : Nat) : Int) > (a : Int) := by omega
            rw [es] at hr ⊢
            exact ev_neg hlt (ev_pos s6 (ev_bind (spec_digest b _) hr))
          · have es : stepIn a q x = nodeIn x q := if_neg h3
            have hlt : ((beside a : Nat) : Int) > (a : Int) := by omega
            rw [es] at hr ⊢
            exact ev_pos hlt (ev_bind (spec_nodein (okd_le hx).2 (okd_le hqd).2) (ev_pos s6 (ev_bind (spec_digest b _) hr)))
      · rw [ups_skip b (n + 1) size a x p h1 h2] at h
        exact ev_neg (by omega) (ih ((size + 1) / 2) (a / 2) x p u out l r y s1 s2 s3 hx hp h hy s5)
    · exact hend (n + 1) size a x p u out l r y (by omega) h hy (by omega)
theorem ups_okd {b : Int} (hb : 2 ≤ b ∧ b ≤ 60) (n : Nat) : ∀ (size a : Nat) (x : Int) (p : List Int) {r}, okd b x → ups b n size a x p = some r → okd b r.2.2 := by
  induction n with
  | zero => intro size a x p r hx h; unfold ups at h; cases h; exact hx
  | succ n ih =>
    intro size a x p r hx h
    by_cases h1 : 1 < size
    · by_cases h2 : beside a < size
      · cases p with
        | nil => rw [ups_nil b n size a x h1 h2] at h; cases h
        | cons q p =>
          rw [ups_step b n size a x q p h1 h2] at h
          obtain ⟨r', h1, rfl⟩ := Option.map_eq_some_iff.1 h
          have := ih _ _ _ _ (step_okd hb a q x) h1
          exact this
      · rw [ups_skip b n size a x p h1 h2] at h
        exact ih _ _ _ _ hx h
    · rw [ups_le b n size a x p (by omega)] at h
      cases h
      exact hx
theorem spec_inputs {b many at_ : Int} {leaf path : List Int} (hpl : path.length ≤ 1048576) (h : (climbed b many at_ leaf path).2 = true) : Ev (fun k => spec_l3Inputs.f k b many at_ leaf path) (climbed b many at_ leaf path).1 := by
  unfold climbed at h ⊢
  by_cases hu : upOk b many at_ leaf path
  · rw [if_pos hu] at h ⊢
    have hx := upOk_okd hu
    have hu2 := hu
    obtain ⟨g1, g2, g3, g4, g5⟩ := hu2
    obtain ⟨m, rfl⟩ := Int.eq_ofNat_of_zero_le (by omega : 0 ≤ many)
    obtain ⟨a, rfl⟩ := Int.eq_ofNat_of_zero_le g2.1
    rw [Int.toNat_natCast, Int.toNat_natCast] at h ⊢
    have hi := fun l r y hh hy => spec_inputs_l0 g3 m (by omega) path hpl g5 15 m a (Dig.digest b (0 :: leaf)) path 0 [0 :: leaf] l r y (by omega) (by omega) (by omega) hx rfl hh hy (by simp only [List.length_singleton]; omega)
    have hok := fun r hh => @ups_okd b g3 16 m a (Dig.digest b (0 :: leaf)) path r hx hh
    generalize ups b (15 + 1) m a (Dig.digest b (0 :: leaf)) path = w at h hi hok ⊢
    cases w with
    | none => simp at h
    | some w =>
      obtain ⟨l, r, y⟩ := w
      unfold spec_l3Inputs.f
      refine ev_pure (a := 0 :: leaf) ?_ (ev_bind (spec_leaf' b g4) (hi l r y rfl (hok _ rfl)))
      unfold spec_l2Leaf.f
      rw [Option.bind_some, if_pos (by simp only [List.length_singleton]; omega)]
      rfl
  · rw [if_neg hu] at h
    simp at h
theorem ups_same_len {b : Int} (n : Nat) : ∀ (size a : Nat) (x x' : Int) (p p' : List Int) {r r'}, ups b n size a x p = some r → ups b n size a x' p' = some r' → r.1.length = r'.1.length := by
  induction n with
  | zero => intro size a x x' p p' r r' h h'; unfold ups at h h'; cases h; cases h'; rfl
  | succ n ih =>
    intro size a x x' p p' r r' h h'
    by_cases h1 : 1 < size
    · by_cases h2 : beside a < size
      · cases p with
        | nil => rw [ups_nil b n size a x h1 h2] at h; cases h
        | cons q p =>
          cases p' with
          | nil => rw [ups_nil b n size a x' h1 h2] at h'; cases h'
          | cons q' p' =>
            rw [ups_step b n size a x q p h1 h2] at h
            rw [ups_step b n size a x' q' p' h1 h2] at h'
            obtain ⟨s, hs, rfl⟩ := Option.map_eq_some_iff.1 h
            obtain ⟨s', hs', rfl⟩ := Option.map_eq_some_iff.1 h'
            simp only [List.length_cons]
            rw [ih _ _ _ _ _ _ hs hs']
      · rw [ups_skip b n size a x p h1 h2] at h
        rw [ups_skip b n size a x' p' h1 h2] at h'
        exact ih _ _ _ _ _ _ h h'
    · rw [ups_le b n size a x p (by omega)] at h
      rw [ups_le b n size a x' p' (by omega)] at h'
      cases h
      cases h'
      rfl
theorem stepIn_le (a : Nat) (q x : Int) : (stepIn a q x).length ≤ 17 := by
  by_cases h : a % 2 = 1
  · have e : stepIn a q x = nodeIn q x := if_pos h
    rw [e]
    exact nodeIn_le _ _
  · have e : stepIn a q x = nodeIn x q := if_neg h
    rw [e]
    exact nodeIn_le _ _
theorem ups_rows {b : Int} (n : Nat) : ∀ (size a : Nat) (x : Int) (p : List Int) {r}, ups b n size a x p = some r → ∀ z ∈ r.1, z.length ≤ 17 := by
  induction n with
  | zero => intro size a x p r h; unfold ups at h; cases h; intro z hz; cases hz
  | succ n ih =>
    intro size a x p r h
    by_cases h1 : 1 < size
    · by_cases h2 : beside a < size
      · cases p with
        | nil => rw [ups_nil b n size a x h1 h2] at h; cases h
        | cons q p =>
          rw [ups_step b n size a x q p h1 h2] at h
          obtain ⟨r', h1, rfl⟩ := Option.map_eq_some_iff.1 h
          intro z hz
          rcases List.mem_cons.1 hz with rfl | hz
          · exact stepIn_le _ _ _
          · exact ih _ _ _ _ h1 z hz
      · rw [ups_skip b n size a x p h1 h2] at h
        exact ih _ _ _ _ h
    · rw [ups_le b n size a x p (by omega)] at h
      cases h
      intro z hz
      cases hz
theorem climbed_facts (b many at_ : Int) (leaf path : List Int) :
    ((climbed b many at_ leaf path).1.length ≤ 20 ∧ ∀ z ∈ (climbed b many at_ leaf path).1, z.length ≤ 4000) ∧ (((climbed b many at_ leaf path).2 = true ∧ 0 ≤ rootFrom b many at_ leaf path) ∨ ((climbed b many at_ leaf path).2 = false ∧ rootFrom b many at_ leaf path = -1)) := by
  unfold climbed rootFrom
  by_cases hu : upOk b many at_ leaf path
  · rw [if_pos hu, if_pos hu]
    have h1 := fun r => @ups_length b 16 many.toNat at_.toNat (Dig.digest b (0 :: leaf)) path r
    have h2 := fun r => @ups_rows b 16 many.toNat at_.toNat (Dig.digest b (0 :: leaf)) path r
    generalize ups b 16 many.toNat at_.toNat (Dig.digest b (0 :: leaf)) path = w at h1 h2 ⊢
    obtain ⟨_, _, h3, h4, _⟩ := hu
    cases w with
    | none => exact ⟨⟨Nat.zero_le _, fun z hz => by cases hz⟩, .inr ⟨rfl, rfl⟩⟩
    | some w =>
      obtain ⟨l, r, y⟩ := w
      have h1 := h1 _ rfl
      have h2 := h2 _ rfl
      simp only at h1 h2
      simp only []
      refine ⟨⟨by simp only [List.length_cons, List.length_append, List.length_nil]; omega, ?_⟩, ?_⟩
      · intro z hz
        rcases List.mem_cons.1 hz with rfl | hz
        · simp only [List.length_cons]; omega
        · rcases List.mem_append.1 hz with hz | hz
          · have := h2 z hz; omega
          · rw [List.mem_singleton.1 hz]
            have := topIn_le many.toNat y
            omega
      · by_cases hr : r = []
        · rw [if_pos hr]
          exact .inl ⟨decide_eq_true hr, (Dig.digest_range h3.1 h3.2 (by have := topIn_le many.toNat y; omega)).1⟩
        · rw [if_neg hr]
          exact .inr ⟨decide_eq_false hr, rfl⟩
  · rw [if_neg hu, if_neg hu]
    exact ⟨⟨Nat.zero_le _, fun z hz => by cases hz⟩, .inr ⟨rfl, rfl⟩⟩
theorem climbed_len {b many at_ : Int} {leaf path leaf' path' : List Int} (h : (climbed b many at_ leaf path).2 = true) (h' : (climbed b many at_ leaf' path').2 = true) : (climbed b many at_ leaf' path').1.length = (climbed b many at_ leaf path).1.length := by
  unfold climbed at h h' ⊢
  by_cases hu : upOk b many at_ leaf path
  · by_cases hu' : upOk b many at_ leaf' path'
    · rw [if_pos hu] at h ⊢
      rw [if_pos hu'] at h' ⊢
      have hs := fun r r' => @ups_same_len b 16 many.toNat at_.toNat (Dig.digest b (0 :: leaf)) (Dig.digest b (0 :: leaf')) path path' r r'
      generalize ups b 16 many.toNat at_.toNat (Dig.digest b (0 :: leaf)) path = w at h hs ⊢
      generalize ups b 16 many.toNat at_.toNat (Dig.digest b (0 :: leaf')) path' = w' at h' hs ⊢
      cases w with
      | none => simp at h
      | some w =>
        cases w' with
        | none => simp at h'
        | some w' =>
          obtain ⟨l, r, y⟩ := w
          obtain ⟨l', r', y'⟩ := w'
          have := hs _ _ rfl rfl
          simp only at this
          simp only [List.length_cons, List.length_append, this]
    · rw [if_neg hu'] at h'
      simp at h'
  · rw [if_neg hu] at h
    simp at h
/-- FromPaths' answer. -/
def fromPaths (b many at_ : Int) (x p y q : List Int) : List Int × List Int × Bool :=
  if (climbed b many at_ x p).2 = true ∧ (climbed b many at_ y q).2 = true ∧ rootFrom b many at_ x p = rootFrom b many at_ y q then lastU (climbed b many at_ x p).1 (climbed b many at_ y q).1 (climbed b many at_ x p).1.length else ([], [], false)
theorem impl_frompaths (b many at_ : Int) (x p y q : List Int) : Ev (fun k => impl_FromPaths.f k b many at_ x p y q) (fromPaths b many at_ x p y q) := by
  unfold impl_FromPaths.f fromPaths
  refine ev_bind (impl_climbed b many at_ x p) (ev_bind (impl_climbed b many at_ y q) ?_)
  have f1 := climbed_facts b many at_ x p
  have f2 := climbed_facts b many at_ y q
  have l1 := impl_lastof b many at_ x p
  have l2 := impl_lastof b many at_ y q
  have hlen := @climbed_len b many at_ x p y q
  generalize climbed b many at_ x p = r1 at f1 l1 hlen ⊢
  generalize climbed b many at_ y q = r2 at f2 l2 hlen ⊢
  generalize rootFrom b many at_ x p = d1 at f1 l1 ⊢
  generalize rootFrom b many at_ y q = d2 at f2 l2 ⊢
  by_cases h1 : r1.2 = true
  · refine ev_pos h1 ?_
    by_cases h2 : r2.2 = true
    · rw [h1] at l1
      rw [h2] at l2
      refine ev_pos h2 (ev_pure l1 (ev_pure l2 ?_))
      by_cases h3 : d1 = d2
      · rw [if_pos ⟨h1, h2, h3⟩]
        refine ev_pos h3 ?_
        have hl := hlen h1 h2
        have hn := f1.1.1
        have e : wrap64 ((r1.1.length : Int) - 1) = (r1.1.length : Int) - 1 := wr (by omega) (by omega)
        have hu := impl_lastu_l0 r1.1 r2.1 (fun z hz => by have := f1.1.2 z hz; omega) (fun z hz => by have := f2.1.2 z hz; omega) hl r1.1.length (Nat.le_refl _) (by omega)
        refine ev_bind (a := lastU r1.1 r2.1 r1.1.length) ?_ (ev_ret rfl)
        unfold impl_lastUnlike.f
        rw [e]
        exact hu
      · rw [if_neg (fun h => h3 h.2.2)]
        exact ev_neg h3 (ev_ret rfl)
    · rw [if_neg (fun h => h2 h.2.1)]
      exact ev_neg h2 (ev_ret rfl)
  · rw [if_neg (fun h => h1 h.1)]
    exact ev_neg h1 (ev_ret rfl)
theorem spec_paths_l0 (p q : List Int) (hl : q.length = p.length) (hm : p.length ≤ 1048576) (n : Nat) : ∀ i : Nat, i + n = p.length → Ev (fun k => spec_l3Paths.l0 k p q (i : Int)) (decide (p.drop i = q.drop i)) := by
  induction n with
  | zero =>
    intro i hi
    have e1 : p.drop i = [] := List.drop_eq_nil_of_le (by omega)
    have e2 : q.drop i = [] := List.drop_eq_nil_of_le (by omega)
    rw [e1, e2]
    exact Ev.step (fun k => spec_l3Paths.l0.eq_2 ..) (ev_neg (by omega) (ev_ret rfl))
  | succ n ih =>
    intro i hi
    refine Ev.step (fun k => spec_l3Paths.l0.eq_2 ..) (ev_pos (by omega) (ev_pos (by omega) (ev_pos (by omega) ?_)))
    have e0 : wrap64 ((i : Int) + 1) = ((i + 1 : Nat) : Int) := wr_succ (by omega)
    have e1 : p.drop i = p.getD i 0 :: p.drop (i + 1) := by
      rw [List.getD_eq_getElem?_getD, List.getElem?_eq_getElem (by omega)]
      exact List.drop_eq_getElem_cons (by omega)
    have e2 : q.drop i = q.getD i 0 :: q.drop (i + 1) := by
      rw [List.getD_eq_getElem?_getD, List.getElem?_eq_getElem (by omega)]
      exact List.drop_eq_getElem_cons (by omega)
    have hr := ih (i + 1) (by omega)
    rw [rd_nat, rd_nat, e0, e1, e2]
    by_cases h : p.getD i 0 = q.getD i 0
    · refine ev_pos h (ev_eq hr ?_)
      apply decide_eq_decide.2
      rw [h]
      simp
    · refine ev_neg h (ev_ret (decide_eq_false ?_).symm)
      intro hh
      rw [List.cons.injEq] at hh
      exact h hh.1
theorem spec_paths (p q : List Int) (hm : p.length ≤ 1048576) : Ev (fun k => spec_l3Paths.f k p q) (decide (p = q)) := by
  unfold spec_l3Paths.f
  by_cases h : p.length = q.length
  · exact ev_pos (by omega) (spec_paths_l0 p q h.symm hm p.length 0 (by omega))
  · exact ev_neg (by omega) (ev_ret (decide_eq_false (fun e => h (by rw [e]))).symm)
theorem spec_frompaths (b many at_ : Int) (x p y q : List Int) (hx : ∀ z ∈ x, 0 ≤ z ∧ z < 256) (hy : ∀ z ∈ y, 0 ≤ z ∧ z < 256) (hp : p.length ≤ 1048576) (hq : q.length ≤ 1048576) : Ev (fun k => spec_FromPaths.f k b many at_ x p y q) (fromPaths b many at_ x p y q) := by
  unfold spec_FromPaths.f fromPaths
  refine ev_bind (spec_root b many at_ x p hp) ?_
  have f1 := climbed_facts b many at_ x p
  have f2 := climbed_facts b many at_ y q
  have i1 := @spec_inputs b many at_ x p hp
  have i2 := @spec_inputs b many at_ y q hq
  have hlen := @climbed_len b many at_ x p y q
  have h2r := spec_root b many at_ y q hq
  have heq : x = y → p = q → climbed b many at_ x p = climbed b many at_ y q := fun e1 e2 => by rw [e1, e2]
  generalize climbed b many at_ x p = r1 at f1 i1 hlen heq ⊢
  generalize climbed b many at_ y q = r2 at f2 i2 hlen heq ⊢
  generalize rootFrom b many at_ x p = d1 at f1 ⊢
  generalize rootFrom b many at_ y q = d2 at f2 h2r ⊢
  have hyes : Ev (fun k => spec_FromPaths.j0 k b many at_ x p y q true) ([], [], false) := Ev.step (fun k => spec_FromPaths.j0.eq_2 ..) (ev_pos rfl (ev_ret rfl))
  by_cases h1 : d1 < 0
  · have : ¬ r1.2 = true := by
      intro h
      rcases f1.2 with g | g
      · omega
      · rw [g.1] at h; cases h
    rw [if_neg (fun h => this h.1)]
    exact ev_pos h1 hyes
  · have g1 : r1.2 = true := by
      rcases f1.2 with g | g
      · exact g.1
      · omega
    refine ev_neg h1 (ev_bind h2r ?_)
    by_cases h3 : d1 = d2
    · have g2 : r2.2 = true := by
        rcases f2.2 with g | g
        · exact g.1
        · omega
      rw [if_pos ⟨g1, g2, h3⟩]
      have hno : Ev (fun k => spec_FromPaths.j0 k b many at_ x p y q false) (lastU r1.1 r2.1 r1.1.length) := by
        refine Ev.step (fun k => spec_FromPaths.j0.eq_2 ..) (ev_neg (by decide) (ev_bind (i1 g1) (ev_bind (i2 g2) ?_)))
        have hn := f1.1.1
        have e : wrap64 ((r1.1.length : Int) - 1) = (r1.1.length : Int) - 1 := wr (by omega) (by omega)
        rw [e]
        exact spec_lastu_l0 r1.1 r2.1 (hlen g1 g2) r1.1.length (Nat.le_refl _) (by omega)
      refine ev_pos h3 (ev_pure (a := same x y) rfl ?_)
      by_cases hs : same x y = true
      · refine ev_pos hs (ev_bind (spec_paths p q hp) ?_)
        by_cases hpq : p = q
        · rw [heq (same_imp x y hx hy hs) hpq, lastU_self, decide_eq_true hpq]
          exact hyes
        · rw [decide_eq_false hpq]
          exact hno
      · exact ev_neg hs hno
    · rw [if_neg (fun h => h3 h.2.2)]
      exact ev_neg h3 hyes
theorem lastU_le (p q : List (List Int)) (hp : ∀ z ∈ p, z.length ≤ 4000) (hq : ∀ z ∈ q, z.length ≤ 4000) (n : Nat) : (lastU p q n).1.length ≤ 4000 ∧ (lastU p q n).2.1.length ≤ 4000 := by
  have hd : ∀ (l : List (List Int)), (∀ z ∈ l, z.length ≤ 4000) → ∀ n, (l.getD n []).length ≤ 4000 := by
    intro l hl n
    rw [List.getD_eq_getElem?_getD]
    by_cases h : n < l.length
    · rw [List.getElem?_eq_getElem h]
      exact hl _ (List.getElem_mem h)
    · rw [List.getElem?_eq_none (by omega)]
      exact Nat.zero_le _
  induction n with
  | zero => exact ⟨Nat.zero_le _, Nat.zero_le _⟩
  | succ n ih =>
    unfold lastU
    split
    · exact ih
    · exact ⟨hd p hp n, hd q hq n⟩
theorem fromPaths_le (b many at_ : Int) (x p y q : List Int) : (fromPaths b many at_ x p y q).1.length ≤ 4000 ∧ (fromPaths b many at_ x p y q).2.1.length ≤ 4000 := by
  unfold fromPaths
  split
  · exact lastU_le _ _ (climbed_facts b many at_ x p).1.2 (climbed_facts b many at_ y q).1.2 _
  · exact ⟨Nat.zero_le _, Nat.zero_le _⟩
theorem wf_bytes {l : List Int} (h : ∀ x ∈ l, (Lit.int .u8 x).wf = true) : ∀ x ∈ l, 0 ≤ x ∧ x < 256 := by
  intro x hx
  obtain ⟨n, rfl, hn⟩ := byte_of (h x hx)
  omega
theorem drop_one {m : List Int} {i : Nat} {x : Int} {t : List Int} (h : m.drop i = x :: t) : i < m.length ∧ rd m (i : Int) = x ∧ m.drop (i + 1) = t := by
  have hl : i < m.length := by
    have := congrArg List.length h
    simp only [List.length_drop, List.length_cons] at this
    omega
  have h2 := drop_getD m 0 i hl
  rw [h] at h2
  injection h2 with h3 h4
  exact ⟨hl, by rw [rd_nat]; exact h3.symm, h4.symm⟩
/-- The level above. -/
def abv (b : Int) : List Int → List Int
  | x :: y :: l => node b x y :: abv b l
  | [x] => [x]
  | [] => []
theorem abv_length (b : Int) : ∀ l : List Int, (abv b l).length = (l.length + 1) / 2
  | [] => rfl
  | [x] => by simp [abv]
  | x :: y :: l => by
    have := abv_length b l
    simp only [abv, List.length_cons]
    omega
theorem abv_okd {b : Int} (hb : 2 ≤ b ∧ b ≤ 60) : ∀ l : List Int, (∀ x ∈ l, okd b x) → ∀ x ∈ abv b l, okd b x
  | [], _ => fun x hx => by cases hx
  | [y], h => fun x hx => h x hx
  | y :: z :: l, h => fun x hx => by
    simp only [abv, List.mem_cons] at hx
    rcases hx with rfl | hx
    · unfold node
      rw [if_pos ⟨h y (by simp), h z (by simp)⟩]
      exact node_okd hb _ _
    · exact abv_okd hb l (fun w hw => h w (by simp [hw])) x hx
/-- All levels of a tree, the leaves' first. -/
def lvs (b : Int) : Nat → List Int → List (List Int)
  | 0, l => [l]
  | n + 1, l => if l.length = 1 then [l] else l :: lvs b n (abv b l)
/-- The one number of the last level. -/
def apex (b : Int) : Nat → List Int → Int
  | 0, l => rd l 0
  | n + 1, l => if l.length = 1 then rd l 0 else apex b n (abv b l)
theorem one_of {l : List Int} (h : l.length = 1) : l = [rd l 0] := by
  match l, h with
  | [x], _ => rfl
theorem lvs_last (b : Int) (n : Nat) : ∀ l : List Int, 1 ≤ l.length → l.length ≤ n + 1 → ∃ pre, lvs b n l = pre ++ [[apex b n l]] ∧ pre.length ≤ n := by
  induction n with
  | zero =>
    intro l h1 h2
    refine ⟨[], ?_, Nat.le_refl _⟩
    unfold lvs apex
    rw [List.nil_append, ← one_of (by omega)]
  | succ n ih =>
    intro l h1 h2
    unfold lvs apex
    by_cases h : l.length = 1
    · rw [if_pos h, if_pos h]
      exact ⟨[], by rw [List.nil_append, ← one_of h], Nat.zero_le _⟩
    · rw [if_neg h, if_neg h]
      have hl := abv_length b l
      obtain ⟨pre, e, hp⟩ := ih (abv b l) (by omega) (by omega)
      exact ⟨l :: pre, by rw [e, List.cons_append], by simp only [List.length_cons]; omega⟩
theorem apex_okd {b : Int} (hb : 2 ≤ b ∧ b ≤ 60) (n : Nat) : ∀ l : List Int, 1 ≤ l.length → l.length ≤ n + 1 → (∀ x ∈ l, okd b x) → okd b (apex b n l) := by
  have h0 : ∀ l : List Int, 1 ≤ l.length → (∀ x ∈ l, okd b x) → okd b (rd l 0) := by
    intro l h1 h
    match l, h1 with
    | x :: l, _ => exact h x List.mem_cons_self
  induction n with
  | zero => intro l h1 _ h; exact h0 l h1 h
  | succ n ih =>
    intro l h1 h2 h
    unfold apex
    split
    · exact h0 l h1 h
    · have hl := abv_length b l
      exact ih (abv b l) (by omega) (by omega) (abv_okd hb l h)
/-- The leaves' digests. -/
def leafs (b : Int) (l : List (List Int)) : List Int := l.map fun x => Dig.digest b (0 :: x)
theorem leafs_length (b : Int) (l : List (List Int)) : (leafs b l).length = l.length := by simp [leafs]
theorem leafs_okd {b : Int} (hb : 2 ≤ b ∧ b ≤ 60) {l : List (List Int)} (h : ∀ x ∈ l, x.length < 4000) : ∀ x ∈ leafs b l, okd b x := by
  intro x hx
  obtain ⟨y, hy, rfl⟩ := List.mem_map.1 hx
  have := h y hy
  exact ⟨hb, Dig.digest_range hb.1 hb.2 (by simp only [List.length_cons]; omega)⟩
/-- Leaves that are such of a tree. -/
def lok (b : Int) (l : List (List Int)) : Prop := ((2 ≤ b ∧ b ≤ 60) ∧ 1 ≤ l.length ∧ l.length ≤ 16) ∧ ∀ x ∈ l, x.length < 4000
instance (b : Int) (l : List (List Int)) : Decidable (lok b l) := by unfold lok; infer_instance
theorem impl_lok (b : Int) (l : List (List Int)) : impl_leavesOk.f b l = some (decide (lok b l)) := by
  have h : impl_leavesOk.f b l = some (decide ((2 ≤ b ∧ b ≤ 60) ∧ 1 ≤ l.length ∧ l.length ≤ 16) && l.all fun x => decide (x.length < 4000)) := rfl
  rw [h]
  congr 1
  rw [Bool.eq_iff_iff, Bool.and_eq_true, decide_eq_true_eq, List.all_eq_true, decide_eq_true_eq]
  unfold lok
  simp only [decide_eq_true_eq]
theorem snoc_take (f : List Int → Int) (l : List (List Int)) (i : Nat) (h : i < l.length) : (l.map f).take i ++ [f (l.getD i [])] = (l.map f).take (i + 1) := by
  rw [List.take_succ_eq_append_getElem (by simpa using h), List.getElem_map, List.getD_eq_getElem?_getD, List.getElem?_eq_getElem h]
  rfl
theorem lv_l2 (b : Int) (m : List Int) (out : List (List Int)) (hm : m.length ≤ 16) (res : List (List Int)) : ∀ (t : List Int) (i : Nat) (acc : List Int), m.drop i = t → acc.length + t.length ≤ 100 → i ≤ 100 →
    Ev (fun k => impl_levels.l1 k b (acc ++ abv b t) out) res → Ev (fun k => impl_levels.l2 k b m out acc (i : Int)) res
  | [], i, acc, hd, ha, hi, hk => by
    have hl : m.length ≤ i := List.drop_eq_nil_iff.1 hd
    refine Ev.step (fun k => impl_levels.l2.eq_2 ..) (ev_neg (by omega) ?_)
    rw [abv, List.append_nil] at hk
    exact hk
  | [x], i, acc, hd, ha, hi, hk => by
    obtain ⟨h1, h2, h3⟩ := drop_one hd
    have hl : m.length ≤ i + 1 := List.drop_eq_nil_iff.1 h3
    simp only [List.length_cons, List.length_nil] at ha
    refine Ev.step (fun k => impl_levels.l2.eq_2 ..) (ev_pos (by omega) (ev_neg (by rw [wr_succ (by omega)]; omega) (ev_pos (by omega) (ev_pos (by omega) ?_))))
    rw [h2, wr (n := (i : Int) + 2) (by omega) (by omega)]
    exact lv_l2 b m out hm res [] (i + 2) (acc ++ [x]) (List.drop_eq_nil_iff.2 (by omega)) (by simp only [List.length_append, List.length_singleton, List.length_nil]; omega) (by omega) (by rw [abv, List.append_nil]; exact hk)
  | x :: y :: t, i, acc, hd, ha, hi, hk => by
    obtain ⟨h1, h2, h3⟩ := drop_one hd
    obtain ⟨h4, h5, h6⟩ := drop_one h3
    simp only [List.length_cons] at ha
    refine Ev.step (fun k => impl_levels.l2.eq_2 ..) (ev_pos (by omega) (ev_pos (by rw [wr_succ (by omega)]; omega) (ev_pos (by omega) (ev_pos (by rw [wr_succ (by omega)]; omega) ?_))))
    rw [h2, wr_succ (n := i) (by omega), h5, wr (n := (i : Int) + 2) (by omega) (by omega)]
    refine ev_bind (impl_node b x y) (ev_pos (by omega) ?_)
    refine lv_l2 b m out hm res t (i + 2) (acc ++ [node b x y]) h6 (by simp only [List.length_append, List.length_singleton]; omega) (by omega) ?_
    rw [List.append_assoc]
    exact hk
theorem lv_l1 (b : Int) (n : Nat) : ∀ (m : List Int) (out : List (List Int)), 1 ≤ m.length → m.length ≤ n + 1 → m.length ≤ 16 → out.length + n ≤ 1000 → Ev (fun k => impl_levels.l1 k b m out) (out ++ lvs b n m) := by
  induction n with
  | zero =>
    intro m out h1 h2 h3 h4
    refine Ev.step (fun k => impl_levels.l1.eq_2 ..) (ev_pos (by omega) (ev_some (ev_pos (by omega) (ev_ret ?_))))
    unfold lvs
    rfl
  | succ n ih =>
    intro m out h1 h2 h3 h4
    refine Ev.step (fun k => impl_levels.l1.eq_2 ..) (ev_pos (by omega) (ev_some ?_))
    unfold lvs
    by_cases h : m.length = 1
    · rw [if_pos h]
      exact ev_pos (by omega) (ev_ret rfl)
    · rw [if_neg h]
      have hl := abv_length b m
      refine ev_neg (by omega) (lv_l2 b m (out ++ [m]) h3 _ m 0 [] rfl (by simp only [List.length_nil]; omega) (by omega) ?_)
      have := ih (abv b m) (out ++ [m]) (by omega) (by omega) (by omega) (by simp only [List.length_append, List.length_singleton]; omega)
      rw [List.append_assoc] at this
      exact this
theorem lv_l0 (b : Int) (l : List (List Int)) (h1 : 1 ≤ l.length) (h2 : l.length ≤ 16) (hs : ∀ x ∈ l, x.length < 4000) (n : Nat) : ∀ i : Nat, i + n = l.length →
    Ev (fun k => impl_levels.l0 k b ((leafs b l).take i) [] l (l.length : Int) (i : Int)) (lvs b 15 (leafs b l)) := by
  have hll := leafs_length b l
  induction n with
  | zero =>
    intro i hi
    refine Ev.step (fun k => impl_levels.l0.eq_2 ..) (ev_neg (by omega) ?_)
    rw [List.take_of_length_le (by omega)]
    exact lv_l1 b 15 (leafs b l) [] (by omega) (by omega) (by omega) (by decide)
  | succ n ih =>
    intro i hi
    have hx : (l.getD i []).length < 4000 := by
      rw [List.getD_eq_getElem?_getD, List.getElem?_eq_getElem (by omega)]
      exact hs _ (List.getElem_mem _)
    refine Ev.step (fun k => impl_levels.l0.eq_2 ..) (ev_pos (by omega) (ev_pos (by omega) (ev_pos (by omega) ?_)))
    have er : rd_L1 l (i : Int) = l.getD i [] := by unfold rd_L1; rw [Int.toNat_natCast]
    rw [er]
    refine ev_pure (impl_leaf b (by omega)) (ev_pos (by rw [List.length_take]; omega) ?_)
    have es : (leafs b l).take i ++ [Dig.digest b (0 :: l.getD i [])] = (leafs b l).take (i + 1) := snoc_take (fun x => Dig.digest b (0 :: x)) l i (by omega)
    rw [wr_succ (by omega), es]
    exact ih (i + 1) (by omega)
theorem impl_lvs (b : Int) (l : List (List Int)) (h1 : 1 ≤ l.length) (h2 : l.length ≤ 16) (hs : ∀ x ∈ l, x.length < 4000) : Ev (fun k => impl_levels.f k b l) (lvs b 15 (leafs b l)) := by
  unfold impl_levels.f
  exact lv_l0 b l h1 h2 hs l.length 0 (by omega)
/-- The top's input of leaves. -/
def topOfL (b : Int) (l : List (List Int)) : List Int := topIn l.length (apex b 15 (leafs b l))
theorem lok_apex {b : Int} {l : List (List Int)} (h : lok b l) : okd b (apex b 15 (leafs b l)) := by
  have := leafs_length b l
  exact apex_okd h.1.1 15 (leafs b l) (by have := h.1.2; omega) (by have := h.1.2; omega) (leafs_okd h.1.1 h.2)
theorem last_lvs (b : Int) (l : List (List Int)) (h1 : 1 ≤ l.length) (h2 : l.length ≤ 16) : ∃ pre, lvs b 15 (leafs b l) = pre ++ [[apex b 15 (leafs b l)]] ∧ pre.length ≤ 15 := by
  have := leafs_length b l
  exact lvs_last b 15 (leafs b l) (by omega) (by omega)
theorem rdI_last (pre : List (List Int)) (x : List Int) (h : pre.length ≤ 15) : wrap64 (((pre ++ [x]).length : Int) - 1) = (pre.length : Int) ∧ rd_L3 (pre ++ [x]) (pre.length : Int) = x := by
  refine ⟨?_, ?_⟩
  · rw [List.length_append, List.length_singleton, wr (by omega) (by omega)]
    omega
  · unfold rd_L3
    rw [Int.toNat_natCast, List.getD_eq_getElem?_getD, List.getElem?_append_right (Nat.le_refl _), Nat.sub_self]
    rfl
theorem impl_topof {b : Int} {l : List (List Int)} (h : lok b l) : Ev (fun k => impl_topOf.f k b l) (topOfL b l) := by
  unfold impl_topOf.f topOfL
  obtain ⟨⟨hb, h1, h2⟩, hs⟩ := h
  have ha := lok_apex (b := b) (l := l) ⟨⟨hb, h1, h2⟩, hs⟩
  obtain ⟨pre, e, hp⟩ := last_lvs b l h1 h2
  refine ev_bind (impl_lvs b l h1 h2 hs) ?_
  rw [e]
  generalize apex b 15 (leafs b l) = x at ha ⊢
  obtain ⟨e1, e2⟩ := rdI_last pre [x] hp
  rw [e1, e2]
  have e3 : rd [x] 0 = x := rfl
  rw [e3]
  exact ev_pos (by omega) (ev_pos (by simp only [List.length_append, List.length_singleton]; omega) (ev_pos (by simp) (ev_bind (impl_topin h2 (okd_le ha).2) (ev_ret rfl))))
/-- A tree's root; -1: the leaves are no such. -/
def treeRoot (b : Int) (l : List (List Int)) : Int := if lok b l then Dig.digest b (topOfL b l) else -1
theorem impl_treeroot (b : Int) (l : List (List Int)) : Ev (fun k => impl_TreeRoot.f k b l) (treeRoot b l) := by
  unfold impl_TreeRoot.f treeRoot
  refine ev_pure (impl_lok b l) ?_
  by_cases h : lok b l
  · rw [if_pos h]
    exact ev_pos (decide_eq_true h) (ev_bind (impl_topof h) (ev_pure (impl_digest b _) (ev_ret rfl)))
  · rw [if_neg h]
    exact ev_neg (by simp [h]) (ev_ret rfl)
/-- The path of a place: of each level the one beside, where there is one. -/
def pth (a : Nat) : List (List Int) → List Int
  | [] => []
  | v :: r => (if beside a < v.length then [v.getD (beside a) 0] else []) ++ pth (a / 2) r
theorem pth_length (L : List (List Int)) : ∀ a, (pth a L).length ≤ L.length := by
  induction L with
  | nil => intro a; exact Nat.le_refl _
  | cons v r ih =>
    intro a
    have := ih (a / 2)
    unfold pth
    rw [List.length_append, List.length_cons]
    split
    · simp only [List.length_singleton]; omega
    · simp only [List.length_nil]; omega
theorem lvs_length (b : Int) (n : Nat) : ∀ m : List Int, (lvs b n m).length ≤ n + 1 := by
  induction n with
  | zero => intro m; exact Nat.le_refl _
  | succ n ih =>
    intro m
    unfold lvs
    split
    · simp
    · have := ih (abv b m)
      simp only [List.length_cons]
      omega
theorem rdI_nat (L : List (List Int)) (i : Nat) : rd_L3 L (i : Int) = L.getD i [] := by unfold rd_L3; rw [Int.toNat_natCast]
theorem impl_path_l0 (L : List (List Int)) (hL : L.length ≤ 100) (n : Nat) : ∀ (i a : Nat) (acc : List Int), i + n = L.length → a < 16 → acc.length + n ≤ 1000 →
    Ev (fun k => impl_path.l0 k (a : Int) acc L (L.length : Int) (i : Int)) (acc ++ pth a (L.drop i)) := by
  induction n with
  | zero =>
    intro i a acc hi ha hac
    refine Ev.step (fun k => impl_path.l0.eq_2 ..) (ev_neg (by omega) (ev_ret ?_))
    rw [List.drop_eq_nil_of_le (by omega)]
    unfold pth
    rw [List.append_nil]
  | succ n ih =>
    intro i a acc hi ha hac
    refine Ev.step (fun k => impl_path.l0.eq_2 ..) (ev_pos (by omega) (ev_pos (by omega) (ev_pos (by omega) ?_)))
    have hd : L.drop i = L.getD i [] :: L.drop (i + 1) := drop_getD L [] i (by omega)
    have hx : Go.bits .xor .i64 (a : Int) 1 = ((beside a : Nat) : Int) := xor_one ⟨a, ha⟩
    rw [hx, rdI_nat, half_nat a (by omega), wr_succ (n := i) (by omega), hd, pth]
    generalize L.getD i [] = v
    by_cases h : beside a < v.length
    · rw [if_pos h, rd_nat]
      refine ev_pos (by omega) (ev_pos (by omega) (ev_pos (by omega) ?_))
      have := ih (i + 1) (a / 2) (acc ++ [v.getD (beside a) 0]) (by omega) (by omega) (by simp only [List.length_append, List.length_singleton]; omega)
      rw [List.append_assoc] at this
      exact this
    · rw [if_neg h]
      exact ev_neg (by omega) (ih (i + 1) (a / 2) acc (by omega) (by omega) (by omega))
/-- Path's answer. -/
def pathOf (b : Int) (l : List (List Int)) (a : Int) : List Int × Bool := if lok b l ∧ 0 ≤ a ∧ a < (l.length : Int) then (pth a.toNat (lvs b 15 (leafs b l)), true) else ([], false)
theorem impl_pathL {b : Int} {l : List (List Int)} {a : Int} (h : lok b l) (h0 : 0 ≤ a) (h1 : a < (l.length : Int)) : Ev (fun k => impl_path.f k b l a) (pth a.toNat (lvs b 15 (leafs b l))) := by
  have hl := h.1.2
  obtain ⟨n, rfl⟩ := Int.eq_ofNat_of_zero_le h0
  unfold impl_path.f
  refine ev_bind (impl_lvs b l hl.1 hl.2 h.2) ?_
  have hL := lvs_length b 15 (leafs b l)
  rw [Int.toNat_natCast]
  have := impl_path_l0 (lvs b 15 (leafs b l)) (by omega) (lvs b 15 (leafs b l)).length 0 n [] (by omega) (by omega) (by simp only [List.length_nil]; omega)
  exact this
theorem slv_l2 (b : Int) (m : List Int) (out : List (List Int)) (hm : m.length ≤ 16) (ho : out.length ≤ 1000) (res : List (List Int)) : ∀ (t : List Int) (i : Nat) (acc : List Int), m.drop i = t → acc.length + t.length ≤ 100 → i ≤ 100 →
    Ev (fun k => spec_l2Levels.l1 k b (acc ++ abv b t) (out ++ [acc ++ abv b t])) res → Ev (fun k => spec_l2Levels.l2 k b m out acc (i : Int)) res
  | [], i, acc, hd, ha, hi, hk => by
    have hl : m.length ≤ i := List.drop_eq_nil_iff.1 hd
    refine Ev.step (fun k => spec_l2Levels.l2.eq_2 ..) (ev_neg (by omega) (ev_pos (by omega) ?_))
    rw [abv, List.append_nil] at hk
    exact hk
  | [x], i, acc, hd, ha, hi, hk => by
    obtain ⟨h1, h2, h3⟩ := drop_one hd
    have hl : m.length ≤ i + 1 := List.drop_eq_nil_iff.1 h3
    simp only [List.length_cons, List.length_nil] at ha
    refine Ev.step (fun k => spec_l2Levels.l2.eq_2 ..) (ev_pos (by omega) (ev_neg (by rw [wr_succ (by omega)]; omega) (ev_pos (by omega) (ev_pos (by omega) ?_))))
    rw [h2, wr (n := (i : Int) + 2) (by omega) (by omega)]
    exact slv_l2 b m out hm ho res [] (i + 2) (acc ++ [x]) (List.drop_eq_nil_iff.2 (by omega)) (by simp only [List.length_append, List.length_singleton, List.length_nil]; omega) (by omega) (by rw [abv, List.append_nil]; exact hk)
  | x :: y :: t, i, acc, hd, ha, hi, hk => by
    obtain ⟨h1, h2, h3⟩ := drop_one hd
    obtain ⟨h4, h5, h6⟩ := drop_one h3
    simp only [List.length_cons] at ha
    refine Ev.step (fun k => spec_l2Levels.l2.eq_2 ..) (ev_pos (by omega) (ev_pos (by rw [wr_succ (by omega)]; omega) (ev_pos (by omega) (ev_pos (by rw [wr_succ (by omega)]; omega) ?_))))
    rw [h2, wr_succ (n := i) (by omega), h5, wr (n := (i : Int) + 2) (by omega) (by omega)]
    refine ev_bind (spec_node b x y) (ev_pos (by omega) ?_)
    refine slv_l2 b m out hm ho res t (i + 2) (acc ++ [node b x y]) h6 (by simp only [List.length_append, List.length_singleton]; omega) (by omega) ?_
    rw [List.append_assoc]
    exact hk
theorem slv_l1 (b : Int) (n : Nat) : ∀ (m : List Int) (out : List (List Int)), 1 ≤ m.length → m.length ≤ n + 1 → m.length ≤ 16 → out.length + n ≤ 900 → Ev (fun k => spec_l2Levels.l1 k b m (out ++ [m])) (out ++ lvs b n m) := by
  induction n with
  | zero =>
    intro m out h1 h2 h3 h4
    refine Ev.step (fun k => spec_l2Levels.l1.eq_2 ..) (ev_neg (by omega) (ev_ret ?_))
    unfold lvs
    rfl
  | succ n ih =>
    intro m out h1 h2 h3 h4
    refine Ev.step (fun k => spec_l2Levels.l1.eq_2 ..) ?_
    unfold lvs
    by_cases h : m.length = 1
    · rw [if_pos h]
      exact ev_neg (by omega) (ev_ret rfl)
    · rw [if_neg h]
      have hl := abv_length b m
      refine ev_pos (by omega) (slv_l2 b m (out ++ [m]) h3 (by simp only [List.length_append, List.length_singleton]; omega) _ m 0 [] rfl (by simp only [List.length_nil]; omega) (by omega) ?_)
      have := ih (abv b m) (out ++ [m]) (by omega) (by omega) (by omega) (by simp only [List.length_append, List.length_singleton]; omega)
      rw [List.append_assoc, List.append_assoc] at this
      rw [List.nil_append, List.append_assoc]
      exact this
theorem slv_l0 (b : Int) (l : List (List Int)) (h1 : 1 ≤ l.length) (h2 : l.length ≤ 16) (hs : ∀ x ∈ l, x.length < 4000) (n : Nat) : ∀ i : Nat, i + n = l.length →
    Ev (fun k => spec_l2Levels.l0 k b l ((leafs b l).take i) (i : Int)) (lvs b 15 (leafs b l)) := by
  have hll := leafs_length b l
  induction n with
  | zero =>
    intro i hi
    refine Ev.step (fun k => spec_l2Levels.l0.eq_2 ..) (ev_neg (by omega) ?_)
    rw [List.take_of_length_le (by omega)]
    exact slv_l1 b 15 (leafs b l) [] (by omega) (by omega) (by omega) (by decide)
  | succ n ih =>
    intro i hi
    have hx : (l.getD i []).length < 4000 := by
      rw [List.getD_eq_getElem?_getD, List.getElem?_eq_getElem (by omega)]
      exact hs _ (List.getElem_mem _)
    refine Ev.step (fun k => spec_l2Levels.l0.eq_2 ..) (ev_pos (by omega) (ev_pos (by omega) ?_))
    have er : rd_L1 l (i : Int) = l.getD i [] := by unfold rd_L1; rw [Int.toNat_natCast]
    rw [er]
    refine ev_bind (spec_leaf b (by omega)) (ev_pos (by rw [List.length_take]; omega) ?_)
    have es : (leafs b l).take i ++ [Dig.digest b (0 :: l.getD i [])] = (leafs b l).take (i + 1) := snoc_take (fun x => Dig.digest b (0 :: x)) l i (by omega)
    rw [wr_succ (by omega), es]
    exact ih (i + 1) (by omega)
theorem spec_lvs (b : Int) (l : List (List Int)) (h1 : 1 ≤ l.length) (h2 : l.length ≤ 16) (hs : ∀ x ∈ l, x.length < 4000) : Ev (fun k => spec_l2Levels.f k b l) (lvs b 15 (leafs b l)) := by
  unfold spec_l2Levels.f
  exact slv_l0 b l h1 h2 hs l.length 0 (by omega)
theorem spec_lok_l0 (b : Int) (l : List (List Int)) (hl : l.length ≤ 1048576) (n : Nat) : ∀ i : Nat, i + n = l.length → (∀ x ∈ l.take i, x.length < 4000) → Ev (fun k => spec_l2Leaves.l0 k b l (i : Int)) (decide (lok b l)) := by
  induction n with
  | zero =>
    intro i hi hs
    rw [List.take_of_length_le (by omega)] at hs
    refine Ev.step (fun k => spec_l2Leaves.l0.eq_2 ..) (ev_neg (by omega) (ev_pure (spec_in_eq _ _ _) ?_))
    by_cases h1 : 2 ≤ b ∧ b ≤ 60
    · refine ev_pos (decide_eq_true h1) (ev_pure (spec_in_eq _ _ _) (ev_ret ?_))
      apply decide_eq_decide.2
      unfold lok
      constructor
      · intro h; exact ⟨⟨h1, by omega, by omega⟩, hs⟩
      · intro h; have := h.1.2; omega
    · refine ev_neg (by simp only [decide_eq_true_eq]; exact h1) (ev_ret ?_)
      exact (decide_eq_false (fun h => h1 h.1.1)).symm
  | succ n ih =>
    intro i hi hs
    have er : rd_L1 l (i : Int) = l.getD i [] := by unfold rd_L1; rw [Int.toNat_natCast]
    refine Ev.step (fun k => spec_l2Leaves.l0.eq_2 ..) (ev_pos (by omega) (ev_pos (by omega) ?_))
    rw [er]
    have hm : l.getD i [] ∈ l := by
      rw [List.getD_eq_getElem?_getD, List.getElem?_eq_getElem (by omega)]
      exact List.getElem_mem _
    by_cases hx : (l.getD i []).length < 4000
    · refine ev_neg (by omega) ?_
      rw [wr_succ (by omega)]
      refine ih (i + 1) (by omega) (fun x hx' => ?_)
      rw [← take_getD l [] i (by omega)] at hx'
      rcases List.mem_append.1 hx' with h | h
      · exact hs x h
      · rw [List.mem_singleton.1 h]; exact hx
    · refine ev_pos (by omega) (ev_ret ?_)
      exact (decide_eq_false (fun h => hx (h.2 _ hm))).symm
theorem spec_lok (b : Int) (l : List (List Int)) (hl : l.length ≤ 1048576) : Ev (fun k => spec_l2Leaves.f k b l) (decide (lok b l)) := by
  unfold spec_l2Leaves.f
  exact spec_lok_l0 b l hl l.length 0 (by omega) (fun x hx => by cases hx)
theorem spec_treeroot (b : Int) (l : List (List Int)) (hl : l.length ≤ 1048576) : Ev (fun k => spec_TreeRoot.f k b l) (treeRoot b l) := by
  unfold spec_TreeRoot.f treeRoot
  refine ev_bind (spec_lok b l hl) ?_
  by_cases h : lok b l
  · rw [if_pos h]
    have ha := lok_apex h
    obtain ⟨⟨hb, h1, h2⟩, hs⟩ := h
    obtain ⟨pre, e, hp⟩ := last_lvs b l h1 h2
    refine ev_pos (decide_eq_true ⟨⟨hb, h1, h2⟩, hs⟩) (ev_bind (spec_lvs b l h1 h2 hs) ?_)
    unfold topOfL
    rw [e]
    generalize apex b 15 (leafs b l) = x at ha ⊢
    obtain ⟨e1, e2⟩ := rdI_last pre [x] hp
    rw [e1, e2]
    have e3 : rd [x] 0 = x := rfl
    rw [e3]
    exact ev_pos (by omega) (ev_pos (by simp only [List.length_append, List.length_singleton]; omega) (ev_pos (by simp) (ev_bind (spec_topin h2 (okd_le ha).2) (ev_bind (spec_digest b _) (ev_ret rfl)))))
  · rw [if_neg h]
    exact ev_neg (by simp [h]) (ev_ret rfl)
theorem pth_all (b : Int) (n : Nat) : ∀ (m : List Int) (a : Nat), 1 ≤ m.length → m.length ≤ n + 1 → a < m.length → pth a (lvs b n m).dropLast = pth a (lvs b n m) := by
  have h1 : ∀ (m : List Int) (a : Nat), m.length = 1 → a < m.length → pth a [m] = [] := by
    intro m a hm ha
    have : a = 0 := by omega
    subst this
    unfold pth
    rw [if_neg (by rw [hm]; decide)]
    rfl
  induction n with
  | zero =>
    intro m a h2 h3 h4
    have e : lvs b 0 m = [m] := rfl
    rw [e, h1 m a (by omega) h4]
    rfl
  | succ n ih =>
    intro m a h2 h3 h4
    unfold lvs
    by_cases h : m.length = 1
    · rw [if_pos h, h1 m a h h4]
      rfl
    · rw [if_neg h]
      have hl := abv_length b m
      have := ih (abv b m) (a / 2) (by omega) (by omega) (by omega)
      have hne : lvs b n (abv b m) ≠ [] := by
        intro e
        cases n with
        | zero => simp [lvs] at e
        | succ n =>
          unfold lvs at e
          split at e <;> simp at e
      rw [List.dropLast_cons_of_ne_nil hne]
      show _ ++ _ = _ ++ _
      rw [this]
theorem spec_path_l0 (L : List (List Int)) (hL : L.length ≤ 100) (h1 : 1 ≤ L.length) (n : Nat) : ∀ (i a : Nat) (acc : List Int), i + n + 1 = L.length → a < 16 → acc.length + n ≤ 1000 →
    Ev (fun k => spec_Path.l0 k (a : Int) acc L (i : Int)) (acc ++ pth a (L.dropLast.drop i), true) := by
  have hdl : L.dropLast.length = L.length - 1 := List.length_dropLast
  induction n with
  | zero =>
    intro i a acc hi ha hac
    refine Ev.step (fun k => spec_Path.l0.eq_2 ..) (ev_neg (by rw [wr_succ (by omega)]; omega) (ev_ret ?_))
    rw [List.drop_eq_nil_of_le (by omega)]
    unfold pth
    rw [List.append_nil]
  | succ n ih =>
    intro i a acc hi ha hac
    refine Ev.step (fun k => spec_Path.l0.eq_2 ..) (ev_pos (by rw [wr_succ (by omega)]; omega) (ev_pos (by omega) (ev_pos (by omega) ?_)))
    have hd : L.dropLast.drop i = L.dropLast.getD i [] :: L.dropLast.drop (i + 1) := drop_getD L.dropLast [] i (by omega)
    have hg : L.dropLast.getD i [] = L.getD i [] := by
      rw [List.getD_eq_getElem?_getD, List.getD_eq_getElem?_getD, List.getElem?_dropLast, if_pos (by omega)]
    have hh : ∀ _ : Unit, wrap64 (Int.tdiv (a : Int) 2) = ((a / 2 : Nat) : Int) := fun _ => half_nat a (by omega)
    rw [beside_eq a (by omega), rdI_nat, hh (), wr_succ (n := i) (by omega), hd, hg, pth]
    generalize L.getD i [] = v
    by_cases h : beside a < v.length
    · rw [if_pos h, rd_nat]
      refine ev_pos (by omega) (ev_pos (by omega) (ev_pos (by omega) ?_))
      have := ih (i + 1) (a / 2) (acc ++ [v.getD (beside a) 0]) (by omega) (by omega) (by simp only [List.length_append, List.length_singleton]; omega)
      rw [List.append_assoc] at this
      exact this
    · rw [if_neg h]
      exact ev_neg (by omega) (ih (i + 1) (a / 2) acc (by omega) (by omega) (by omega))
theorem spec_pathof (b : Int) (l : List (List Int)) (a : Int) (hl0 : l.length ≤ 1048576) : Ev (fun k => spec_Path.f k b l a) (pathOf b l a) := by
  unfold spec_Path.f pathOf
  refine ev_some (ev_bind (spec_lok b l hl0) ?_)
  by_cases h : lok b l
  · have hl := h.1.2
    refine ev_pos (decide_eq_true h) (ev_pure (spec_in_eq _ _ _) (Ev.step (fun k => spec_Path.j0.eq_2 ..) ?_))
    rw [wr (n := (l.length : Int) - 1) (by omega) (by omega)]
    by_cases h2 : 0 ≤ a ∧ a ≤ (l.length : Int) - 1
    · rw [if_pos ⟨h, h2.1, by omega⟩]
      refine ev_neg (by simp [h2]) (ev_bind (spec_lvs b l hl.1 hl.2 h.2) ?_)
      obtain ⟨n, rfl⟩ := Int.eq_ofNat_of_zero_le h2.1
      have hL := lvs_length b 15 (leafs b l)
      have hll := leafs_length b l
      obtain ⟨pre, e, hp⟩ := last_lvs b l hl.1 hl.2
      have h1 : 1 ≤ (lvs b 15 (leafs b l)).length := by rw [e]; simp
      have := spec_path_l0 (lvs b 15 (leafs b l)) (by omega) h1 ((lvs b 15 (leafs b l)).length - 1) 0 n [] (by omega) (by omega) (by simp only [List.length_nil]; omega)
      rw [List.drop_zero, pth_all b 15 (leafs b l) n (by omega) (by omega) (by omega), List.nil_append] at this
      rw [Int.toNat_natCast]
      exact this
    · rw [if_neg (fun k => h2 ⟨k.2.1, by have := k.2.2; omega⟩)]
      exact ev_pos (by simp only [decide_eq_false h2]; rfl) (ev_ret rfl)
  · rw [if_neg (fun k => h k.1)]
    exact ev_neg (by simp [h]) (Ev.step (fun k => spec_Path.j0.eq_2 ..) (ev_pos rfl (ev_ret rfl)))
theorem treeRoot_ok (b : Int) (l : List (List Int)) : 0 ≤ treeRoot b l ↔ lok b l := by
  unfold treeRoot
  by_cases h : lok b l
  · rw [if_pos h]
    have := topIn_le l.length (apex b 15 (leafs b l))
    have h2 := Dig.digest_range (bits := b) (l := topOfL b l) h.1.1.1 h.1.1.2 (by unfold topOfL; omega)
    exact ⟨fun _ => h, fun _ => h2.1⟩
  · rw [if_neg h]
    exact ⟨fun h2 => absurd h2 (by decide), fun h2 => absurd h2 h⟩
theorem spec_topof {b : Int} {l : List (List Int)} (h : lok b l) : Ev (fun k => spec_l3TopOf.f k b l) (topOfL b l) := by
  unfold spec_l3TopOf.f topOfL
  obtain ⟨⟨hb, h1, h2⟩, hs⟩ := h
  have ha := lok_apex (b := b) (l := l) ⟨⟨hb, h1, h2⟩, hs⟩
  obtain ⟨pre, e, hp⟩ := last_lvs b l h1 h2
  refine ev_bind (spec_lvs b l h1 h2 hs) ?_
  rw [e]
  generalize apex b 15 (leafs b l) = x at ha ⊢
  obtain ⟨e1, e2⟩ := rdI_last pre [x] hp
  rw [e1, e2]
  have e3 : rd [x] 0 = x := rfl
  rw [e3]
  exact ev_pos (by omega) (ev_pos (by simp only [List.length_append, List.length_singleton]; omega) (ev_pos (by simp) (ev_bind (spec_topin h2 (okd_le ha).2) (ev_ret rfl))))
theorem pathOf_in {b : Int} {l : List (List Int)} (h : lok b l) {i : Nat} (hi : i < l.length) : pathOf b l (i : Int) = (pth i (lvs b 15 (leafs b l)), true) := by
  unfold pathOf
  rw [if_pos ⟨h, by omega, by omega⟩, Int.toNat_natCast]
theorem pth_le (b : Int) (l : List (List Int)) (i : Nat) : (pth i (lvs b 15 (leafs b l))).length ≤ 16 := by
  have h1 := pth_length (lvs b 15 (leafs b l)) i
  have h2 := lvs_length b 15 (leafs b l)
  omega
theorem getD_bytes {l : List (List Int)} (h : ∀ x ∈ l, ∀ z ∈ x, 0 ≤ z ∧ z < 256) (i : Nat) : ∀ z ∈ l.getD i [], 0 ≤ z ∧ z < 256 := by
  by_cases hi : i < l.length
  · exact h _ (getD_mem hi)
  · rw [List.getD_eq_getElem?_getD, List.getElem?_eq_none (by omega)]
    intro z hz
    cases hz
theorem rootFrom_up {b many at_ : Int} {leaf path : List Int} (h : 0 ≤ rootFrom b many at_ leaf path) : upOk b many at_ leaf path := by
  unfold rootFrom at h
  by_cases hu : upOk b many at_ leaf path
  · exact hu
  · rw [if_neg hu] at h
    exact absurd h (by decide)
theorem climbed_pos {b many at_ : Int} {leaf path : List Int} (h : (climbed b many at_ leaf path).2 = true) : 0 < (climbed b many at_ leaf path).1.length := by
  unfold climbed at h ⊢
  by_cases hu : upOk b many at_ leaf path
  · rw [if_pos hu] at h ⊢
    generalize ups b 16 many.toNat at_.toNat (Dig.digest b (0 :: leaf)) path = u at h
    cases u with
    | none => cases h
    | some u => obtain ⟨i, r, y⟩ := u; exact Nat.succ_pos _
  · rw [if_neg hu] at h
    cases h
theorem root_ge (b many at_ : Int) (leaf path : List Int) : -1 ≤ rootFrom b many at_ leaf path := by
  rcases (climbed_facts b many at_ leaf path).2 with h | h
  · have := h.2; omega
  · have := h.2; omega
theorem impl_provenL (b root many at_ : Int) (l p : List Int) : Ev (fun k => impl_Proven.f k b root many at_ l p) (decide (0 ≤ rootFrom b many at_ l p ∧ rootFrom b many at_ l p = root)) := by
  have hg := root_ge b many at_ l p
  have hi := impl_root b many at_ l p
  unfold impl_Proven.f
  generalize rootFrom b many at_ l p = x at hg hi
  by_cases h0 : root = -1
  · exact ev_pos h0 (ev_ret (decide_eq_false (by omega)).symm)
  · exact ev_neg h0 (ev_bind hi (ev_ret (by rw [Bool.eq_iff_iff]; simp only [beq_iff_eq, decide_eq_true_eq]; omega)))
/-- Liar's answer. -/
def liar (b : Int) (l : List (List Int)) (many at_ : Int) (leaf path : List Int) : List Int × List Int × Bool :=
  if 0 ≤ rootFrom b many at_ leaf path ∧ rootFrom b many at_ leaf path = treeRoot b l then
    if many = (l.length : Int) then fromPaths b many at_ (l.getD at_.toNat []) (pth at_.toNat (lvs b 15 (leafs b l))) leaf path
    else (topOfL b l, (climbed b many at_ leaf path).1.getD ((climbed b many at_ leaf path).1.length - 1) [], true)
  else ([], [], false)
theorem climbed_yes {b many at_ : Int} {leaf path : List Int} (h : 0 ≤ rootFrom b many at_ leaf path) : (climbed b many at_ leaf path).2 = true := by
  rcases (climbed_facts b many at_ leaf path).2 with g | g
  · exact g.1
  · have := g.2; omega
theorem last_rd {c : List (List Int)} (h : 0 < c.length) (h2 : c.length ≤ 1000) : Aside0 (wrap64 ((c.length : Int) - 1) = ((c.length - 1 : Nat) : Int)) ∧ rd_L1 c ((c.length - 1 : Nat) : Int) = c.getD (c.length - 1) [] := by
  refine ⟨⟨by rw [wr (by omega) (by omega)]; omega⟩, rdB_nat _ _⟩
theorem impl_liar (b : Int) (l : List (List Int)) (many at_ : Int) (leaf path : List Int) : Ev (fun k => impl_Liar.f k b l many at_ leaf path) (liar b l many at_ leaf path) := by
  unfold impl_Liar.f liar
  refine ev_bind (impl_treeroot b l) (ev_bind (impl_provenL b _ many at_ leaf path) ?_)
  by_cases h : 0 ≤ rootFrom b many at_ leaf path ∧ rootFrom b many at_ leaf path = treeRoot b l
  · rw [if_pos h]
    have hk := (treeRoot_ok b l).1 (by rw [← h.2]; exact h.1)
    have hu := rootFrom_up h.1
    have hat := hu.2.1
    refine ev_pos (decide_eq_true h) ?_
    by_cases h2 : many = (l.length : Int)
    · rw [if_pos h2]
      have e : rd_L1 l at_ = l.getD at_.toNat [] := by
        obtain ⟨n, rfl⟩ := Int.eq_ofNat_of_zero_le hat.1
        rw [rdB_nat, Int.toNat_natCast]
      refine ev_pos h2 (ev_pos hat.1 (ev_pos (by rw [← h2]; exact hat.2) (ev_bind (impl_pathL hk hat.1 (by rw [← h2]; exact hat.2)) ?_)))
      rw [e]
      exact ev_bind (impl_frompaths b many at_ _ _ leaf path) (ev_ret rfl)
    · rw [if_neg h2]
      have hc := climbed_yes h.1
      have hp := climbed_pos hc
      have hl := (climbed_facts b many at_ leaf path).1.1
      obtain ⟨e1, e2⟩ := last_rd hp (Nat.le_trans hl (by decide))
      refine ev_neg h2 (ev_bind (impl_climbed b many at_ leaf path) (ev_bind (impl_topof hk) ?_))
      generalize climbed b many at_ leaf path = c at hp e1 e2
      simp only [e1.out, e2]
      exact ev_pos (Int.natCast_nonneg _) (ev_pos (by omega) (ev_ret rfl))
  · rw [if_neg h]
    exact ev_neg (by simp only [decide_eq_true_eq]; exact h) (ev_ret rfl)
theorem liar_le (b : Int) (l : List (List Int)) (many at_ : Int) (leaf path : List Int) : (liar b l many at_ leaf path).1.length ≤ 4000 ∧ (liar b l many at_ leaf path).2.1.length ≤ 4000 := by
  unfold liar
  split
  · split
    · exact fromPaths_le b many at_ _ _ leaf path
    · have h1 := topIn_le l.length (apex b 15 (leafs b l))
      refine ⟨Nat.le_trans h1 (by decide), ?_⟩
      have hf := (climbed_facts b many at_ leaf path).1.2
      generalize (climbed b many at_ leaf path).1 = c at hf
      rw [List.getD_eq_getElem?_getD]
      cases hc : c[c.length - 1]? with
      | none => exact Nat.zero_le _
      | some z => exact hf z (List.mem_of_getElem? hc)
  · exact ⟨Nat.zero_le _, Nat.zero_le _⟩
theorem spec_provenL (b root many at_ : Int) (l p : List Int) (hp : p.length ≤ 1048576) : Ev (fun k => spec_Proven.f k b root many at_ l p) (decide (0 ≤ rootFrom b many at_ l p ∧ rootFrom b many at_ l p = root)) := by
  have hs := spec_root b many at_ l p hp
  unfold spec_Proven.f
  generalize rootFrom b many at_ l p = x at hs
  refine ev_bind hs ?_
  by_cases h0 : x ≥ 0
  · exact ev_pos h0 (ev_ret (by rw [Bool.eq_iff_iff]; simp only [beq_iff_eq, decide_eq_true_eq]; omega))
  · exact ev_neg h0 (ev_ret (decide_eq_false (by omega)).symm)
theorem spec_liar (b : Int) (l : List (List Int)) (many at_ : Int) (leaf path : List Int) (hl0 : l.length ≤ 1048576) (hp : path.length ≤ 1048576) (hb : ∀ u ∈ l, ∀ z ∈ u, 0 ≤ z ∧ z < 256) (hlf : ∀ z ∈ leaf, 0 ≤ z ∧ z < 256) : Ev (fun k => spec_Liar.f k b l many at_ leaf path) (liar b l many at_ leaf path) := by
  unfold spec_Liar.f liar
  have hno : ∀ a : Bool, a = true → Ev (fun k => spec_Liar.j0 k b l a many at_ leaf path) ([], [], false) := fun a ha => by subst ha; exact Ev.step (fun k => spec_Liar.j0.eq_2 ..) (ev_pos rfl (ev_ret rfl))
  refine ev_bind (spec_treeroot b l hl0) ?_
  by_cases h0 : treeRoot b l < 0
  · rw [if_neg (fun h => by have := h.1; have := h.2; omega)]
    exact ev_pos h0 (hno _ rfl)
  · refine ev_neg h0 (ev_bind (spec_provenL b _ many at_ leaf path hp) ?_)
    by_cases h : 0 ≤ rootFrom b many at_ leaf path ∧ rootFrom b many at_ leaf path = treeRoot b l
    · rw [if_pos h]
      have hk := (treeRoot_ok b l).1 (by omega)
      have hu := rootFrom_up h.1
      have hat := hu.2.1
      refine Ev.step (fun k => spec_Liar.j0.eq_2 ..) (ev_neg (by simp only [decide_eq_true h]; decide) ?_)
      by_cases h2 : many = (l.length : Int)
      · rw [if_pos h2]
        obtain ⟨n, rfl⟩ := Int.eq_ofNat_of_zero_le hat.1
        have h1 := spec_pathof b l (n : Int) hl0
        rw [pathOf_in hk (by omega)] at h1
        have hpl := pth_le b l n
        refine ev_pos h2 (ev_bind h1 (ev_pos hat.1 (ev_pos (by rw [← h2]; exact hat.2) ?_)))
        rw [rdB_nat, Int.toNat_natCast]
        exact ev_bind (spec_frompaths b many _ _ _ leaf path (getD_bytes hb n) hlf (Nat.le_trans hpl (by decide)) hp) (ev_ret rfl)
      · rw [if_neg h2]
        have hc := climbed_yes h.1
        have hpo := climbed_pos hc
        have hl := (climbed_facts b many at_ leaf path).1.1
        obtain ⟨e1, e2⟩ := last_rd hpo (Nat.le_trans hl (by decide))
        have hin := @spec_inputs b many at_ leaf path hp hc
        refine ev_neg h2 (ev_bind hin (ev_bind (spec_topof hk) ?_))
        generalize climbed b many at_ leaf path = c at hpo e1 e2
        simp only [e1.out, e2]
        exact ev_pos (Int.natCast_nonneg _) (ev_pos (by omega) (ev_ret rfl))
    · rw [if_neg h]
      exact hno _ (by simp only [decide_eq_false h]; rfl)
/-- The first claim from place i on that lies. -/
def fl (b : Int) (l : List (List Int)) : List S31 → Nat → Int × List Int × List Int × Bool
  | [], _ => (-1, [], [], false)
  | c :: t, i => if (liar b l c.f0 c.f1 c.f2 c.f3).2.2 = true then ((i : Int), (liar b l c.f0 c.f1 c.f2 c.f3).1, (liar b l c.f0 c.f1 c.f2 c.f3).2.1, true) else fl b l t (i + 1)
/-- FirstLiar's answer. -/
def firstLiar (b : Int) (l : List (List Int)) (cs : List S31) : Int × List Int × List Int × Bool := if cs.length ≤ 60 then fl b l cs 0 else (-1, [], [], false)
theorem impl_fl (b : Int) (l : List (List Int)) (cs : List S31) (hc : cs.length ≤ 60) (n : Nat) : ∀ i : Nat, i + n = cs.length → Ev (fun k => impl_FirstLiar.l0 k b l cs (cs.length : Int) (i : Int)) (fl b l (cs.drop i) i) := by
  induction n with
  | zero =>
    intro i hi
    rw [List.drop_eq_nil_of_le (by omega)]
    exact Ev.step (fun k => impl_FirstLiar.l0.eq_2 ..) (ev_neg (by omega) (ev_ret rfl))
  | succ n ih =>
    intro i hi
    have hil : i < cs.length := by omega
    refine Ev.step (fun k => impl_FirstLiar.l0.eq_2 ..) (ev_pos (by omega) (ev_pos (by omega) (ev_pos (by omega) ?_)))
    rw [rd31, wr_succ (by omega), drop31 hil]
    have h2 := ih (i + 1) (by omega)
    generalize cs.getD i z31 = c
    refine ev_bind (impl_liar b l c.f0 c.f1 c.f2 c.f3) ?_
    unfold fl
    by_cases h : (liar b l c.f0 c.f1 c.f2 c.f3).2.2 = true
    · rw [if_pos h]
      exact ev_pos h (ev_ret rfl)
    · rw [if_neg h]
      exact ev_neg h h2
theorem impl_firstliar (b : Int) (l : List (List Int)) (cs : List S31) : Ev (fun k => impl_FirstLiar.f k b l cs) (firstLiar b l cs) := by
  unfold impl_FirstLiar.f firstLiar
  by_cases h : cs.length ≤ 60
  · rw [if_pos h]
    exact ev_neg (by omega) (impl_fl b l cs h cs.length 0 (Nat.zero_add _))
  · rw [if_neg h]
    exact ev_pos (by omega) (ev_ret rfl)
theorem spec_fl (b : Int) (l : List (List Int)) (cs : List S31) (hc : cs.length ≤ 60) (hl0 : l.length ≤ 1048576) (hb : ∀ u ∈ l, ∀ z ∈ u, 0 ≤ z ∧ z < 256) (hp : ∀ c ∈ cs, c.f3.length ≤ 1048576 ∧ ∀ z ∈ c.f2, 0 ≤ z ∧ z < 256) (n : Nat) : ∀ i : Nat, i + n = cs.length → Ev (fun k => spec_FirstLiar.l0 k b l cs (i : Int)) (fl b l (cs.drop i) i) := by
  induction n with
  | zero =>
    intro i hi
    rw [List.drop_eq_nil_of_le (by omega)]
    exact Ev.step (fun k => spec_FirstLiar.l0.eq_2 ..) (ev_neg (by omega) (Ev.step (fun k => spec_FirstLiar.j1.eq_2 ..) (ev_neg (by decide) (ev_ret rfl))))
  | succ n ih =>
    intro i hi
    have hil : i < cs.length := by omega
    obtain ⟨p1, p2⟩ := hp _ (mem31 hil)
    refine Ev.step (fun k => spec_FirstLiar.l0.eq_2 ..) (ev_pos (by omega) (Ev.step (fun k => spec_FirstLiar.j1.eq_2 ..) (ev_pos (decide_eq_true (by omega)) (ev_pos (by omega) (ev_pos (by omega) ?_)))))
    rw [rd31, wr_succ (by omega), drop31 hil]
    have h2 := ih (i + 1) (by omega)
    generalize cs.getD i z31 = c at p1 p2
    refine ev_bind (spec_liar b l c.f0 c.f1 c.f2 c.f3 hl0 p1 hb p2) ?_
    unfold fl
    by_cases h : (liar b l c.f0 c.f1 c.f2 c.f3).2.2 = true
    · rw [if_pos h]
      exact ev_pos h (ev_ret rfl)
    · rw [if_neg h]
      exact ev_neg h h2
theorem spec_firstliar (b : Int) (l : List (List Int)) (cs : List S31) (hl0 : l.length ≤ 1048576) (hb : ∀ u ∈ l, ∀ z ∈ u, 0 ≤ z ∧ z < 256) (hp : ∀ c ∈ cs, c.f3.length ≤ 1048576 ∧ ∀ z ∈ c.f2, 0 ≤ z ∧ z < 256) : Ev (fun k => spec_FirstLiar.f k b l cs) (firstLiar b l cs) := by
  unfold spec_FirstLiar.f firstLiar
  by_cases h : cs.length ≤ 60
  · rw [if_pos h]
    exact spec_fl b l cs h hl0 hb hp cs.length 0 (Nat.zero_add _)
  · rw [if_neg h]
    refine Ev.step (fun k => spec_FirstLiar.l0.eq_2 ..) (ev_pos (by omega) (Ev.step (fun k => spec_FirstLiar.j1.eq_2 ..) (ev_neg ?_ (ev_ret rfl))))
    simp only [decide_eq_true_eq]
    omega
theorem fl_le (b : Int) (l : List (List Int)) : ∀ (cs : List S31) (i : Nat), (fl b l cs i).2.1.length ≤ 4000 ∧ (fl b l cs i).2.2.1.length ≤ 4000
  | [], _ => ⟨Nat.zero_le _, Nat.zero_le _⟩
  | c :: t, i => by
    unfold fl
    split
    · exact liar_le b l c.f0 c.f1 c.f2 c.f3
    · exact fl_le b l t (i + 1)
theorem firstLiar_le (b : Int) (l : List (List Int)) (cs : List S31) : (firstLiar b l cs).2.1.length ≤ 4000 ∧ (firstLiar b l cs).2.2.1.length ≤ 4000 := by
  unfold firstLiar
  split
  · exact fl_le b l cs 0
  · exact ⟨Nat.zero_le _, Nat.zero_le _⟩
theorem FnExactFirstLiar (b : Int) (l : List (List Int)) (cs : List S58) (_ : (Lit.int .i64 b).wf = true) (hl : l.length ≤ maxLen ∧ ∀ v0 ∈ l, (v0.length ≤ maxLen ∧ ∀ v1 ∈ v0, (Lit.int .u8 v1).wf = true)) (hc : cs.length ≤ maxLen ∧ ∀ v0 ∈ cs, cq v0) (tl : tot l ≤ 1048576) (tc : ctot cs ≤ 1048576) :
    ∃ (r1 : Int) (r2 r3 : List Int) (r4 : Bool), (∃ k, spec_FirstLiar.f k b l (cs.map cl) = some (r1, r2, r3, r4)) ∧ (∃ k, impl_FirstLiar.f k b l (cs.map cl) = some (r1, r2, r3, r4)) ∧ r2.length ≤ 1000000000000 ∧ r3.length ≤ 1000000000000 := by
  have h := firstLiar_le b l (cs.map cl)
  exact ⟨_, _, _, _, (spec_firstliar b l (cs.map cl) (Nat.le_trans (tot_len l) tl) (fun u hu => wf_bytes (hl.2 u hu).2) (fun c hcm => by
    obtain ⟨x, hx, rfl⟩ := List.mem_map.1 hcm
    have hm := ctot_mem hx
    exact ⟨by show x.f3.length ≤ _; omega, wf_bytes (hc.2 x hx).2.2.1.2⟩)).rounds, (impl_firstliar b l (cs.map cl)).rounds, Nat.le_trans h.1 (by decide), Nat.le_trans h.2 (by decide)⟩

end Go.Proofs.Ytchjajbkaiefdaa.Pure
