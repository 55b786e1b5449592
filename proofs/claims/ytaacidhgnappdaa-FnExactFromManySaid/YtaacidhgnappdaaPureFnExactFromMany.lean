/- FromMany answers as the reference's FromMany, at all numbers, places, leaves and paths (of at most 2^20 places, numbers, and bytes and leaves together), in memory of its own, and leaves what came in as it was. -/
import Derived.Test.YtaacidhgnappdaaPFnExactFromManyx
import Derived.Test.YtaacidhgnappdaaKit
import Derived.Test.YtaacidhgnappdaaDig
namespace Go.Proofs.Ytaacidhgnappdaa.Pure
open Go.RowKit Go.Proofs.Ytaacidhgnappdaa Go.Proofs.Ytaacidhgnappdaa.PFnExactFromMany Go.Proofs.YtaacidhgnappdaaW.PrintWords Go.Proofs.YtaacidhgnappdaaW.PrintLast Go.Proofs.YtaacidhgnappdaaW.PrintMore Go.Proofs.Ytaacidhgnappdaa.K
set_option linter.unusedVariables false

/-- What is left of a behind a taking of t; -1: t was too much. -/
def left (a : Int) (t : Nat) : Int := if a - (t : Int) < 0 then -1 else a - (t : Int)
theorem left_ok {a : Int} {t : Nat} (h : ¬ left a t < 0) : left a t = a - (t : Int) := by
  unfold left at h ⊢
  split
  · rename_i h2
    rw [if_pos h2] at h
    omega
  · rfl
theorem left_neg {a : Int} {t : Nat} (h : a - (t : Int) < 0) : left a t = -1 := if_pos h
theorem left_pos {a : Int} {t : Nat} (h : ¬ a - (t : Int) < 0) : left a t = a - (t : Int) := if_neg h
theorem len_max {n : Nat} (h : n ≤ maxLen) : n ≤ 9223372036854775807 := by unfold maxLen at h; omega
/-- The bytes of all texts together. -/
def tsum : List (List Int) → Nat
  | [] => 0
  | x :: l => x.length + tsum l
/-- .. and the texts. -/
def tot (l : List (List Int)) : Nat := l.length + tsum l
theorem tsum_le (l : List (List Int)) : tsum l ≤ tot l := Nat.le_add_left _ _
theorem tot_len (l : List (List Int)) : l.length ≤ tot l := Nat.le_add_right _ _
theorem tsum_mem {l : List (List Int)} {x : List Int} (h : x ∈ l) : x.length ≤ tsum l := by
  induction l with
  | nil => cases h
  | cons y l ih =>
    rcases List.mem_cons.1 h with rfl | h
    · unfold tsum; omega
    · have := ih h; unfold tsum; omega
theorem tsum_append (l m : List (List Int)) : tsum (l ++ m) = tsum l + tsum m := by
  induction l with
  | nil => simp [tsum]
  | cons x l ih => simp only [List.cons_append, tsum, ih]; omega
theorem rdB_nat (l : List (List Int)) (i : Nat) : rd_L2 l (i : Int) = l.getD i [] := by unfold rd_L2; rw [Int.toNat_natCast]
theorem getD_mem {l : List (List Int)} {i : Nat} (h : i < l.length) : l.getD i [] ∈ l := by
  rw [List.getD_eq_getElem?_getD, List.getElem?_eq_getElem h]
  exact List.getElem_mem h
theorem dropB {l : List (List Int)} {i : Nat} (h : i < l.length) : l.drop i = l.getD i [] :: l.drop (i + 1) := drop_getD l [] i h
theorem szByteS (l : List Int) (a : Int) (h0 : 0 ≤ a) (ha : a ≤ 1048576) (hl : l.length ≤ maxLen) : laws_szByteS.f l a = some (left a l.length) := by
  have hm := len_max hl
  unfold laws_szByteS.f
  rw [wr (n := a - (l.length : Int)) (by omega) (by omega)]
  by_cases h : a - (l.length : Int) < 0
  · rw [if_pos h, left_neg h]
  · rw [if_neg h, left_pos h]
theorem szByteSS_l0 (l : List (List Int)) (hl : l.length ≤ 1048576) (hs : ∀ v ∈ l, v.length ≤ maxLen) (n : Nat) : ∀ (i : Nat) (a : Int), i + n = l.length → 0 ≤ a → a ≤ 1048576 → Ev (fun k => laws_szByteSS.l0 k l a (i : Int)) (left a (tsum (l.drop i))) := by
  induction n with
  | zero =>
    intro i a hi h0 ha
    refine Ev.step (fun k => laws_szByteSS.l0.eq_2 ..) (ev_neg (by omega) (ev_ret ?_))
    rw [List.drop_eq_nil_of_le (by omega)]
    unfold left tsum
    rw [if_neg (by omega)]
    omega
  | succ n ih =>
    intro i a hi h0 ha
    have hlt : i < l.length := by omega
    refine Ev.step (fun k => laws_szByteSS.l0.eq_2 ..) (ev_pos (by omega) (ev_pos (by omega) ?_))
    rw [rdB_nat, dropB hlt]
    have hx := hs _ (getD_mem hlt)
    refine ev_pure (szByteS _ a h0 ha hx) ?_
    generalize l.getD i [] = x at hx
    by_cases h : a - (x.length : Int) < 0
    · rw [left_neg h]
      refine ev_pos (by decide) (ev_ret ?_)
      rw [left_neg]
      simp only [tsum]
      omega
    · rw [left_pos h, wr_succ (by omega)]
      refine ev_neg h (ev_eq (ih (i + 1) _ (by omega) (by omega) (by omega)) ?_)
      simp only [tsum]
      unfold left
      split <;> split <;> omega
theorem szByteSS (l : List (List Int)) (a : Int) (h0 : 0 ≤ a) (ha : a ≤ 1048576) (hl : l.length ≤ maxLen) (hs : ∀ v ∈ l, v.length ≤ maxLen) : Ev (fun k => laws_szByteSS.f k l a) (left a (tot l)) := by
  have hm := len_max hl
  unfold laws_szByteSS.f
  rw [wr (n := a - (l.length : Int)) (by omega) (by omega)]
  by_cases h : a - (l.length : Int) < 0
  · refine ev_pos h (ev_ret ?_)
    have := tot_len l
    rw [left_neg (by omega)]
  · refine ev_neg h (ev_eq (szByteSS_l0 l (by omega) hs l.length 0 _ (by omega) (by omega) (by omega)) ?_)
    rw [List.drop_zero]
    unfold left tot
    split <;> split <;> omega
theorem toByteS_l0 (l : List Int) (hl : l.length ≤ 9223372036854775806) (n : Nat) : ∀ i : Nat, i + n = l.length →
    Ev (fun k => laws_toByteS.l0 k l (l.take i ++ List.replicate n 0) (i : Int)) l := by
  induction n with
  | zero =>
    intro i hi
    refine Ev.step (fun k => laws_toByteS.l0.eq_2 ..) ?_
    refine ev_neg (by omega) (ev_ret ?_)
    rw [List.replicate_zero, List.append_nil, List.take_of_length_le (by omega)]
  | succ n ih =>
    intro i hi
    refine Ev.step (fun k => laws_toByteS.l0.eq_2 ..) ?_
    have hlen : (l.take i).length = i := by rw [List.length_take]; omega
    refine ev_pos (by omega) (ev_pos (by omega) (ev_pos (by rw [List.length_append, hlen, List.length_replicate]; omega) ?_))
    rw [wr_succ (by omega), rd_nat, Int.toNat_natCast]
    have e := set_fill (l.take i) (l.getD i 0) 0 n
    rw [hlen, take_getD l 0 i (by omega)] at e
    rw [e]
    exact ih (i + 1) (by omega)
theorem toByteS (l : List Int) (hl : l.length ≤ 140737488355328) : Ev (fun k => laws_toByteS.f k l) l := by
  unfold laws_toByteS.f
  refine ev_pos (by omega) (ev_pos (by omega) ?_)
  have := toByteS_l0 l (by omega) l.length 0 (by omega)
  simpa using this
theorem toByteSS_l0 (l : List (List Int)) (hl : l.length ≤ 9223372036854775806) (hs : ∀ x ∈ l, x.length ≤ 140737488355328) (n : Nat) : ∀ i : Nat, i + n = l.length →
    Ev (fun k => laws_toByteSS.l0 k l (l.take i ++ List.replicate n []) (i : Int)) l := by
  induction n with
  | zero =>
    intro i hi
    refine Ev.step (fun k => laws_toByteSS.l0.eq_2 ..) ?_
    refine ev_neg (by omega) (ev_ret ?_)
    rw [List.replicate_zero, List.append_nil, List.take_of_length_le (by omega)]
  | succ n ih =>
    intro i hi
    refine Ev.step (fun k => laws_toByteSS.l0.eq_2 ..) ?_
    have hlen : (l.take i).length = i := by rw [List.length_take]; omega
    refine ev_pos (by omega) (ev_pos (by omega) ?_)
    rw [rdB_nat]
    refine ev_bind (toByteS _ (hs _ (getD_mem (by omega)))) (ev_pos (by rw [List.length_append, hlen, List.length_replicate]; omega) ?_)
    rw [wr_succ (by omega), Int.toNat_natCast]
    have e := set_fill (l.take i) (l.getD i []) [] n
    rw [hlen, take_getD l [] i (by omega)] at e
    rw [e]
    exact ih (i + 1) (by omega)
theorem toByteSS (l : List (List Int)) (ht : tot l ≤ 10000000000000) : Ev (fun k => laws_toByteSS.f k l) l := by
  have h1 := tot_len l
  have h2 := tsum_le l
  unfold laws_toByteSS.f
  refine ev_pos (by omega) (ev_pos (by omega) ?_)
  have := toByteSS_l0 l (by omega) (fun x hx => by have := tsum_mem hx; omega) l.length 0 (by omega)
  simpa using this
theorem toIntS_l0 (l : List Int) (hl : l.length ≤ 9223372036854775806) (n : Nat) : ∀ i : Nat, i + n = l.length →
    Ev (fun k => laws_toIntS.l0 k l (l.take i ++ List.replicate n 0) (i : Int)) l := by
  induction n with
  | zero =>
    intro i hi
    refine Ev.step (fun k => laws_toIntS.l0.eq_2 ..) ?_
    refine ev_neg (by omega) (ev_ret ?_)
    rw [List.replicate_zero, List.append_nil, List.take_of_length_le (by omega)]
  | succ n ih =>
    intro i hi
    refine Ev.step (fun k => laws_toIntS.l0.eq_2 ..) ?_
    have hlen : (l.take i).length = i := by rw [List.length_take]; omega
    refine ev_pos (by omega) (ev_pos (by omega) (ev_pos (by rw [List.length_append, hlen, List.length_replicate]; omega) ?_))
    rw [wr_succ (by omega), rd_nat, Int.toNat_natCast]
    have e := set_fill (l.take i) (l.getD i 0) 0 n
    rw [hlen, take_getD l 0 i (by omega)] at e
    rw [e]
    exact ih (i + 1) (by omega)
theorem toIntS (l : List Int) (hl : l.length ≤ 17592186044416) : Ev (fun k => laws_toIntS.f k l) l := by
  unfold laws_toIntS.f
  refine ev_pos (by omega) (ev_pos (by omega) ?_)
  have := toIntS_l0 l (by omega) l.length 0 (by omega)
  simpa using this
theorem eqByteS_l0 (l : List Int) (hl : l.length ≤ 9223372036854775806) (n : Nat) : ∀ i : Nat, i + n = l.length →
    Ev (fun k => laws_eqByteS.l0 k l l (i : Int)) true := by
  induction n with
  | zero =>
    intro i hi
    refine Ev.step (fun k => laws_eqByteS.l0.eq_2 ..) ?_
    exact ev_neg (by omega) (ev_ret rfl)
  | succ n ih =>
    intro i hi
    refine Ev.step (fun k => laws_eqByteS.l0.eq_2 ..) ?_
    refine ev_pos (by omega) (ev_pos (by omega) (ev_pos (by omega) (ev_pos rfl ?_)))
    rw [wr_succ (by omega)]
    exact ih (i + 1) (by omega)
theorem eqByteS (l : List Int) (hl : l.length ≤ 140737488355328) : Ev (fun k => laws_eqByteS.f k l l) true := by
  unfold laws_eqByteS.f
  exact ev_pos rfl (eqByteS_l0 l (by omega) l.length 0 (by omega))
theorem eqByteSS_l0 (l : List (List Int)) (hl : l.length ≤ 9223372036854775806) (hs : ∀ x ∈ l, x.length ≤ 140737488355328) (n : Nat) : ∀ i : Nat, i + n = l.length →
    Ev (fun k => laws_eqByteSS.l0 k l l (i : Int)) true := by
  induction n with
  | zero =>
    intro i hi
    refine Ev.step (fun k => laws_eqByteSS.l0.eq_2 ..) ?_
    exact ev_neg (by omega) (ev_ret rfl)
  | succ n ih =>
    intro i hi
    refine Ev.step (fun k => laws_eqByteSS.l0.eq_2 ..) ?_
    refine ev_pos (by omega) (ev_pos (by omega) (ev_pos (by omega) ?_))
    rw [rdB_nat]
    refine ev_bind (eqByteS _ (hs _ (getD_mem (by omega)))) (ev_pos rfl ?_)
    rw [wr_succ (by omega)]
    exact ih (i + 1) (by omega)
theorem eqByteSS (l : List (List Int)) (ht : tot l ≤ 10000000000000) : Ev (fun k => laws_eqByteSS.f k l l) true := by
  have h1 := tot_len l
  have h2 := tsum_le l
  unfold laws_eqByteSS.f
  exact ev_pos rfl (eqByteSS_l0 l (by omega) (fun x hx => by have := tsum_mem hx; omega) l.length 0 (by omega))
theorem eqIntS_l0 (l : List Int) (hl : l.length ≤ 9223372036854775806) (n : Nat) : ∀ i : Nat, i + n = l.length →
    Ev (fun k => laws_eqIntS.l0 k l l (i : Int)) true := by
  induction n with
  | zero =>
    intro i hi
    refine Ev.step (fun k => laws_eqIntS.l0.eq_2 ..) ?_
    exact ev_neg (by omega) (ev_ret rfl)
  | succ n ih =>
    intro i hi
    refine Ev.step (fun k => laws_eqIntS.l0.eq_2 ..) ?_
    refine ev_pos (by omega) (ev_pos (by omega) (ev_pos (by omega) (ev_pos rfl ?_)))
    rw [wr_succ (by omega)]
    exact ih (i + 1) (by omega)
theorem eqIntS (l : List Int) (hl : l.length ≤ 140737488355328) : Ev (fun k => laws_eqIntS.f k l l) true := by
  unfold laws_eqIntS.f
  exact ev_pos rfl (eqIntS_l0 l (by omega) l.length 0 (by omega))
def marked (a : Int) : Nat → List Int
  | 0 => []
  | n + 1 => (a % 256) :: marked (a + 1) n
theorem marked_length (n : Nat) : ∀ a, (marked a n).length = n := by
  induction n with
  | zero => intro a; rfl
  | succ n ih => intro a; simp [marked, ih]
theorem marked_snoc (n : Nat) : ∀ a, marked a n ++ [(a + n) % 256] = marked a (n + 1) := by
  induction n with
  | zero => intro a; simp [marked]
  | succ n ih =>
    intro a
    have := ih (a + 1)
    simp only [marked, List.cons_append] at this ⊢
    rw [← this]
    congr 3
    omega
theorem marked_getD (n : Nat) : ∀ a i, i < n → (marked a n).getD i 0 = (a + i) % 256 := by
  induction n with
  | zero => intro a i h; omega
  | succ n ih =>
    intro a i h
    cases i with
    | zero => simp [marked]
    | succ i =>
      have := ih (a + 1) i (by omega)
      simp only [marked, List.getD_cons_succ] at this ⊢
      rw [this]
      congr 1
      omega
theorem markByteS_l0 (l : List Int) (a : Int) (h0 : 0 ≤ a) (ha : a + l.length ≤ 4611686018427387904) (n : Nat) : ∀ i : Nat, i + n = l.length →
    Ev (fun k => laws_markByteS.l0 k (marked a i ++ l.drop i) (a + i) (i : Int)) (a + l.length, marked a l.length) := by
  induction n with
  | zero =>
    intro i hi
    refine Ev.step (fun k => laws_markByteS.l0.eq_2 ..) ?_
    refine ev_neg (by rw [List.length_append, marked_length, List.length_drop]; omega) (ev_ret ?_)
    obtain rfl : i = l.length := by omega
    rw [List.drop_length, List.append_nil]
  | succ n ih =>
    intro i hi
    refine Ev.step (fun k => laws_markByteS.l0.eq_2 ..) ?_
    refine ev_pos (by rw [List.length_append, marked_length, List.length_drop]; omega) (ev_pos (by omega) ?_)
    rw [wr_succ (by omega), Int.toNat_natCast, wr (n := a + i + 1) (by omega) (by omega), drop_getD l 0 i (by omega),
      List.set_append_right _ _ (by rw [marked_length]; exact Nat.le_refl _), marked_length, Nat.sub_self, List.set_cons_zero]
    have := ih (i + 1) (by omega)
    rw [← marked_snoc, List.append_assoc] at this
    rw [show a + (i : Int) + 1 = a + ((i + 1 : Nat) : Int) by omega]
    exact this
theorem markByteS (l : List Int) (a : Int) (h0 : 0 ≤ a) (ha : a + l.length ≤ 4611686018427387904) :
    Ev (fun k => laws_markByteS.f k l a) (a + l.length, marked a l.length) := by
  unfold laws_markByteS.f
  have := markByteS_l0 l a h0 ha l.length 0 (by omega)
  simpa [marked] using this
def markedI (a : Int) : Nat → List Int
  | 0 => []
  | n + 1 => a :: markedI (a + 1) n
theorem markedI_length (n : Nat) : ∀ a, (markedI a n).length = n := by
  induction n with
  | zero => intro a; rfl
  | succ n ih => intro a; simp [markedI, ih]
theorem markedI_snoc (n : Nat) : ∀ a, markedI a n ++ [a + n] = markedI a (n + 1) := by
  induction n with
  | zero => intro a; simp [markedI]
  | succ n ih =>
    intro a
    have := ih (a + 1)
    simp only [markedI, List.cons_append] at this ⊢
    rw [← this]
    congr 3
    omega
theorem markedI_getD (n : Nat) : ∀ a i, i < n → (markedI a n).getD i 0 = a + i := by
  induction n with
  | zero => intro a i h; omega
  | succ n ih =>
    intro a i h
    cases i with
    | zero => simp [markedI]
    | succ i =>
      have := ih (a + 1) i (by omega)
      simp only [markedI, List.getD_cons_succ] at this ⊢
      rw [this]
      omega
theorem markIntS_l0 (l : List Int) (a : Int) (h0 : 0 ≤ a) (ha : a + l.length ≤ 4611686018427387904) (n : Nat) : ∀ i : Nat, i + n = l.length →
    Ev (fun k => laws_markIntS.l0 k (markedI a i ++ l.drop i) (a + i) (i : Int)) (a + l.length, markedI a l.length) := by
  induction n with
  | zero =>
    intro i hi
    refine Ev.step (fun k => laws_markIntS.l0.eq_2 ..) ?_
    refine ev_neg (by rw [List.length_append, markedI_length, List.length_drop]; omega) (ev_ret ?_)
    obtain rfl : i = l.length := by omega
    rw [List.drop_length, List.append_nil]
  | succ n ih =>
    intro i hi
    refine Ev.step (fun k => laws_markIntS.l0.eq_2 ..) ?_
    refine ev_pos (by rw [List.length_append, markedI_length, List.length_drop]; omega) (ev_pos (by omega) ?_)
    rw [wr_succ (by omega), Int.toNat_natCast, wr (n := a + i + 1) (by omega) (by omega), drop_getD l 0 i (by omega),
      List.set_append_right _ _ (by rw [markedI_length]; exact Nat.le_refl _), markedI_length, Nat.sub_self, List.set_cons_zero]
    have := ih (i + 1) (by omega)
    rw [← markedI_snoc, List.append_assoc] at this
    rw [show a + (i : Int) + 1 = a + ((i + 1 : Nat) : Int) by omega]
    exact this
theorem markIntS (l : List Int) (a : Int) (h0 : 0 ≤ a) (ha : a + l.length ≤ 4611686018427387904) :
    Ev (fun k => laws_markIntS.f k l a) (a + l.length, markedI a l.length) := by
  unfold laws_markIntS.f
  have := markIntS_l0 l a h0 ha l.length 0 (by omega)
  simpa [markedI] using this
theorem tsum_snoc (l : List (List Int)) (j : Nat) (h : j < l.length) : tsum (l.take (j + 1)) = tsum (l.take j) + (l.getD j []).length := by
  rw [← take_getD l [] j h, tsum_append]
  simp [tsum]
theorem tsum_take (l : List (List Int)) (j : Nat) : tsum (l.take j) ≤ tsum l := by
  have := tsum_append (l.take j) (l.drop j)
  rw [List.take_append_drop] at this
  omega
/-- Rows, marked one after the other. -/
def markedSS (a : Int) : List (List Int) → List (List Int)
  | [] => []
  | x :: l => marked a x.length :: markedSS (a + x.length) l
theorem markedSS_length (l : List (List Int)) : ∀ a, (markedSS a l).length = l.length := by
  induction l with
  | nil => intro a; rfl
  | cons x l ih => intro a; simp [markedSS, ih]
theorem markedSS_append (l m : List (List Int)) : ∀ a, markedSS a (l ++ m) = markedSS a l ++ markedSS (a + tsum l) m := by
  induction l with
  | nil => intro a; simp [markedSS, tsum]
  | cons x l ih =>
    intro a
    simp only [List.cons_append, markedSS, tsum, ih]
    congr 3
    omega
theorem markedSS_step (a : Int) (l : List (List Int)) (j : Nat) (h : j < l.length) : (markedSS a (l.take j) ++ l.drop j).set j (marked (a + tsum (l.take j)) (l.getD j []).length) = markedSS a (l.take (j + 1)) ++ l.drop (j + 1) := by
  have hl : (markedSS a (l.take j)).length = j := by rw [markedSS_length, List.length_take]; omega
  rw [dropB h, ← take_getD l [] j h, markedSS_append, List.set_append_right _ _ (by omega), hl, Nat.sub_self, List.set_cons_zero, List.append_assoc]
  rfl
theorem markedSS_at (a : Int) (l : List (List Int)) (j : Nat) (h : j < l.length) : (markedSS a (l.take j) ++ l.drop j).getD j [] = l.getD j [] := by
  have hl : (markedSS a (l.take j)).length = j := by rw [markedSS_length, List.length_take]; omega
  rw [List.getD_eq_getElem?_getD, List.getElem?_append_right (by omega), hl, Nat.sub_self, dropB h]
  rfl
theorem heldByteS_l0 (a : Int) (m : Nat) (h0 : 0 ≤ a) (ha : a + m ≤ 4611686018427387904) (n : Nat) : ∀ i : Nat, i + n = m →
    Ev (fun k => laws_heldByteS.l0 k (marked a m) (a + i) (i : Int)) (a + m) := by
  induction n with
  | zero =>
    intro i hi
    refine Ev.step (fun k => laws_heldByteS.l0.eq_2 ..) ?_
    refine ev_neg (by rw [marked_length]; omega) (ev_ret ?_)
    omega
  | succ n ih =>
    intro i hi
    refine Ev.step (fun k => laws_heldByteS.l0.eq_2 ..) ?_
    refine ev_pos (by rw [marked_length]; omega) (ev_pos (by omega) (ev_pos (by rw [rd_nat, marked_getD _ _ _ (by omega)]) ?_))
    rw [wr_succ (by omega), wr (n := a + i + 1) (by omega) (by omega), show a + (i : Int) + 1 = a + ((i + 1 : Nat) : Int) by omega]
    exact ih (i + 1) (by omega)
theorem heldByteS (a : Int) (m : Nat) (h0 : 0 ≤ a) (ha : a + m ≤ 4611686018427387904) :
    Ev (fun k => laws_heldByteS.f k (marked a m) a) (a + m) := by
  unfold laws_heldByteS.f
  have := heldByteS_l0 a m h0 ha m 0 (by omega)
  simpa using this
theorem eqPair (p q : List Int) (hp : p.length ≤ 140737488355328) (hq : q.length ≤ 140737488355328) : Ev (fun k => laws_eqPair.f k p q p q) true := by
  unfold laws_eqPair.f
  exact ev_bind (eqByteS p hp) (ev_pos rfl (ev_bind (eqByteS q hq) (ev_pos rfl (ev_ret rfl))))
theorem markPair (p q : List Int) (hp : p.length ≤ 140737488355328) (hq : q.length ≤ 140737488355328) : Ev (fun k => laws_markPair.f k p q 1) (1 + (p.length : Int) + (q.length : Int), marked 1 p.length, marked (1 + p.length) q.length) := by
  unfold laws_markPair.f
  exact ev_bind (markByteS p 1 (by decide) (by omega)) (ev_bind (markByteS q (1 + p.length) (by omega) (by omega)) (ev_ret rfl))
theorem heldPair (m n : Nat) (hp : m ≤ 140737488355328) (hq : n ≤ 140737488355328) : Ev (fun k => laws_heldPair.f k (marked 1 m) (marked (1 + m) n) 1) (1 + (m : Int) + (n : Int)) := by
  unfold laws_heldPair.f
  exact ev_bind (heldByteS 1 m (by decide) (by omega)) (ev_neg (by omega) (ev_bind (heldByteS (1 + m) n (by omega) (by omega)) (ev_neg (by omega) (ev_ret rfl))))
theorem digest_a (a0 : Int) (l : List Int) (h1 : 2 ≤ a0 ∧ a0 ≤ 60) (h2 : l.length ≤ 4000) : impl_Squeeze.f a0 l 1 = some ([Dig.out a0 (Dig.rnds 6 (Dig.taken l))], true) := by
  unfold impl_Squeeze.f
  rw [if_pos h1, if_pos h2, if_pos (by decide)]
  generalize Dig.rnds 6 (Dig.taken l) = s
  simp only [Int.toNat_one, Dig.squeeze]
theorem digest_b (a0 : Int) (l : List Int) (h : ¬ ((2 ≤ a0 ∧ a0 ≤ 60) ∧ l.length ≤ 4000)) : impl_Squeeze.f a0 l 1 = some ([], false) := by
  unfold impl_Squeeze.f
  by_cases h1 : 2 ≤ a0 ∧ a0 ≤ 60
  · rw [if_pos h1, if_neg (fun h2 => h ⟨h1, h2⟩)]
  · rw [if_neg h1]
theorem digest_fin (x : Int) : ((some ([x], true) : Option (List Int × Bool)).bind fun bt => (if bt.2 = true then (if 0 < (bt.1.length : Int) then (some (rd bt.1 0)) else (none)) else (some (-1)))) = some x := by
  rw [Option.bind_some, if_pos rfl, if_pos (by simp)]
  rfl
theorem digest_non : ((some ([], false) : Option (List Int × Bool)).bind fun bt => (if bt.2 = true then (if 0 < (bt.1.length : Int) then (some (rd bt.1 0)) else (none)) else (some (-1)))) = some (-1) := by
  rw [Option.bind_some, if_neg (by simp)]
theorem impl_digest (a0 : Int) (l : List Int) : impl_Digest.f a0 l = some (Dig.digest a0 l) := by
  unfold impl_Digest.f
  by_cases h1 : 2 ≤ a0 ∧ a0 ≤ 60
  · by_cases h2 : l.length ≤ 4000
    · have e : Dig.digest a0 l = Dig.out a0 (Dig.rnds 6 (Dig.taken l)) := by
        unfold Dig.digest
        rw [if_pos h1, if_pos h2]
      rw [digest_a a0 l h1 h2, e]
      exact digest_fin _
    · have e : Dig.digest a0 l = -1 := by
        unfold Dig.digest
        rw [if_pos h1, if_neg h2]
      rw [digest_b a0 l (fun h => h2 h.2), e]
      exact digest_non
  · have e : Dig.digest a0 l = -1 := by
      unfold Dig.digest
      rw [if_neg h1]
    rw [digest_b a0 l (fun h => h1 h.1), e]
    exact digest_non

theorem spec_turn13 (x : Int) : spec_l1Turn.f x 13 = some (Dig.r13 x) := by
  have e : wrap64 (64 - 13) = 51 := by unfold wrap64; decide
  unfold spec_l1Turn.f
  rw [e, if_pos (by decide), if_pos (by decide)]
  have e1 : shl .u64 x 13 = IntKind.u64.wrap (x * 8192) := by
    unfold shl
    rw [show (2 : Int) ^ min (13 : Int).toNat IntKind.u64.bits = 8192 by decide]
  have e2 : shr .u64 x 51 = x / 2251799813685248 := by
    unfold shr
    rw [show (2 : Int) ^ min (51 : Int).toNat IntKind.u64.bits = 2251799813685248 by decide]
  rw [e1, e2]
  rfl
theorem spec_turn29 (x : Int) : spec_l1Turn.f x 29 = some (Dig.r29 x) := by
  have e : wrap64 (64 - 29) = 35 := by unfold wrap64; decide
  unfold spec_l1Turn.f
  rw [e, if_pos (by decide), if_pos (by decide)]
  have e1 : shl .u64 x 29 = IntKind.u64.wrap (x * 536870912) := by
    unfold shl
    rw [show (2 : Int) ^ min (29 : Int).toNat IntKind.u64.bits = 536870912 by decide]
  have e2 : shr .u64 x 35 = x / 34359738368 := by
    unfold shr
    rw [show (2 : Int) ^ min (35 : Int).toNat IntKind.u64.bits = 34359738368 by decide]
  rw [e1, e2]
  rfl
theorem spec_turn41 (x : Int) : spec_l1Turn.f x 41 = some (Dig.r41 x) := by
  have e : wrap64 (64 - 41) = 23 := by unfold wrap64; decide
  unfold spec_l1Turn.f
  rw [e, if_pos (by decide), if_pos (by decide)]
  have e1 : shl .u64 x 41 = IntKind.u64.wrap (x * 2199023255552) := by
    unfold shl
    rw [show (2 : Int) ^ min (41 : Int).toNat IntKind.u64.bits = 2199023255552 by decide]
  have e2 : shr .u64 x 23 = x / 8388608 := by
    unfold shr
    rw [show (2 : Int) ^ min (23 : Int).toNat IntKind.u64.bits = 8388608 by decide]
  rw [e1, e2]
  rfl
theorem spec_round (a b c : Int) : spec_l1Round.f a b c = some (Dig.rnd (a, b, c)) := by
  unfold spec_l1Round.f
  simp only [spec_turn13, spec_turn29, spec_turn41, Option.bind_some, Dig.rnd0_left, Dig.rnd1_left, Dig.rnd2_left]
  rfl
theorem spec_out_l0 (bits : Int) (hb : 0 ≤ bits) (m : Nat) (hm : m ≤ 1000) (n : Nat) : ∀ (i : Nat) (a b c : Int), i + n = m →
    Ev (fun k => spec_l1Out.l0 k bits (m : Int) (i : Int) a b c) (Dig.out bits (Dig.rnds n (a, b, c))) := by
  induction n with
  | zero =>
    intro i a b c hi
    refine Ev.step (fun k => spec_l1Out.l0.eq_2 ..) ?_
    exact ev_neg (by omega) (ev_pos hb (ev_ret rfl))
  | succ n ih =>
    intro i a b c hi
    refine Ev.step (fun k => spec_l1Out.l0.eq_2 ..) ?_
    refine ev_pos (by omega) (ev_pure (spec_round a b c) ?_)
    rw [wr_succ (by omega)]
    exact ih (i + 1) _ _ _ (by omega)
theorem spec_out {bits : Int} (hb : 0 ≤ bits) (a b c : Int) (m : Nat) (hm : m ≤ 1000) : Ev (fun k => spec_l1Out.f k bits a b c (m : Int)) (Dig.out bits (Dig.rnds m (a, b, c))) := by
  unfold spec_l1Out.f
  exact spec_out_l0 bits hb m hm m 0 a b c (Nat.zero_add _)
theorem spec_digest_l0 {bits : Int} (hb : 0 ≤ bits) (l : List Int) (hl : l.length ≤ 4000) (n : Nat) : ∀ (i : Nat) (a b c : Int), i + n = l.length → Dig.takes (l.take i) (1, 2, 3) = (a, b, c) →
    Ev (fun k => spec_Digest.l0 k bits l (i : Int) a b c) (Dig.out bits (Dig.rnds 6 (Dig.taken l))) := by
  induction n with
  | zero =>
    intro i a b c hi hs
    refine Ev.step (fun k => spec_Digest.l0.eq_2 ..) ?_
    rw [List.take_of_length_le (by omega)] at hs
    refine ev_neg (by omega) ?_
    have e : Dig.taken l = (Go.bits .xor .u64 a (IntKind.u64.wrap (l.length : Int)), b, c) := by
      unfold Dig.taken
      rw [hs]
      rfl
    refine ev_bind (a := Dig.out bits (Dig.rnds 6 (Dig.taken l))) ?_ (ev_ret rfl)
    rw [e]
    exact spec_out hb _ _ _ 6 (by decide)
  | succ n ih =>
    intro i a b c hi hs
    refine Ev.step (fun k => spec_Digest.l0.eq_2 ..) ?_
    refine ev_pos (by omega) (ev_pos (by omega) (ev_pure (spec_round _ _ _) (ev_pure (spec_round _ _ _) ?_)))
    rw [wr_succ (by omega)]
    refine ih (i + 1) _ _ _ (by omega) ?_
    have et : l.take (i + 1) = l.take i ++ [rd l (i : Int)] := by
      rw [rd_nat, take_getD l 0 i (by omega)]
    rw [et, Dig.takes_snoc, hs]
    rfl
theorem spec_digest (a0 : Int) (l : List Int) : Ev (fun k => spec_Digest.f k a0 l) (Dig.digest a0 l) := by
  unfold spec_Digest.f Dig.digest
  refine ev_pure (a := decide (2 ≤ a0 ∧ a0 ≤ 60)) (by unfold spec_l1In.f; by_cases h : a0 ≥ 2 <;> simp [h]) ?_
  by_cases h1 : 2 ≤ a0 ∧ a0 ≤ 60
  · rw [if_pos h1]
    refine ev_pos (by simp [h1]) ?_
    refine Ev.step (fun k => spec_Digest.j0.eq_2 ..) ?_
    by_cases h2 : l.length ≤ 4000
    · rw [if_pos h2]
      refine ev_neg (by simp; omega) ?_
      exact spec_digest_l0 (by omega) l h2 l.length 0 1 2 3 (Nat.zero_add _) rfl
    · rw [if_neg h2]
      exact ev_pos (by simp; omega) (ev_ret rfl)
  · rw [if_neg h1]
    refine ev_neg (by simp; omega) ?_
    refine Ev.step (fun k => spec_Digest.j0.eq_2 ..) ?_
    exact ev_pos rfl (ev_ret rfl)
/-- The last n bytes of a number, the highest first. -/
def be : Nat → Nat → List Int
  | 0, _ => []
  | n + 1, x => be n (x / 256) ++ [((x % 256 : Nat) : Int)]
theorem be_length (n : Nat) : ∀ x, (be n x).length = n := by
  induction n with
  | zero => intro x; rfl
  | succ n ih => intro x; simp [be, ih]
/-- The eight bytes of a number, nothing below 0. -/
def eightOf (x : Int) : List Int := if x < 0 then [] else be 8 x.toNat
theorem impl_high_l0 (n : Nat) : ∀ (x : Nat) (t : List Int), n ≤ 8 → t.length = 8 - n →
    Ev (fun k => impl_high.l0 k (x : Int) (List.replicate n 0 ++ t) ((n : Int) - 1)) (be n x ++ t) := by
  induction n with
  | zero =>
    intro x t _ _
    refine Ev.step (fun k => impl_high.l0.eq_2 ..) ?_
    exact ev_neg (by omega) (ev_ret rfl)
  | succ n ih =>
    intro x t hn ht
    refine Ev.step (fun k => impl_high.l0.eq_2 ..) ?_
    refine ev_pos (by omega) (ev_pos (by omega) (ev_pos (by rw [List.length_append, List.length_replicate, ht]; omega) ?_))
    have e1 : wrap64 (((n + 1 : Nat) : Int) - 1 - 1) = (n : Int) - 1 := by rw [wr (by omega) (by omega)]; omega
    have e2 : (((n + 1 : Nat) : Int) - 1).toNat = n := by omega
    have e3 : (x : Int) / 256 = ((x / 256 : Nat) : Int) := by omega
    have e4 : (x : Int) % 256 = ((x % 256 : Nat) : Int) := by omega
    rw [e1, e2, e3, e4]
    have e5 : (List.replicate (n + 1) (0 : Int) ++ t).set n ((x % 256 : Nat) : Int) = List.replicate n 0 ++ (((x % 256 : Nat) : Int) :: t) := by
      rw [List.replicate_succ', List.append_assoc, List.set_append_right _ _ (by rw [List.length_replicate]; exact Nat.le_refl _), List.length_replicate, Nat.sub_self]
      rfl
    rw [e5]
    have := ih (x / 256) (((x % 256 : Nat) : Int) :: t) (by omega) (by rw [List.length_cons, ht]; omega)
    simp only [be, List.append_assoc, List.singleton_append]
    exact this
theorem impl_eight {x : Int} (hx : x ≤ 9223372036854775807) : Ev (fun k => impl_Eight.f k x) (eightOf x) := by
  unfold impl_Eight.f eightOf
  by_cases h : x < 0
  · rw [if_pos h]
    exact ev_pos h (ev_ret rfl)
  · rw [if_neg h]
    refine ev_neg h (ev_bind (a := be 8 x.toNat) ?_ (ev_ret rfl))
    unfold impl_high.f
    refine ev_pos (by decide) (ev_pos (by decide) ?_)
    have := impl_high_l0 8 x.toNat [] (by decide) rfl
    rw [Int.toNat_of_nonneg (by omega)] at this
    simpa [wrap64] using this
theorem spec_eight_l0 (x : Nat) (hx : x ≤ 9223372036854775807) (n : Nat) : ∀ (i : Nat), i + n = 8 →
    Ev (fun k => spec_Eight.l0 k (x : Int) (be i (x / 256 ^ n)) ((n : Int) - 1)) (be 8 x) := by
  induction n with
  | zero =>
    intro i hi
    refine Ev.step (fun k => spec_Eight.l0.eq_2 ..) ?_
    obtain rfl : i = 8 := by omega
    refine ev_neg (by omega) (ev_ret ?_)
    rw [Nat.pow_zero, Nat.div_one]
  | succ n ih =>
    intro i hi
    refine Ev.step (fun k => spec_Eight.l0.eq_2 ..) ?_
    have e1 : wrap64 (8 * (((n + 1 : Nat) : Int) - 1)) = ((8 * n : Nat) : Int) := by rw [wr (by omega) (by omega)]; omega
    have e2 : wrap64 (((n + 1 : Nat) : Int) - 1 - 1) = (n : Int) - 1 := by rw [wr (by omega) (by omega)]; omega
    have e3 : shr .i64 (x : Int) ((8 * n : Nat) : Int) = ((x / 256 ^ n : Nat) : Int) := by
      unfold shr
      have e : (256 : Nat) ^ n = 2 ^ (8 * n) := by rw [show (256 : Nat) = 2 ^ 8 from rfl, ← Nat.pow_mul]
      rw [Int.toNat_natCast, Nat.min_eq_left (show 8 * n ≤ IntKind.i64.bits by show 8 * n ≤ 64; omega), e]
      simp
    have e4 : ((x / 256 ^ n : Nat) : Int) % 256 = ((x / 256 ^ n % 256 : Nat) : Int) := by omega
    rw [e1, e2]
    refine ev_pos (by omega) (ev_pos (by omega) (ev_pos (by rw [be_length]; omega) ?_))
    rw [e3, e4]
    have := ih (i + 1) (by omega)
    have e5 : be (i + 1) (x / 256 ^ n) = be i (x / 256 ^ (n + 1)) ++ [((x / 256 ^ n % 256 : Nat) : Int)] := by
      rw [Nat.pow_succ, ← Nat.div_div_eq_div_mul]
      rfl
    rw [e5] at this
    exact this
theorem spec_eight {x : Int} (hx : x ≤ 9223372036854775807) : Ev (fun k => spec_Eight.f k x) (eightOf x) := by
  unfold spec_Eight.f eightOf
  refine ev_some ?_
  by_cases h : x < 0
  · rw [if_pos h]
    exact ev_pos h (ev_ret rfl)
  · rw [if_neg h]
    refine ev_neg h ?_
    have := spec_eight_l0 x.toNat (by omega) 8 0 rfl
    rw [Int.toNat_of_nonneg (by omega)] at this
    exact this
theorem spec_leafin {l : List Int} (hl : l.length ≤ 140737488355000) : spec_l2Leaf.f l = some (0 :: l) := by
  unfold spec_l2Leaf.f
  rw [Option.bind_some, if_pos (by simp only [List.length_singleton]; omega)]
  rfl
theorem spec_leaf (a : Int) {l : List Int} (hl : l.length ≤ 140737488355000) : Ev (fun k => spec_LeafOf.f k a l) (Dig.digest a (0 :: l)) := by
  unfold spec_LeafOf.f
  exact ev_pure (spec_leafin hl) (ev_bind (spec_digest a (0 :: l)) (ev_ret rfl))
theorem shl_one {b : Int} (h : 2 ≤ b ∧ b ≤ 60) : shl .i64 1 b = 2 ^ b.toNat ∧ (4 : Int) ≤ 2 ^ b.toNat ∧ (2 : Int) ^ b.toNat ≤ 1152921504606846976 := by
  have h1 := Dig.two_pow_le b.toNat (by omega)
  have e60 : (2 : Nat) ^ 60 = 1152921504606846976 := by decide
  have ec : (2 : Int) ^ b.toNat = ((2 ^ b.toNat : Nat) : Int) := by simp
  have h2 : 2 ^ 2 ≤ 2 ^ b.toNat := Nat.pow_le_pow_right (by decide) (by omega)
  unfold shl
  rw [Nat.min_eq_left (show b.toNat ≤ IntKind.i64.bits by show b.toNat ≤ 64; omega), IntKind.wrap_i64, ec]
  omega
/-- A number that is a digest of so many bits. -/
def okd (b x : Int) : Prop := (2 ≤ b ∧ b ≤ 60) ∧ 0 ≤ x ∧ x < 2 ^ b.toNat
instance (b x : Int) : Decidable (okd b x) := by unfold okd; infer_instance
theorem okd_le {b x : Int} (h : okd b x) : 0 ≤ x ∧ x ≤ 9223372036854775807 := by
  have := (shl_one h.1).2.2
  have := h.2
  omega
theorem impl_in_eq (a b c : Int) : impl_in.f a b c = some (decide (b ≤ a ∧ a ≤ c)) := by
  unfold impl_in.f
  by_cases h : a ≥ b <;> simp [h]
theorem impl_bits_eq (a : Int) : impl_bitsOk.f a = some (decide (2 ≤ a ∧ a ≤ 60)) := by
  unfold impl_bitsOk.f
  rw [impl_in_eq, Option.bind_some]
theorem impl_isdig (b x : Int) : impl_isDigest.f b x = some (decide (okd b x)) := by
  unfold impl_isDigest.f
  rw [impl_bits_eq, Option.bind_some]
  by_cases h : 2 ≤ b ∧ b ≤ 60
  · obtain ⟨h1, h2, h3⟩ := shl_one h
    rw [if_pos (by simp [h]), if_pos (by omega), h1, wr (by omega) (by omega), impl_in_eq, Option.bind_some]
    congr 1
    apply decide_eq_decide.2
    unfold okd
    omega
  · rw [if_neg (by simp [h])]
    congr 1
    exact (decide_eq_false (fun k => h k.1)).symm
theorem spec_in_eq (a b c : Int) : spec_l1In.f a b c = some (decide (b ≤ a ∧ a ≤ c)) := by
  unfold spec_l1In.f
  by_cases h : a ≥ b <;> simp [h]
theorem spec_isdig (b x : Int) : spec_l2Digest.f b x = some (decide (okd b x)) := by
  unfold spec_l2Digest.f
  rw [spec_in_eq, Option.bind_some]
  by_cases h : 2 ≤ b ∧ b ≤ 60
  · obtain ⟨h1, h2, h3⟩ := shl_one h
    rw [if_pos (by simp [h]), if_pos (by omega), h1, wr (by omega) (by omega), spec_in_eq, Option.bind_some]
    congr 1
    apply decide_eq_decide.2
    unfold okd
    omega
  · rw [if_neg (by simp [h])]
    congr 1
    exact (decide_eq_false (fun k => h k.1)).symm
theorem eightOf_le (x : Int) : (eightOf x).length ≤ 8 := by
  unfold eightOf; split
  · simp
  · rw [be_length]; omega
/-- What a node's digest is taken of. -/
def nodeIn (x y : Int) : List Int := 1 :: (eightOf x ++ eightOf y)
theorem nodeIn_le (x y : Int) : (nodeIn x y).length ≤ 17 := by
  have := eightOf_le x
  have := eightOf_le y
  unfold nodeIn
  simp only [List.length_cons, List.length_append]
  omega
theorem impl_nodein {x y : Int} (hx : x ≤ 9223372036854775807) (hy : y ≤ 9223372036854775807) : Ev (fun k => impl_nodeInput.f k x y) (nodeIn x y) := by
  unfold impl_nodeInput.f
  have h1 := eightOf_le x
  have h2 := eightOf_le y
  refine ev_bind (impl_eight hx) (ev_bind (impl_eight hy) (ev_pure (a := nodeIn x y) ?_ (ev_ret rfl)))
  unfold slices_Concat_byte_byte.f nodeIn
  generalize eightOf x = p at h1 ⊢
  generalize eightOf y = q at h2 ⊢
  have e : [[1], p, q].flatten = 1 :: (p ++ q) := by simp
  rw [e, if_pos (by simp only [List.length_cons, List.length_append]; omega)]
/-- A node's digest. -/
def node (b x y : Int) : Int := if okd b x ∧ okd b y then Dig.digest b (nodeIn x y) else -1
theorem spec_nodein {x y : Int} (hx : x ≤ 9223372036854775807) (hy : y ≤ 9223372036854775807) : Ev (fun k => spec_l2Node.f k x y) (nodeIn x y) := by
  unfold spec_l2Node.f nodeIn
  have h1 := eightOf_le x
  have h2 := eightOf_le y
  refine ev_some (ev_bind (spec_eight hx) (ev_pos (by simp only [List.length_singleton]; omega) (ev_some (ev_bind (spec_eight hy) (ev_pos (by simp only [List.length_append, List.length_singleton]; omega) (ev_ret ?_))))))
  simp
theorem spec_node (b x y : Int) : Ev (fun k => spec_NodeOf.f k b x y) (node b x y) := by
  unfold spec_NodeOf.f node
  refine ev_pure (spec_isdig b x) ?_
  by_cases h1 : okd b x
  · refine ev_pos (decide_eq_true h1) (ev_pure (spec_isdig b y) (Ev.step (fun k => spec_NodeOf.j0.eq_2 ..) ?_))
    by_cases h2 : okd b y
    · rw [if_pos ⟨h1, h2⟩]
      exact ev_neg (by simp [h2]) (ev_bind (spec_nodein (okd_le h1).2 (okd_le h2).2) (ev_bind (spec_digest b (nodeIn x y)) (ev_ret rfl)))
    · rw [if_neg (fun h => h2 h.2)]
      exact ev_pos (by simp [h2]) (ev_ret rfl)
  · rw [if_neg (fun h => h1 h.1)]
    exact ev_neg (by simp [h1]) (Ev.step (fun k => spec_NodeOf.j0.eq_2 ..) (ev_pos rfl (ev_ret rfl)))
/-- What a top's digest is taken of. -/
def topIn (many : Nat) (x : Int) : List Int := 2 :: (many : Int) :: eightOf x
theorem topIn_le (many : Nat) (x : Int) : (topIn many x).length ≤ 10 := by
  have := eightOf_le x
  unfold topIn
  simp only [List.length_cons]
  omega
theorem node_okd {b : Int} (hb : 2 ≤ b ∧ b ≤ 60) (x y : Int) : okd b (Dig.digest b (nodeIn x y)) :=
  ⟨hb, Dig.digest_range hb.1 hb.2 (by have := nodeIn_le x y; omega)⟩
theorem impl_topin {many : Nat} {x : Int} (hm : many ≤ 16) (hx : x ≤ 9223372036854775807) : Ev (fun k => impl_topInput.f k (many : Int) x) (topIn many x) := by
  unfold impl_topInput.f topIn
  have h1 := eightOf_le x
  have e : (many : Int) % 256 = many := by omega
  rw [e]
  exact ev_some (ev_bind (impl_eight hx) (ev_pos (by simp only [List.length_cons, List.length_nil]; omega) (ev_ret rfl)))
theorem spec_topin {many : Nat} {x : Int} (hm : many ≤ 16) (hx : x ≤ 9223372036854775807) : Ev (fun k => spec_l2Top.f k (many : Int) x) (topIn many x) := by
  unfold spec_l2Top.f topIn
  have h1 := eightOf_le x
  have e : (many : Int) % 256 = many := by omega
  rw [e]
  exact ev_some (ev_bind (spec_eight hx) (ev_pos (by simp only [List.length_cons, List.length_nil]; omega) (ev_ret rfl)))
/-- The place beside. -/
def beside (a : Nat) : Nat := if a % 2 = 0 then a + 1 else a - 1
theorem half_nat (a : Nat) (h : a ≤ 1000) : wrap64 (Int.tdiv (a : Int) 2) = ((a / 2 : Nat) : Int) := by
  rw [Int.tdiv_eq_ediv_of_nonneg (by omega), wr (by omega) (by omega)]
  omega
theorem odd_nat (a : Nat) : Int.tmod (a : Int) 2 = ((a % 2 : Nat) : Int) := by
  rw [Int.tmod_eq_emod_of_nonneg (by omega)]
  omega
theorem xor_one : ∀ a : Fin 16, Go.bits .xor .i64 ((a.val : Nat) : Int) 1 = ((beside a.val : Nat) : Int) := by decide
theorem beside_eq (a : Nat) (h : a ≤ 100) : wrap64 ((wrap64 ((a : Int) + 1)) - (wrap64 (2 * (Int.tmod (a : Int) 2)))) = ((beside a : Nat) : Int) := by
  rw [odd_nat, wr (n := (a : Int) + 1) (by omega) (by omega), wr (n := 2 * ((a % 2 : Nat) : Int)) (by omega) (by omega), wr (by omega) (by omega)]
  unfold beside
  split <;> omega
theorem drop_one {m : List Int} {i : Nat} {x : Int} {t : List Int} (h : m.drop i = x :: t) : i < m.length ∧ rd m (i : Int) = x ∧ m.drop (i + 1) = t := by
  have hl : i < m.length := by
    have := congrArg List.length h
    simp only [List.length_drop, List.length_cons] at this
    omega
  have h2 := drop_getD m 0 i hl
  rw [h] at h2
  injection h2 with h3 h4
  exact ⟨hl, by rw [rd_nat]; exact h3.symm, h4.symm⟩
/-- Ascending places, each behind p and below n. -/
def plc (n : Int) : Int → List Int → Bool
  | p, x :: t => (decide (0 ≤ x) && decide (x ≤ n - 1)) && (decide (p < x) && plc n x t)
  | _, [] => true
def plcs (n : Int) (l : List Int) : Bool := plc n (-1) l && decide (0 < l.length)
theorem in_val (a b c : Int) : impl_in.f a b c = some (decide (b ≤ a) && decide (a ≤ c)) := by
  unfold impl_in.f
  by_cases h : a ≥ b <;> simp [h]
theorem sin_val (a b c : Int) : spec_l1In.f a b c = some (decide (b ≤ a) && decide (a ≤ c)) := by
  unfold spec_l1In.f
  by_cases h : a ≥ b <;> simp [h]
theorem last_at {l : List Int} {i : Nat} {x : Int} {t : List Int} (h : l.drop i = x :: t) : rd l (i : Int) = x ∧ i < l.length ∧ l.drop (i + 1) = t := by
  obtain ⟨h1, h2, h3⟩ := drop_one h
  exact ⟨h2, h1, h3⟩
theorem impl_plc_l0 (n : Int) (hn : 0 ≤ n ∧ n ≤ 1000000) (l : List Int) (hl : l.length ≤ 1048576) : ∀ (t : List Int) (i : Nat) (p : Int), l.drop i = t → (i = 0 ∧ p = -1 ∨ 0 < i ∧ p = rd l ((i - 1 : Nat) : Int)) →
    Ev (fun k => impl_placesOk.l0 k l n l (l.length : Int) (i : Int)) (plc n p t && decide (0 < l.length))
  | [], i, p, hd, hp => by
    have h : l.length ≤ i := List.drop_eq_nil_iff.1 hd
    refine Ev.step (fun k => impl_placesOk.l0.eq_2 ..) (ev_neg (by omega) (ev_ret ?_))
    simp [plc]
  | x :: t, i, p, hd, hp => by
    obtain ⟨h1, h2, h3⟩ := last_at hd
    have ih := impl_plc_l0 n hn l hl t (i + 1) x h3 (.inr ⟨by omega, by rw [show i + 1 - 1 = i by omega]; exact h1.symm⟩)
    have ew : wrap64 (n - 1) = n - 1 := wr (by omega) (by omega)
    refine Ev.step (fun k => impl_placesOk.l0.eq_2 ..) (ev_pos (by omega) (ev_pos (by omega) (ev_pos (by omega) (ev_pure (in_val _ _ _) ?_))))
    rw [h1, ew, wr_succ (n := i) (by omega)]
    unfold plc
    by_cases hx : (decide (0 ≤ x) && decide (x ≤ n - 1)) = true
    · rw [hx, Bool.true_and]
      have hx0 : 0 ≤ x := by simp only [Bool.and_eq_true, decide_eq_true_eq] at hx; exact hx.1
      refine ev_pos rfl ?_
      rcases hp with ⟨rfl, rfl⟩ | ⟨hi, rfl⟩
      · have e : decide ((-1 : Int) < x) = true := decide_eq_true (by omega)
        rw [e, Bool.true_and]
        exact ev_neg (by omega) ih
      · have ei : wrap64 ((i : Int) - 1) = ((i - 1 : Nat) : Int) := by rw [wr (by omega) (by omega)]; omega
        refine ev_pos (by omega) ?_
        rw [ei]
        refine ev_pos (by omega) (ev_pos (by omega) ?_)
        generalize rd l ((i - 1 : Nat) : Int) = q
        by_cases hq : q < x
        · rw [decide_eq_true hq, Bool.true_and]
          exact ev_neg (by omega) ih
        · rw [decide_eq_false hq, Bool.false_and, Bool.false_and]
          exact ev_pos (by omega) (ev_ret rfl)
    · simp only [Bool.not_eq_true] at hx
      rw [hx, Bool.false_and, Bool.false_and]
      exact ev_neg (by decide) (ev_ret rfl)
theorem impl_plc (n : Int) (hn : 0 ≤ n ∧ n ≤ 1000000) (l : List Int) (hl : l.length ≤ 1048576) : Ev (fun k => impl_placesOk.f k l n) (plcs n l) := by
  unfold impl_placesOk.f plcs
  exact impl_plc_l0 n hn l hl l 0 (-1) rfl (.inl ⟨rfl, rfl⟩)
theorem spec_plc_l0 (n : Int) (hn : 0 ≤ n ∧ n ≤ 1000000) (l : List Int) (hl : l.length ≤ 1048576) : ∀ (t : List Int) (i : Nat) (p : Int), l.drop i = t → (i = 0 ∧ p = -1 ∨ 0 < i ∧ p = rd l ((i - 1 : Nat) : Int)) →
    Ev (fun k => spec_l2Places.l0 k n l (i : Int)) (plc n p t && decide (0 < l.length))
  | [], i, p, hd, hp => by
    have h : l.length ≤ i := List.drop_eq_nil_iff.1 hd
    refine Ev.step (fun k => spec_l2Places.l0.eq_2 ..) (ev_neg (by omega) (ev_ret ?_))
    simp [plc]
  | x :: t, i, p, hd, hp => by
    obtain ⟨h1, h2, h3⟩ := last_at hd
    have ih := spec_plc_l0 n hn l hl t (i + 1) x h3 (.inr ⟨by omega, by rw [show i + 1 - 1 = i by omega]; exact h1.symm⟩)
    have ew : wrap64 (n - 1) = n - 1 := wr (by omega) (by omega)
    refine Ev.step (fun k => spec_l2Places.l0.eq_2 ..) (ev_pos (by omega) (ev_pos (by omega) (ev_pure (sin_val _ _ _) ?_)))
    rw [h1, ew, wr_succ (n := i) (by omega)]
    unfold plc
    by_cases hx : (decide (0 ≤ x) && decide (x ≤ n - 1)) = true
    · rw [hx, Bool.true_and]
      have hx0 : 0 ≤ x := by simp only [Bool.and_eq_true, decide_eq_true_eq] at hx; exact hx.1
      refine ev_pos rfl ?_
      rcases hp with ⟨rfl, rfl⟩ | ⟨hi, rfl⟩
      · have e : decide ((-1 : Int) < x) = true := decide_eq_true (by omega)
        rw [e, Bool.true_and]
        exact ev_neg (by omega) ih
      · have ei : wrap64 ((i : Int) - 1) = ((i - 1 : Nat) : Int) := by rw [wr (by omega) (by omega)]; omega
        refine ev_pos (by omega) ?_
        rw [ei]
        refine ev_pos (by omega) (ev_pos (by omega) ?_)
        generalize rd l ((i - 1 : Nat) : Int) = q
        by_cases hq : q < x
        · rw [decide_eq_true hq, Bool.true_and]
          exact ev_neg (by omega) ih
        · rw [decide_eq_false hq, Bool.false_and, Bool.false_and]
          exact ev_pos (by omega) (ev_ret rfl)
    · simp only [Bool.not_eq_true] at hx
      rw [hx, Bool.false_and, Bool.false_and]
      exact ev_neg (by decide) (ev_ret rfl)
theorem spec_plc (n : Int) (hn : 0 ≤ n ∧ n ≤ 1000000) (l : List Int) (hl : l.length ≤ 1048576) : Ev (fun k => spec_l2Places.f k n l) (plcs n l) := by
  unfold spec_l2Places.f plcs
  exact spec_plc_l0 n hn l hl l 0 (-1) rfl (.inl ⟨rfl, rfl⟩)
/-- Places that are such: ascending natural numbers below n. -/
def Asc (n : Nat) (m : List Nat) : Prop := m.Pairwise (· < ·) ∧ ∀ x ∈ m, x < n
theorem plc_nat (n : Nat) : ∀ (l : List Int) (p : Int), plc (n : Int) p l = true → ∃ m, l = I m ∧ Asc n m ∧ ∀ x ∈ m, p < (x : Int)
  | [], p, _ => ⟨[], rfl, ⟨.nil, fun x hx => by cases hx⟩, fun x hx => by cases hx⟩
  | x :: t, p, h => by
    unfold plc at h
    simp only [Bool.and_eq_true, decide_eq_true_eq] at h
    obtain ⟨⟨h0, h1⟩, h2, h3⟩ := h
    obtain ⟨m, rfl, ⟨ha, hb⟩, hc⟩ := plc_nat n t x h3
    obtain ⟨y, rfl⟩ := Int.eq_ofNat_of_zero_le h0
    refine ⟨y :: m, rfl, ⟨List.pairwise_cons.2 ⟨fun z hz => by have := hc z hz; omega, ha⟩, fun z hz => ?_⟩, fun z hz => ?_⟩
    · rcases List.mem_cons.1 hz with rfl | hz
      · omega
      · exact hb z hz
    · rcases List.mem_cons.1 hz with rfl | hz
      · exact h2
      · have := hc z hz; omega
theorem asc_ext : ∀ (a b : List Nat), a.Pairwise (· < ·) → b.Pairwise (· < ·) → (∀ x, x ∈ a ↔ x ∈ b) → a = b
  | [], [], _, _, _ => rfl
  | [], y :: b, _, _, h => absurd ((h y).2 List.mem_cons_self) (by simp)
  | x :: a, [], _, _, h => absurd ((h x).1 List.mem_cons_self) (by simp)
  | x :: a, y :: b, ha, hb, h => by
    obtain ⟨ha1, ha2⟩ := List.pairwise_cons.1 ha
    obtain ⟨hb1, hb2⟩ := List.pairwise_cons.1 hb
    have e : x = y := by
      rcases List.mem_cons.1 ((h x).1 List.mem_cons_self) with e | e
      · exact e
      · rcases List.mem_cons.1 ((h y).2 List.mem_cons_self) with e2 | e2
        · exact e2.symm
        · have := hb1 x e; have := ha1 y e2; omega
    subst e
    have e2 : a = b := asc_ext a b ha2 hb2 (fun z => ⟨fun hz => by
      rcases List.mem_cons.1 ((h z).1 (List.mem_cons_of_mem _ hz)) with e | e
      · have := ha1 z hz; omega
      · exact e, fun hz => by
      rcases List.mem_cons.1 ((h z).2 (List.mem_cons_of_mem _ hz)) with e | e
      · have := hb1 z hz; omega
      · exact e⟩)
    rw [e2]
theorem asc_range {n : Nat} {m : List Nat} (h : Asc n m) : m = (List.range n).filter (fun x => decide (x ∈ m)) :=
  asc_ext _ _ h.1 (List.Pairwise.filter _ List.pairwise_lt_range) (fun x => by
    rw [List.mem_filter, List.mem_range, decide_eq_true_eq]
    exact ⟨fun hx => ⟨h.2 x hx, hx⟩, fun hx => hx.2⟩)
theorem asc_length {n : Nat} {m : List Nat} (h : Asc n m) : m.length ≤ n := by
  rw [asc_range h]
  have := List.length_filter_le (fun x => decide (x ∈ m)) (List.range n)
  rw [List.length_range] at this
  exact this
/-- Of each run the first, of natural numbers. -/
def compN : List Nat → List Nat
  | x :: y :: l => if x = y then compN (y :: l) else x :: compN (y :: l)
  | l => l
theorem comp_I : ∀ m : List Nat, compact (I m) = I (compN m)
  | [] => rfl
  | [x] => rfl
  | x :: y :: m => by
    have ih := comp_I (y :: m)
    show compact ((x : Int) :: (y : Int) :: I m) = _
    have ih' : compact ((y : Int) :: I m) = I (compN (y :: m)) := ih
    unfold compact compN
    by_cases h : x = y
    · rw [if_pos (by rw [h]), if_pos h]; exact ih'
    · rw [if_neg (show ¬ ((x : Int) = (y : Int)) by omega), if_neg h, ih']; rfl
theorem compN_mem : ∀ (m : List Nat) (z : Nat), z ∈ compN m ↔ z ∈ m
  | [], z => Iff.rfl
  | [x], z => Iff.rfl
  | x :: y :: m, z => by
    have ih := compN_mem (y :: m) z
    unfold compN
    by_cases h : x = y
    · rw [if_pos h, ih, h]
      simp
    · rw [if_neg h, List.mem_cons, ih, List.mem_cons (a := z) (b := x)]
theorem compN_asc : ∀ m : List Nat, m.Pairwise (· ≤ ·) → (compN m).Pairwise (· < ·)
  | [], _ => .nil
  | [x], _ => List.pairwise_singleton _ _
  | x :: y :: m, h => by
    obtain ⟨h1, h2⟩ := List.pairwise_cons.1 h
    have ih := compN_asc (y :: m) h2
    unfold compN
    by_cases e : x = y
    · rw [if_pos e]; exact ih
    · rw [if_neg e]
      refine List.pairwise_cons.2 ⟨fun z hz => ?_, ih⟩
      have hz := (compN_mem (y :: m) z).1 hz
      have hxy := h1 y List.mem_cons_self
      rcases List.mem_cons.1 hz with rfl | hz
      · omega
      · have := (List.pairwise_cons.1 h2).1 z hz
        omega
/-- The places above. -/
def up1 (m : List Nat) : List Nat := compN (m.map (· / 2))
theorem up1_mem (m : List Nat) (z : Nat) : z ∈ up1 m ↔ ∃ x ∈ m, x / 2 = z := by unfold up1; rw [compN_mem, List.mem_map]
theorem up1_asc {n : Nat} {m : List Nat} (h : Asc n m) : Asc ((n + 1) / 2) (up1 m) := by
  refine ⟨compN_asc _ ?_, fun z hz => ?_⟩
  · rw [List.pairwise_map]
    exact h.1.imp (fun hxy => Nat.div_le_div_right (Nat.le_of_lt hxy))
  · obtain ⟨x, hx, rfl⟩ := (up1_mem m z).1 hz
    have := h.2 x hx
    omega
theorem half_I (x : Nat) (h : x ≤ 1000) : half (x : Int) = ((x / 2 : Nat) : Int) := by
  unfold half
  exact half_nat x h
theorem map_half : ∀ m : List Nat, (∀ x ∈ m, x ≤ 1000) → (I m).map half = I (m.map (· / 2))
  | [], _ => rfl
  | x :: m, h => by
    have ih := map_half m (fun z hz => h z (List.mem_cons_of_mem _ hz))
    have e : I (x :: m) = (x : Int) :: I m := rfl
    have e2 : I ((x :: m).map (· / 2)) = ((x / 2 : Nat) : Int) :: I (m.map (· / 2)) := rfl
    rw [e, e2, List.map_cons, ih, half_I x (h x List.mem_cons_self)]
theorem above_I (m : List Nat) (hm : ∀ x ∈ m, x ≤ 1000) (hl : m.length ≤ 1000) : impl_above.f (I m) = some (I (up1 m)) := by
  unfold impl_above.f
  rw [if_pos (show (I m).length ≤ 1000000 by rw [I_length]; omega)]
  have e := map_half m hm
  unfold up1
  rw [e, comp_I]
theorem plcs_nat {n : Nat} {a : List Int} (h : plcs (n : Int) a = true) : ∃ m, a = I m ∧ Asc n m := by
  unfold plcs at h
  rw [Bool.and_eq_true] at h
  obtain ⟨m, e, h2, _⟩ := plc_nat n a (-1) h.1
  exact ⟨m, e, h2⟩
theorem toNat_I (m : List Nat) : (I m).map Int.toNat = m := by
  unfold I
  rw [List.map_map]
  exact (List.map_congr_left (fun x _ => Int.toNat_natCast x)).trans (List.map_id m)
theorem wf64 {x : Int} (h0 : 0 ≤ x) (h1 : x ≤ 9223372036854775807) : (Lit.int .i64 x).wf = true := by
  simp only [Lit.wf, IntKind.min, IntKind.max, IntKind.signed, IntKind.bits, Bool.and_eq_true, decide_eq_true_eq, if_true]
  omega
/-- The input of a step up. -/
def stepIn (a : Nat) (q x : Int) : List Int := if a % 2 = 1 then nodeIn q x else nodeIn x q
theorem step_okd {b : Int} (hb : 2 ≤ b ∧ b ≤ 60) (a : Nat) (q x : Int) : okd b (Dig.digest b (stepIn a q x)) := by
  by_cases h : a % 2 = 1
  · have e : stepIn a q x = nodeIn q x := if_pos h
    rw [e]
    exact node_okd hb _ _
  · have e : stepIn a q x = nodeIn x q := if_neg h
    rw [e]
    exact node_okd hb _ _
/-- Places with their digests. -/
abbrev Pl := List (Nat × Int)
/-- A place that stands alone: its input, if it has one, the digest above, what is left of the path. -/
def solo (b : Int) (n x : Nat) (d : Int) (p : List Int) : Option (List (List Int) × Int × List Int) :=
  if beside x < n then
    match p with
    | [] => none
    | q :: p => if okd b q then some ([stepIn x q d], Dig.digest b (stepIn x q d), p) else none
  else some ([], d, p)
/-- One level up: the nodes' inputs, the places above, what is left of the path. -/
def lev (b : Int) (n : Nat) : Pl → List Int → Option (List (List Int) × Pl × List Int)
  | [], p => some ([], [], p)
  | [(x, d)], p => (solo b n x d p).map fun s => (s.1, [(x / 2, s.2.1)], s.2.2)
  | (x, d) :: (y, e) :: t, p =>
    if x % 2 = 0 ∧ y = x + 1 then (lev b n t p).map fun u => (nodeIn d e :: u.1, (x / 2, Dig.digest b (nodeIn d e)) :: u.2.1, u.2.2)
    else (solo b n x d p).bind fun s => (lev b n ((y, e) :: t) s.2.2).map fun u => (s.1 ++ u.1, (x / 2, s.2.1) :: u.2.1, u.2.2)
theorem lev_nil (b : Int) (n : Nat) (p : List Int) : lev b n [] p = some ([], [], p) := by rw [lev]
theorem lev_pair (b : Int) (n x : Nat) (d e : Int) (t : Pl) (p : List Int) (h : x % 2 = 0) : lev b n ((x, d) :: (x + 1, e) :: t) p = (lev b n t p).map fun u => (nodeIn d e :: u.1, (x / 2, Dig.digest b (nodeIn d e)) :: u.2.1, u.2.2) := by
  rw [lev, if_pos ⟨h, rfl⟩]
theorem lev_solo (b : Int) (n x : Nat) (d : Int) (t : Pl) (p : List Int) (h : ∀ z ∈ t.head?, ¬ (x % 2 = 0 ∧ z.1 = x + 1)) : lev b n ((x, d) :: t) p = (solo b n x d p).bind fun s => (lev b n t s.2.2).map fun u => (s.1 ++ u.1, (x / 2, s.2.1) :: u.2.1, u.2.2) := by
  match t with
  | [] =>
    rw [lev]
    cases solo b n x d p with
    | none => rfl
    | some s => simp [lev]
  | (y, e) :: t => rw [lev, if_neg (h (y, e) rfl)]
/-- The places alone. -/
def ks (L : Pl) : List Nat := L.map Prod.fst
theorem ks_append (a c : Pl) : ks (a ++ c) = ks a ++ ks c := List.map_append
theorem ks_cons (x : Nat) (d : Int) (t : Pl) : ks ((x, d) :: t) = x :: ks t := rfl
theorem ks_length (L : Pl) : (ks L).length = L.length := List.length_map _
def Srt (L : Pl) : Prop := (ks L).Pairwise (· < ·)
theorem pl_cases (L : Pl) : L = [] ∨ (∃ x d e t, L = (x, d) :: (x + 1, e) :: t ∧ x % 2 = 0) ∨ (∃ x d t, L = (x, d) :: t ∧ ∀ z ∈ t.head?, ¬ (x % 2 = 0 ∧ z.1 = x + 1)) := by
  match L with
  | [] => exact .inl rfl
  | [(x, d)] => exact .inr (.inr ⟨x, d, [], rfl, fun z hz => (by cases hz)⟩)
  | (x, d) :: (y, e) :: t =>
    by_cases h : x % 2 = 0 ∧ y = x + 1
    · obtain ⟨h1, rfl⟩ := h
      exact .inr (.inl ⟨x, d, e, t, rfl, h1⟩)
    · exact .inr (.inr ⟨x, d, (y, e) :: t, rfl, fun z hz => (by cases hz; exact h)⟩)
theorem srt_cons {x : Nat} {d : Int} {t : Pl} (h : Srt ((x, d) :: t)) : (∀ z ∈ ks t, x < z) ∧ Srt t := List.pairwise_cons.1 h
theorem srt_solo {x : Nat} {d : Int} {t : Pl} (h : Srt ((x, d) :: t)) (hh : ∀ z ∈ t.head?, ¬ (x % 2 = 0 ∧ z.1 = x + 1)) : ∀ z ∈ ks t, x / 2 < z / 2 := by
  obtain ⟨h1, h2⟩ := srt_cons h
  intro z hz
  have hx := h1 z hz
  match t, hz with
  | (y, e) :: t, hz =>
    have hy := hh (y, e) rfl
    have hxy := h1 y (by rw [ks_cons]; exact List.mem_cons_self)
    have hyz : y ≤ z := by
      rw [ks_cons] at hz
      rcases List.mem_cons.1 hz with rfl | hz
      · exact Nat.le_refl _
      · exact Nat.le_of_lt ((srt_cons h2).1 z hz)
    simp only at hy
    omega
theorem srt_pair {x : Nat} {d e : Int} {t : Pl} (h : Srt ((x, d) :: (x + 1, e) :: t)) (hx : x % 2 = 0) : (∀ z ∈ ks t, x / 2 < z / 2) ∧ Srt t := by
  obtain ⟨h1, h2⟩ := srt_cons h
  obtain ⟨h3, h4⟩ := srt_cons h2
  exact ⟨fun z hz => by have := h3 z hz; omega, h4⟩
theorem compN_cons {a : Nat} {l : List Nat} (h : ∀ z ∈ l, a < z) : compN (a :: l) = a :: compN l := by
  cases l with
  | nil => rfl
  | cons c l => rw [compN, if_neg (by have := h c List.mem_cons_self; omega)]
theorem up1_cons {x : Nat} {l : List Nat} (h : ∀ z ∈ l, x / 2 < z / 2) : up1 (x :: l) = x / 2 :: up1 l := by
  unfold up1
  rw [List.map_cons]
  exact compN_cons (fun z hz => by obtain ⟨y, hy, rfl⟩ := List.mem_map.1 hz; exact h y hy)
theorem up1_pair {x : Nat} {l : List Nat} (hx : x % 2 = 0) (h : ∀ z ∈ l, x / 2 < z / 2) : up1 (x :: (x + 1) :: l) = x / 2 :: up1 l := by
  have e := up1_cons h
  unfold up1 at e ⊢
  rw [List.map_cons, List.map_cons, show (x + 1) / 2 = x / 2 by omega, compN, if_pos rfl]
  exact e
theorem solo_facts {b : Int} (hb : 2 ≤ b ∧ b ≤ 60) {n x : Nat} {d : Int} {p : List Int} {s} (hd : okd b d) (h : solo b n x d p = some s) : okd b s.2.1 ∧ s.1.length ≤ 1 ∧ ∃ used, p = used ++ s.2.2 ∧ ∀ q ∈ used, okd b q := by
  unfold solo at h
  split at h
  · match p, h with
    | q :: p, h =>
      simp only at h
      split at h
      · rename_i hq
        cases h
        exact ⟨step_okd hb x q d, Nat.le_refl _, [q], rfl, fun z hz => by rw [List.mem_singleton] at hz; subst hz; exact hq⟩
      · cases h
  · cases h
    exact ⟨hd, Nat.zero_le _, [], rfl, fun z hz => (by cases hz)⟩
theorem lev_facts {b : Int} (hb : 2 ≤ b ∧ b ≤ 60) (n N : Nat) : ∀ (L : Pl) (p : List Int) (u), L.length ≤ N → Srt L → (∀ z ∈ L, okd b z.2) → lev b n L p = some u →
    ks u.2.1 = up1 (ks L) ∧ (∀ z ∈ u.2.1, okd b z.2) ∧ u.1.length ≤ L.length ∧ ∃ used, p = used ++ u.2.2 ∧ ∀ q ∈ used, okd b q := by
  induction N with
  | zero =>
    intro L p u hN _ _ h
    have : L = [] := List.length_eq_zero_iff.1 (by omega)
    subst this
    rw [lev_nil] at h
    cases h
    exact ⟨rfl, fun z hz => (by cases hz), Nat.le_refl _, [], rfl, fun z hz => (by cases hz)⟩
  | succ N ih =>
    intro L p u hN hs hv h
    rcases pl_cases L with rfl | ⟨x, d, e, t, rfl, hx⟩ | ⟨x, d, t, rfl, hh⟩
    · rw [lev_nil] at h
      cases h
      exact ⟨rfl, fun z hz => (by cases hz), Nat.le_refl _, [], rfl, fun z hz => (by cases hz)⟩
    · rw [lev_pair b n x d e t p hx] at h
      obtain ⟨u', h', rfl⟩ := Option.map_eq_some_iff.1 h
      obtain ⟨g1, g2⟩ := srt_pair hs hx
      simp only [List.length_cons] at hN
      obtain ⟨i1, i2, i3, used, i4, i5⟩ := ih t p u' (by omega) g2 (fun z hz => hv z (List.mem_cons_of_mem _ (List.mem_cons_of_mem _ hz))) h'
      refine ⟨?_, ?_, ?_, used, i4, i5⟩
      · rw [ks_cons, ks_cons, ks_cons, up1_pair hx g1, i1]
      · intro z hz
        rcases List.mem_cons.1 hz with rfl | hz
        · exact node_okd hb d e
        · exact i2 z hz
      · simp only [List.length_cons]; omega
    · rw [lev_solo b n x d t p hh] at h
      obtain ⟨s, hs', h⟩ := Option.bind_eq_some_iff.1 h
      obtain ⟨u', h', rfl⟩ := Option.map_eq_some_iff.1 h
      have g1 := srt_solo hs hh
      obtain ⟨f1, f2, us, f3, f4⟩ := solo_facts hb (hv (x, d) List.mem_cons_self) hs'
      simp only [List.length_cons] at hN
      obtain ⟨i1, i2, i3, used, i4, i5⟩ := ih t s.2.2 u' (by omega) (srt_cons hs).2 (fun z hz => hv z (List.mem_cons_of_mem _ hz)) h'
      refine ⟨?_, ?_, ?_, us ++ used, by rw [f3, List.append_assoc, ← i4], ?_⟩
      · rw [ks_cons, ks_cons, up1_cons g1, i1]
      · intro z hz
        rcases List.mem_cons.1 hz with rfl | hz
        · exact f1
        · exact i2 z hz
      · simp only [List.length_append, List.length_cons]; omega
      · intro q hq
        rcases List.mem_append.1 hq with hq | hq
        · exact f4 q hq
        · exact i5 q hq
/-- The digest of the first place. -/
def top0 (L : Pl) : Int := (L.map Prod.snd).headD 0
/-- All levels up. -/
def mups (b : Int) : Nat → Nat → Pl → List Int → Option (List (List Int) × List Int × Int)
  | 0, _, L, p => some ([], p, top0 L)
  | k + 1, n, L, p => if 1 < n then (lev b n L p).bind fun u => (mups b k ((n + 1) / 2) u.2.1 u.2.2).map fun v => (u.1 ++ v.1, v.2) else some ([], p, top0 L)
/-- The leaves' digests at their places. -/
def leafL (b : Int) (m : List Nat) (l : List (List Int)) : Pl := (m.zip l).map fun z => (z.1, Dig.digest b (0 :: z.2))
theorem leafL_ks (b : Int) (m : List Nat) (l : List (List Int)) (h : l.length = m.length) : ks (leafL b m l) = m := by
  unfold ks leafL
  rw [List.map_map]
  exact List.map_fst_zip (by omega)
theorem leafL_okd {b : Int} (hb : 2 ≤ b ∧ b ≤ 60) (m : List Nat) (l : List (List Int)) (h : ∀ x ∈ l, x.length < 4000) : ∀ z ∈ leafL b m l, okd b z.2 := by
  intro z hz
  obtain ⟨y, hy, rfl⟩ := List.mem_map.1 hz
  have := h y.2 (List.of_mem_zip hy).2
  exact ⟨hb, Dig.digest_range hb.1 hb.2 (by simp only [List.length_cons]; omega)⟩
/-- All that a way up of several leaves must hold to, but for the path. -/
def manyOk (b many : Int) (at_ : List Int) (l : List (List Int)) : Prop := ((2 ≤ b ∧ b ≤ 60) ∧ 1 ≤ many ∧ many ≤ 16) ∧ plcs many at_ = true ∧ l.length = at_.length ∧ ∀ x ∈ l, x.length < 4000
instance (b many : Int) (at_ : List Int) (l : List (List Int)) : Decidable (manyOk b many at_ l) := by unfold manyOk; infer_instance
def mway (b many : Int) (at_ : List Int) (l : List (List Int)) (p : List Int) : Option (List (List Int) × List Int × Int) := mups b 16 many.toNat (leafL b (at_.map Int.toNat) l) p
/-- The inputs of a way up of several leaves, the top's the last. -/
def climbedM (b many : Int) (at_ : List Int) (l : List (List Int)) (p : List Int) : List (List Int) × Bool :=
  if manyOk b many at_ l ∧ ∀ q ∈ p, okd b q then
    match mway b many at_ l p with
    | none => ([], false)
    | some (i, r, y) => (l.map (fun x => 0 :: x) ++ (i ++ [topIn many.toNat y]), decide (r = []))
  else ([], false)
/-- ManyFrom's answer. -/
def manyFrom (b many : Int) (at_ : List Int) (l : List (List Int)) (p : List Int) : Int :=
  if manyOk b many at_ l then
    match mway b many at_ l p with
    | none => -1
    | some (_, r, y) => if r = [] then Dig.digest b (topIn many.toNat y) else -1
  else -1
theorem asc_of {n : Nat} {L : Pl} (hs : Srt L) (hn : ∀ x ∈ ks L, x < n) : Asc n (ks L) := ⟨hs, hn⟩
/-- A level's places are such of the next. -/
theorem lev_next {b : Int} (hb : 2 ≤ b ∧ b ≤ 60) {n : Nat} {L : Pl} {p : List Int} {u} (hs : Srt L) (hn : ∀ x ∈ ks L, x < n) (hv : ∀ z ∈ L, okd b z.2) (h : lev b n L p = some u) :
    ks u.2.1 = up1 (ks L) ∧ Srt u.2.1 ∧ (∀ x ∈ ks u.2.1, x < (n + 1) / 2) ∧ (∀ z ∈ u.2.1, okd b z.2) ∧ u.1.length ≤ n ∧ ∃ used, p = used ++ u.2.2 ∧ ∀ q ∈ used, okd b q := by
  obtain ⟨h1, h2, h3, h4⟩ := lev_facts hb n L.length L p u (Nat.le_refl _) hs hv h
  have h5 := up1_asc (asc_of hs hn)
  have h6 := asc_length (asc_of hs hn)
  rw [ks_length] at h6
  refine ⟨h1, ?_, ?_, h2, by omega, h4⟩
  · unfold Srt; rw [h1]; exact h5.1
  · rw [h1]; exact h5.2
theorem mups_used {b : Int} (hb : 2 ≤ b ∧ b ≤ 60) (k : Nat) : ∀ (n : Nat) (L : Pl) (p : List Int) (v), Srt L → (∀ x ∈ ks L, x < n) → (∀ z ∈ L, okd b z.2) → mups b k n L p = some v → n ≤ 16 → v.1.length ≤ 16 * k ∧ ∃ used, p = used ++ v.2.1 ∧ ∀ q ∈ used, okd b q := by
  induction k with
  | zero => intro n L p v _ _ _ h _; unfold mups at h; cases h; exact ⟨Nat.le_refl _, [], rfl, fun z hz => (by cases hz)⟩
  | succ k ih =>
    intro n L p v hs hn hv h h16
    unfold mups at h
    split at h
    · obtain ⟨u, hu, h⟩ := Option.bind_eq_some_iff.1 h
      obtain ⟨w, hw, rfl⟩ := Option.map_eq_some_iff.1 h
      obtain ⟨_, g2, g3, g4, g5, us, g6, g7⟩ := lev_next hb hs hn hv hu
      obtain ⟨i1, used, i2, i3⟩ := ih _ _ _ _ g2 g3 g4 hw (by omega)
      refine ⟨by simp only [List.length_append]; omega, us ++ used, by rw [g6, List.append_assoc, ← i2], fun q hq => ?_⟩
      rcases List.mem_append.1 hq with hq | hq
      · exact g7 q hq
      · exact i3 q hq
    · cases h
      exact ⟨Nat.zero_le _, [], rfl, fun z hz => (by cases hz)⟩
theorem one_L {L : Pl} (hs : Srt L) (hn : ∀ x ∈ ks L, x < 1) (h0 : L ≠ []) : ∃ y, L = [(0, y)] := by
  match L, h0 with
  | [(x, y)], _ =>
    have := hn x (by rw [ks_cons]; exact List.mem_cons_self)
    obtain rfl : x = 0 := by omega
    exact ⟨y, rfl⟩
  | (x, y) :: (z, v) :: t, _ =>
    have h1 := hn z (by rw [ks_cons, ks_cons]; simp)
    have h2 := (srt_cons hs).1 z (by rw [ks_cons]; exact List.mem_cons_self)
    omega
theorem lev_some {b : Int} {n : Nat} {L : Pl} {u : List (List Int) × Pl × List Int} (h0 : L ≠ []) (hk : ks u.2.1 = up1 (ks L)) : u.2.1 ≠ [] := by
  intro e
  rw [e] at hk
  match L, h0 with
  | (x, d) :: t, _ =>
    have := (up1_mem (ks ((x, d) :: t)) (x / 2)).2 ⟨x, by rw [ks_cons]; exact List.mem_cons_self, rfl⟩
    rw [← hk] at this
    cases this
theorem mups_le (b : Int) (k n : Nat) (L : Pl) (p : List Int) (h : n ≤ 1) : mups b (k + 1) n L p = some ([], p, top0 L) := by
  rw [mups, if_neg (by omega)]
theorem mups_step (b : Int) (k n : Nat) (L : Pl) (p : List Int) (h : 1 < n) : mups b (k + 1) n L p = (lev b n L p).bind fun u => (mups b k ((n + 1) / 2) u.2.1 u.2.2).map fun v => (u.1 ++ v.1, v.2) := by
  rw [mups, if_pos h]
theorem leafL_app (b : Int) (m1 m2 : List Nat) (l1 l2 : List (List Int)) (h : m1.length = l1.length) : leafL b (m1 ++ m2) (l1 ++ l2) = leafL b m1 l1 ++ leafL b m2 l2 := by
  unfold leafL
  rw [List.zip_append h, List.map_append]
theorem leafL_length (b : Int) (m : List Nat) (l : List (List Int)) (h : l.length = m.length) : (leafL b m l).length = m.length := by rw [← ks_length, leafL_ks b m l h]
theorem rdB_at {l1 l2 : List (List Int)} {x : List Int} : rd_L2 (l1 ++ x :: l2) (l1.length : Int) = x := by
  unfold rd_L2
  rw [Int.toNat_natCast, List.getD_eq_getElem?_getD, List.getElem?_append_right (Nat.le_refl _), Nat.sub_self]
  rfl
theorem rd_at {m1 m2 : List Nat} {x : Nat} : rd (I (m1 ++ x :: m2)) (m1.length : Int) = (x : Int) := by
  rw [rd_I, List.getD_eq_getElem?_getD, List.getElem?_append_right (Nat.le_refl _), Nat.sub_self]
  rfl
theorem plcs_pos {n : Int} {l : List Int} (h : plcs n l = true) : 0 < l.length := by
  unfold plcs at h
  simp only [Bool.and_eq_true, decide_eq_true_eq] at h
  exact h.2
theorem bad_left {b : Int} (hb : 2 ≤ b ∧ b ≤ 60) {many : Int} {at_ : List Int} {l : List (List Int)} {p : List Int} (h : manyOk b many at_ l) {i : List (List Int)} {r : List Int} {y : Int} (hw : mway b many at_ l p = some (i, r, y)) : i.length ≤ 256 ∧ ((¬ ∀ q ∈ p, okd b q) → r ≠ []) := by
  obtain ⟨h1, h2, h3, h4⟩ := h
  obtain ⟨n, rfl⟩ := Int.eq_ofNat_of_zero_le (by omega : 0 ≤ many)
  obtain ⟨m, rfl, hm⟩ := plcs_nat h2
  unfold mway at hw
  rw [toNat_I, Int.toNat_natCast] at hw
  rw [I_length] at h3
  have hks := leafL_ks b m l h3
  obtain ⟨g1, used, g2, g3⟩ := mups_used hb 16 n (leafL b m l) p _ (by unfold Srt; rw [hks]; exact hm.1) (by rw [hks]; exact hm.2) (leafL_okd hb m l h4) hw (by omega)
  refine ⟨by simp only at g1; omega, fun hbad e => hbad ?_⟩
  simp only at g2
  rw [e, List.append_nil] at g2
  rw [g2]
  exact g3
theorem impl_leafinM {l : List Int} (hl : l.length < 4000) : impl_leafInput.f l = some (0 :: l) := by
  unfold impl_leafInput.f
  rw [Option.bind_some, if_pos (by simp only [List.length_singleton]; omega)]
  rfl
theorem rdB_last (l : List (List Int)) (x : List Int) (hl : l.length ≤ 10000) : rd_L2 (l ++ [x]) (wrap64 (((l ++ [x]).length : Int) - 1)) = x := by
  have e : wrap64 (((l ++ [x]).length : Int) - 1) = (l.length : Int) := by
    rw [List.length_append, List.length_singleton, wr (by omega) (by omega)]
    omega
  rw [e]
  unfold rd_L2
  rw [Int.toNat_natCast, List.getD_eq_getElem?_getD, List.getElem?_append_right (Nat.le_refl _), Nat.sub_self]
  rfl
theorem lastB_le (l : List (List Int)) (x : List Int) (hl : l.length ≤ 10000) : 0 ≤ wrap64 (((l ++ [x]).length : Int) - 1) ∧ wrap64 (((l ++ [x]).length : Int) - 1) < ((l ++ [x]).length : Int) := by
  rw [List.length_append, List.length_singleton, wr (by omega) (by omega)]
  omega
theorem nilB_len (p : List Int) : ((p.length : Int) == 0) = decide (p = []) := by
  cases p with
  | nil => rfl
  | cons x p =>
    rw [decide_eq_false (by simp)]
    simp only [List.length_cons, beq_eq_false_iff_ne]
    omega
/-- The map that holds places with their digests. -/
def mp (L : Pl) : Mp := (L.map fun z => ((z.1 : Int), z.2)).reverse
theorem mp_app (a c : Pl) : mp (a ++ c) = mp c ++ mp a := by simp [mp]
theorem mp_cons (x : Nat) (d : Int) (t : Pl) : mp ((x, d) :: t) = mp t ++ [((x : Int), d)] := by simp [mp]
theorem mp_length (L : Pl) : (mp L).length = L.length := by simp [mp]
theorem mget_app (k : Int) : ∀ A B : Mp, mget (A ++ B) k = if mhas A k = true then mget A k else mget B k
  | [], B => by simp [mhas]
  | (a, v) :: A, B => by
    rw [List.cons_append, mget, mhas, mget]
    by_cases h : a = k
    · simp [h]
    · rw [if_neg h, if_neg h, if_neg h]; exact mget_app k A B
theorem mhas_app (k : Int) : ∀ A B : Mp, mhas (A ++ B) k = (mhas A k || mhas B k)
  | [], B => by simp [mhas]
  | (a, v) :: A, B => by
    rw [List.cons_append, mhas, mhas]
    by_cases h : a = k
    · simp [h]
    · rw [if_neg h, if_neg h]; exact mhas_app k A B
theorem mhas_mp (x : Nat) : ∀ L : Pl, mhas (mp L) (x : Int) = decide (x ∈ ks L)
  | [] => rfl
  | (y, d) :: t => by
    rw [mp_cons, mhas_app, mhas_mp x t, ks_cons]
    by_cases h : x = y
    · subst h; simp [mhas]
    · have h2 : ¬ (y : Int) = (x : Int) := by omega
      simp [mhas, h, h2]
theorem mget_mp {L pre t : Pl} {x : Nat} {d : Int} (hs : Srt L) (hL : L = pre ++ (x, d) :: t) : mget (mp L) (x : Int) = d := by
  subst hL
  have h1 : x ∉ ks t := by
    unfold Srt at hs
    rw [ks_append, ks_cons, List.pairwise_append] at hs
    intro hx
    have := (List.pairwise_cons.1 hs.2.1).1 x hx
    omega
  rw [mp_app, mget_app, mhas_mp, ks_cons, if_pos (by simp), mp_cons, mget_app, mhas_mp, if_neg (by simpa using h1)]
  simp [mget]
theorem look_at {m : Mp} {k : Int} (h0 : 0 ≤ k) (h1 : k ≤ 1000) : fake_mp_look.f m k = some (mget m k, mhas m k) := by unfold fake_mp_look.f; rw [if_pos (wf64 h0 (by omega))]
theorem get_at {m : Mp} {k : Int} (h0 : 0 ≤ k) (h1 : k ≤ 1000) : fake_mp_get.f m k = some (mget m k) := by unfold fake_mp_get.f; rw [if_pos (wf64 h0 (by omega))]
theorem put_at {m : Mp} {k v : Int} (h0 : 0 ≤ k) (h1 : k ≤ 1000) (h2 : 0 ≤ v ∧ v ≤ 9223372036854775807) (h3 : m.length ≤ 1000) : fake_mp_put.f m k v = some ((k, v) :: m) := by unfold fake_mp_put.f; rw [if_pos ⟨wf64 h0 (by omega), wf64 h2.1 h2.2, h3⟩]
theorem ks_at {pre t : Pl} {x : Nat} {d : Int} : rd (I (ks (pre ++ (x, d) :: t))) (pre.length : Int) = (x : Int) := by
  rw [rd_I, ks_append, ks_cons, ← ks_length pre, List.getD_eq_getElem?_getD, List.getElem?_append_right (Nat.le_refl _), Nat.sub_self]
  rfl
/-- What follows a level. -/
def after (b : Int) (many : Int) (n : Nat) (up : List Nat) (out : List (List Int)) (X : Mp) (R : List (List Int) × Bool) : Option (List (List Int) × Pl × List Int) → Prop
  | none => R = ([], false)
  | some u => Ev (fun k => impl_climbMany.l1 k b many (I up) u.2.2 (out ++ u.1) (mp u.2.1 ++ X) (((n + 1) / 2 : Nat) : Int)) R
theorem impl_lev {b : Int} (hb : 2 ≤ b ∧ b ≤ 60) (many : Int) (n : Nat) (h1 : 1 < n) (h16 : n ≤ 16) (L : Pl) (hs : Srt L) (hn : ∀ x ∈ ks L, x < n) (hv : ∀ z ∈ L, okd b z.2) (R : List (List Int) × Bool) (N : Nat) : ∀ (pre suf : Pl) (p : List Int) (out : List (List Int)) (X : Mp), suf.length ≤ N → L = pre ++ suf →
    (∀ a ∈ ks pre, ∀ c ∈ ks suf, a / 2 < c / 2) → (∀ q ∈ p, okd b q) → out.length + suf.length ≤ 1000 → X.length + suf.length ≤ 1000 → after b many n (up1 (ks L)) out X R (lev b n suf p) →
    Ev (fun k => impl_climbMany.l2 k b many (I (ks L)) p out (mp L) (n : Int) X (I (ks L)) ((I (ks L)).length : Int) (pre.length : Int)) R := by
  have hlen := asc_length (asc_of hs hn)
  have hIl := I_length (ks L)
  have hkl := ks_length L
  have e1 : Unit → wrap64 ((n : Int) + 1) = ((n + 1 : Nat) : Int) := fun _ => wr_succ (by omega)
  have e2 : Unit → wrap64 (Int.tdiv ((n + 1 : Nat) : Int) 2) = (((n + 1) / 2 : Nat) : Int) := fun _ => half_nat (n + 1) (by omega)
  induction N with
  | zero =>
    intro pre suf p out X hN hL _ _ _ _ hf
    have : suf = [] := List.length_eq_zero_iff.1 (by omega)
    subst this
    rw [lev_nil] at hf
    have hp : pre.length = L.length := by rw [hL, List.append_nil]
    refine Ev.step (fun k => impl_climbMany.l2.eq_2 ..) (ev_neg (by omega) (ev_pure (above_I _ (fun x hx => by have := hn x hx; omega) (by omega)) ?_))
    rw [(e1 ()), (e2 ())]
    have hf : Ev (fun k => impl_climbMany.l1 k b many (I (up1 (ks L))) p (out ++ []) (mp [] ++ X) (((n + 1) / 2 : Nat) : Int)) R := hf
    rw [List.append_nil] at hf
    exact hf
  | succ N ih =>
    intro pre suf p out X hN hL hsep hp ho hX hf
    rcases pl_cases suf with rfl | ⟨x, d, e, t, rfl, hx⟩ | ⟨x, d, t, rfl, hh⟩
    · exact ih pre [] p out X (Nat.zero_le _) hL hsep hp ho hX hf
    · have hlt : pre.length + 2 ≤ L.length := by rw [hL]; simp only [List.length_append, List.length_cons]; omega
      simp only [List.length_cons] at hN ho hX
      have hsd : Srt ((x, d) :: (x + 1, e) :: t) := by
        have := hs; unfold Srt at this ⊢; rw [hL, ks_append, List.pairwise_append] at this; exact this.2.1
      obtain ⟨g1, g2⟩ := srt_pair hsd hx
      have hx1 : x + 1 < n := hn _ (by rw [hL, ks_append, ks_cons, ks_cons]; simp)
      have hL2 : L = (pre ++ [(x, d)]) ++ (x + 1, e) :: t := by rw [hL]; simp
      have hgx : Unit → mget (mp L) (x : Int) = d := fun _ => mget_mp hs hL
      have hgy : Unit → mget (mp L) ((x + 1 : Nat) : Int) = e := fun _ => mget_mp hs hL2
      have hmx : mhas (mp L) (x : Int) = true := by rw [mhas_mp, hL, ks_append, ks_cons]; simp
      have hmy : mhas (mp L) ((x + 1 : Nat) : Int) = true := by rw [mhas_mp, hL, ks_append, ks_cons, ks_cons]; simp
      have hrx : Unit → rd (I (ks L)) (pre.length : Int) = (x : Int) := fun _ => by rw [hL]; exact ks_at
      have hry : Unit → rd (I (ks L)) ((pre.length + 1 : Nat) : Int) = ((x + 1 : Nat) : Int) := by
        intro _
        have := ks_at (pre := pre ++ [(x, d)]) (x := x + 1) (d := e) (t := t)
        rw [List.length_append, List.length_singleton] at this
        rw [hL2]; exact this
      have hbx : Unit → Go.bits .xor .i64 (x : Int) 1 = ((x + 1 : Nat) : Int) := by
        intro _
        have := xor_one ⟨x, by omega⟩
        have e : beside x = x + 1 := if_pos hx
        rw [e] at this; exact this
      have hby : Unit → Go.bits .xor .i64 ((x + 1 : Nat) : Int) 1 = (x : Int) := by
        intro _
        have := xor_one ⟨x + 1, by omega⟩
        have e : beside (x + 1) = x := if_neg (by omega)
        rw [e] at this; exact this
      have hd : okd b d := hv (x, d) (by rw [hL]; simp)
      have he : okd b e := hv (x + 1, e) (by rw [hL]; simp)
      have hdig := node_okd hb d e
      have hhalf : Unit → wrap64 (Int.tdiv (x : Int) 2) = ((x / 2 : Nat) : Int) := fun _ => half_nat x (by omega)
      have hnext : after b many n (up1 (ks L)) (out ++ [nodeIn d e]) ((((x / 2 : Nat) : Int), Dig.digest b (nodeIn d e)) :: X) R (lev b n t p) := by
        rw [lev_pair b n x d e t p hx] at hf
        generalize lev b n t p = o at hf
        cases o with
        | none => exact hf
        | some u =>
          simp only [Option.map_some, after] at hf ⊢
          rw [mp_cons, List.append_assoc] at hf
          rw [List.append_assoc]
          exact hf
      have h3 := ih (pre ++ [(x, d), (x + 1, e)]) t p (out ++ [nodeIn d e]) ((((x / 2 : Nat) : Int), Dig.digest b (nodeIn d e)) :: X) (by omega) (by rw [hL]; simp) (by
        intro a ha c hc
        rw [ks_append, List.mem_append] at ha
        rcases ha with ha | ha
        · exact hsep a ha c (by rw [ks_cons, ks_cons]; exact List.mem_cons_of_mem _ (List.mem_cons_of_mem _ hc))
        · have := g1 c hc
          simp only [ks, List.map_cons, List.map_nil, List.mem_cons, List.not_mem_nil, or_false] at ha
          rcases ha with rfl | rfl <;> omega) hp (by simp only [List.length_append, List.length_singleton]; omega) (by simp only [List.length_cons]; omega) hnext
      rw [List.length_append] at h3
      have h4 : Ev (fun k => impl_climbMany.l2 k b many (I (ks L)) p (out ++ [nodeIn d e]) (mp L) (n : Int) ((((x / 2 : Nat) : Int), Dig.digest b (nodeIn d e)) :: X) (I (ks L)) ((I (ks L)).length : Int) ((pre.length + 1 : Nat) : Int)) R := by
        refine Ev.step (fun k => impl_climbMany.l2.eq_2 ..) (ev_pos (by omega) (ev_pos (by omega) (ev_pos (by omega) ?_)))
        rw [(hry ()), (hby ()), odd_nat]
        refine ev_pure (look_at (by omega) (by omega)) (ev_neg (by omega) (ev_pos hmx (Ev.step (fun k => impl_climbMany.j4.eq_2 ..) (ev_pos (beq_iff_eq.2 (by omega)) ?_))))
        rw [wr_succ (by omega)]
        exact h3
      refine Ev.step (fun k => impl_climbMany.l2.eq_2 ..) (ev_pos (by omega) (ev_pos (by omega) (ev_pos (by omega) ?_)))
      rw [(hrx ()), (hbx ()), odd_nat]
      refine ev_pure (look_at (by omega) (by omega)) (ev_neg (by omega) (ev_pos hmy (Ev.step (fun k => impl_climbMany.j4.eq_2 ..) (ev_neg (by simp only [beq_iff_eq]; omega) (ev_pos hmy (Ev.step (fun k => impl_climbMany.j5.eq_2 ..) (ev_neg (by decide) (ev_pos hmy (Ev.step (fun k => impl_climbMany.j6.eq_2 ..) (ev_pure (get_at (by omega) (by omega)) ?_))))))))))
      simp only [(hgx ()), (hgy ())]
      rw [odd_nat, (hhalf ())]
      refine ev_neg (by omega) (ev_bind (impl_nodein (okd_le hd).2 (okd_le he).2) (ev_pos (by omega) (ev_some (ev_pos (lastB_le _ _ (by omega)).1 (ev_pos (lastB_le _ _ (by omega)).2 (ev_pure (impl_digest b _) ?_))))))
      rw [rdB_last _ _ (by omega)]
      refine ev_pure (put_at (by omega) (by omega) (okd_le hdig) (by omega)) ?_
      rw [wr_succ (by omega)]
      exact h4
    · have hlt : pre.length + 1 ≤ L.length := by rw [hL]; simp only [List.length_append, List.length_cons]; omega
      simp only [List.length_cons] at hN ho hX
      have hsd : Srt ((x, d) :: t) := by
        have := hs; unfold Srt at this ⊢; rw [hL, ks_append, List.pairwise_append] at this; exact this.2.1
      have g1 := srt_solo hsd hh
      have hxn : x < n := hn _ (by rw [hL, ks_append, ks_cons]; simp)
      have hgx : Unit → mget (mp L) (x : Int) = d := fun _ => mget_mp hs hL
      have hrx : Unit → rd (I (ks L)) (pre.length : Int) = (x : Int) := fun _ => by rw [hL]; exact ks_at
      have hbx : Unit → Go.bits .xor .i64 (x : Int) 1 = ((beside x : Nat) : Int) := fun _ => xor_one ⟨x, by omega⟩
      have hno : beside x ∉ ks L := by
        rw [hL, ks_append, ks_cons, List.mem_append, List.mem_cons]
        intro h
        rcases h with h | h | h
        · have := hsep _ h x (by rw [ks_cons]; exact List.mem_cons_self)
          unfold beside at this; split at this <;> omega
        · unfold beside at h; split at h <;> omega
        · have := g1 _ h
          unfold beside at this; split at this <;> omega
      have hmb : mhas (mp L) ((beside x : Nat) : Int) = false := by rw [mhas_mp]; exact decide_eq_false hno
      have hd : okd b d := hv (x, d) (by rw [hL]; simp)
      have hb16 : beside x ≤ 16 := by unfold beside; split <;> omega
      have hhalf : Unit → wrap64 (Int.tdiv (x : Int) 2) = ((x / 2 : Nat) : Int) := fun _ => half_nat x (by omega)
      rw [lev_solo b n x d t p hh] at hf
      have hstep : ∀ (i : List (List Int)) (v : Int) (p' : List Int), (∀ q ∈ p', okd b q) → i.length ≤ 1 → solo b n x d p = some (i, v, p') → Ev (fun k => impl_climbMany.l2 k b many (I (ks L)) p' (out ++ i) (mp L) (n : Int) ((((x / 2 : Nat) : Int), v) :: X) (I (ks L)) ((I (ks L)).length : Int) ((pre.length + 1 : Nat) : Int)) R := by
        intro i v p' hp' hi hso
        have h3 := ih (pre ++ [(x, d)]) t p' (out ++ i) ((((x / 2 : Nat) : Int), v) :: X) (by omega) (by rw [hL]; simp) (by
          intro a ha c hc
          rw [ks_append, List.mem_append] at ha
          rcases ha with ha | ha
          · exact hsep a ha c (by rw [ks_cons]; exact List.mem_cons_of_mem _ hc)
          · have := g1 c hc
            simp only [ks, List.map_cons, List.map_nil, List.mem_cons, List.not_mem_nil, or_false] at ha
            rw [ha]; exact this) hp' (by simp only [List.length_append]; omega) (by simp only [List.length_cons]; omega) (by
          rw [hso, Option.bind_some] at hf
          generalize lev b n t p' = o at hf
          cases o with
          | none => exact hf
          | some u =>
            simp only [Option.map_some, after] at hf ⊢
            rw [mp_cons, List.append_assoc] at hf
            rw [List.append_assoc]
            exact hf)
        rw [List.length_append, List.length_singleton] at h3
        exact h3
      refine Ev.step (fun k => impl_climbMany.l2.eq_2 ..) (ev_pos (by omega) (ev_pos (by omega) (ev_pos (by omega) ?_)))
      rw [(hrx ()), (hbx ())]
      refine ev_pure (look_at (by omega) (by omega)) ?_
      by_cases hbn : beside x < n
      · refine ev_neg (by omega) (ev_neg (by rw [hmb]; exact Bool.false_ne_true) (Ev.step (fun k => impl_climbMany.j4.eq_2 ..) (ev_neg (by decide) (ev_neg (by rw [hmb]; exact Bool.false_ne_true) (Ev.step (fun k => impl_climbMany.j5.eq_2 ..) ?_)))))
        cases p with
        | nil =>
          have e0 : solo b n x d [] = none := by unfold solo; rw [if_pos hbn]
          rw [e0] at hf
          exact ev_pos rfl (ev_ret (Eq.symm hf))
        | cons q p =>
          have hq : okd b q := hp q List.mem_cons_self
          have e0 : solo b n x d (q :: p) = some ([stepIn x q d], Dig.digest b (stepIn x q d), p) := by unfold solo; rw [if_pos hbn]; simp only [if_pos hq]
          have h4 := hstep _ _ _ (fun r hr => hp r (List.mem_cons_of_mem _ hr)) (Nat.le_refl _) e0
          have hdig := step_okd hb x q d
          refine ev_neg (by rw [nilB_len]; simp) (ev_neg (by rw [hmb]; exact Bool.false_ne_true) (ev_pos (by simp only [List.length_cons]; omega) (ev_pos (by simp only [List.length_cons]; omega) (Ev.step (fun k => impl_climbMany.j6.eq_2 ..) (ev_pure (get_at (by omega) (by omega)) ?_)))))
          have eq0 : rd (q :: p) 0 = q := rfl
          have ed0 : (q :: p).drop 1 = p := rfl
          simp only [(hgx ())]
          rw [eq0, ed0, odd_nat, (hhalf ())]
          by_cases h3 : x % 2 = 1
          · have es : stepIn x q d = nodeIn q d := if_pos h3
            rw [es] at h4 hdig
            refine ev_pos (by omega) (ev_bind (impl_nodein (okd_le hq).2 (okd_le hd).2) (ev_pos (by omega) (ev_some (ev_pos (lastB_le _ _ (by omega)).1 (ev_pos (lastB_le _ _ (by omega)).2 (ev_pure (impl_digest b _) ?_))))))
            rw [rdB_last _ _ (by omega)]
            refine ev_pure (put_at (by omega) (by omega) (okd_le hdig) (by omega)) ?_
            rw [wr_succ (by omega)]
            exact h4
          · have es : stepIn x q d = nodeIn d q := if_neg h3
            rw [es] at h4 hdig
            refine ev_neg (by omega) (ev_bind (impl_nodein (okd_le hd).2 (okd_le hq).2) (ev_pos (by omega) (ev_some (ev_pos (lastB_le _ _ (by omega)).1 (ev_pos (lastB_le _ _ (by omega)).2 (ev_pure (impl_digest b _) ?_))))))
            rw [rdB_last _ _ (by omega)]
            refine ev_pure (put_at (by omega) (by omega) (okd_le hdig) (by omega)) ?_
            rw [wr_succ (by omega)]
            exact h4
      · have e0 : solo b n x d p = some ([], d, p) := by unfold solo; rw [if_neg hbn]
        have h4 := hstep _ _ _ hp (Nat.zero_le _) e0
        rw [List.append_nil] at h4
        refine ev_pos (by omega) (ev_pure (get_at (by omega) (by omega)) ?_)
        rw [(hgx ()), (hhalf ())]
        refine ev_pure (put_at (by omega) (by omega) (okd_le hd) (by omega)) ?_
        rw [wr_succ (by omega)]
        exact h4
/-- What climbMany answers behind its leaves. -/
def endM (many : Nat) (out : List (List Int)) : Option (List (List Int) × List Int × Int) → List (List Int) × Bool
  | none => ([], false)
  | some (i, r, y) => (out ++ (i ++ [topIn many y]), decide (r = []))
theorem endM_some (many : Nat) (out i : List (List Int)) (r : List Int) (y : Int) : endM many out (some (i, r, y)) = (out ++ (i ++ [topIn many y]), decide (r = [])) := rfl
theorem endM_map (many : Nat) (out i : List (List Int)) (o : Option (List (List Int) × List Int × Int)) : endM many out (o.map fun v => (i ++ v.1, v.2)) = endM many (out ++ i) o := by
  cases o with
  | none => rfl
  | some v => obtain ⟨a, r, y⟩ := v; simp [endM]
theorem impl_l1 {b : Int} (hb : 2 ≤ b ∧ b ≤ 60) (many : Nat) (hm : many ≤ 16) (K : Nat) : ∀ (n : Nat) (L : Pl) (p : List Int) (out : List (List Int)), n ≤ K + 1 → 1 ≤ n → n ≤ 16 → Srt L → (∀ x ∈ ks L, x < n) → (∀ z ∈ L, okd b z.2) → L ≠ [] → (∀ q ∈ p, okd b q) → out.length + 16 * K ≤ 500 →
    Ev (fun k => impl_climbMany.l1 k b (many : Int) (I (ks L)) p out (mp L) (n : Int)) (endM many out (mups b (K + 1) n L p)) := by
  have hend : ∀ (L : Pl) (p : List Int) (out : List (List Int)), Srt L → (∀ x ∈ ks L, x < 1) → (∀ z ∈ L, okd b z.2) → L ≠ [] → out.length ≤ 500 → Ev (fun k => impl_climbMany.l1 k b (many : Int) (I (ks L)) p out (mp L) ((1 : Nat) : Int)) (endM many out (some ([], p, top0 L))) := by
    intro L p out hs hn hv h0 ho
    obtain ⟨y, rfl⟩ := one_L hs hn h0
    have hy : okd b y := hv (0, y) List.mem_cons_self
    refine Ev.step (fun k => impl_climbMany.l1.eq_2 ..) (ev_neg (by omega) (ev_pure (get_at (by omega) (by omega)) (ev_bind (impl_topin hm (okd_le hy).2) (ev_pos (by omega) (ev_ret ?_)))))
    rw [endM_some, nilB_len, List.nil_append]
    rfl
  induction K with
  | zero =>
    intro n L p out h1 h2 _ hs hn hv h0 hp ho
    obtain rfl : n = 1 := by omega
    rw [mups_le b 0 1 L p (by omega)]
    exact hend L p out hs hn hv h0 (by omega)
  | succ K ih =>
    intro n L p out h1 h2 h16 hs hn hv h0 hp ho
    by_cases hn1 : 1 < n
    · rw [mups_step b (K + 1) n L p hn1]
      refine Ev.step (fun k => impl_climbMany.l1.eq_2 ..) (ev_pos (by omega) (ev_pure (show fake_mp_new.f = some [] from rfl) ?_))
      have hl := asc_length (asc_of hs hn)
      rw [ks_length] at hl
      refine impl_lev hb (many : Int) n hn1 h16 L hs hn hv _ L.length [] L p out [] (Nat.le_refl _) rfl (fun a ha => by cases ha) hp (by omega) (by simp only [List.length_nil]; omega) ?_
      cases hlev : lev b n L p with
      | none => rfl
      | some u =>
        obtain ⟨g1, g2, g3, g4, g5, used, g6, g7⟩ := lev_next hb hs hn hv hlev
        have h3 := ih ((n + 1) / 2) u.2.1 u.2.2 (out ++ u.1) (by omega) (by omega) (by omega) g2 g3 g4 (lev_some (b := b) (n := n) h0 g1) (fun q hq => hp q (by rw [g6]; exact List.mem_append_right _ hq)) (by rw [List.length_append]; omega)
        simp only [Option.bind_some, after]
        rw [endM_map, ← g1, List.append_nil]
        exact h3
    · obtain rfl : n = 1 := by omega
      rw [mups_le b (K + 1) 1 L p (by omega)]
      exact hend L p out hs hn hv h0 (by omega)
theorem impl_l0 {b : Int} (hb : 2 ≤ b ∧ b ≤ 60) (many : Nat) (m : List Nat) (hm : Asc 16 m) (l : List (List Int)) (hl : l.length = m.length) (hs : ∀ x ∈ l, x.length < 4000) (p : List Int) (R) (hfin : Ev (fun k => impl_climbMany.l1 k b (many : Int) (I m) p (l.map fun x => 0 :: x) (mp (leafL b m l)) (many : Int)) R) :
    ∀ (l2 l1 : List (List Int)) (m1 m2 : List Nat), l = l1 ++ l2 → m = m1 ++ m2 → m1.length = l1.length → Ev (fun k => impl_climbMany.l0 k b (many : Int) (I m) p (l1.map fun x => 0 :: x) (mp (leafL b m1 l1)) l (l.length : Int) (l1.length : Int)) R
  | [], l1, m1, m2, h1, h2, h3 => by
    have hl1 : l = l1 := by rw [h1, List.append_nil]
    have hm1 : m2 = [] := by
      have e1 := congrArg List.length h2
      have e2 := congrArg List.length hl1
      rw [List.length_append] at e1
      exact List.length_eq_zero_iff.1 (by omega)
    have hm2 : m = m1 := by rw [h2, hm1, List.append_nil]
    refine Ev.step (fun k => impl_climbMany.l0.eq_2 ..) (ev_neg (by rw [← hl1]; omega) ?_)
    rw [← hl1, ← hm2]
    exact hfin
  | x :: l2, l1, m1, m2, h1, h2, h3 => by
    have e1 := congrArg List.length h1
    have e2 := congrArg List.length h2
    have e3 := asc_length hm
    simp only [List.length_append, List.length_cons] at e1 e2
    match m2, h2, e2 with
    | [], _, e2 => simp only [List.length_nil] at e2; omega
    | y :: m2, h2, e2 =>
      have ih := impl_l0 hb many m hm l hl hs p R hfin l2 (l1 ++ [x]) (m1 ++ [y]) m2 (by rw [h1]; simp) (by rw [h2]; simp) (by simp [h3])
      have hx : x.length < 4000 := hs x (by rw [h1]; simp)
      have hy : y < 16 := hm.2 y (by rw [h2]; simp)
      have hdig : okd b (Dig.digest b (0 :: x)) := ⟨hb, Dig.digest_range hb.1 hb.2 (by simp only [List.length_cons]; omega)⟩
      have hrx : Unit → rd_L2 l (l1.length : Int) = x := fun _ => by rw [h1]; exact rdB_at
      have hry : Unit → rd (I m) (l1.length : Int) = (y : Int) := fun _ => by rw [h2, ← h3]; exact rd_at
      have hro : Unit → rd_L2 (l1.map (fun x => 0 :: x) ++ [0 :: x]) (l1.length : Int) = 0 :: x := fun _ => by
        have := rdB_at (l1 := l1.map fun x => 0 :: x) (x := 0 :: x) (l2 := [])
        rw [List.length_map] at this
        exact this
      have hIl := I_length m
      simp only [List.length_cons] at e2
      refine Ev.step (fun k => impl_climbMany.l0.eq_2 ..) (ev_pos (by omega) (ev_pos (by omega) (ev_pos (by omega) ?_)))
      rw [hrx ()]
      refine ev_pure (impl_leafinM hx) (ev_pos (by rw [List.length_map]; omega) (ev_some (ev_pos (by omega) (ev_pos (by simp only [List.length_append, List.length_map, List.length_singleton]; omega) ?_))))
      rw [hro (), hry (), wr_succ (by omega)]
      refine ev_pure (impl_digest b _) (ev_pure (put_at (by omega) (by omega) (okd_le hdig) (by rw [mp_length, leafL_length b m1 l1 h3.symm]; omega)) ?_)
      rw [List.map_append, leafL_app b m1 [y] l1 [x] h3, mp_app, List.length_append] at ih
      exact ih
theorem impl_leavesM (b : Int) (l : List (List Int)) : impl_leavesOk.f b l = some (decide ((2 ≤ b ∧ b ≤ 60) ∧ 1 ≤ l.length ∧ l.length ≤ 16) && l.all fun x => decide (x.length < 4000)) := rfl
theorem impl_digsM (b : Int) (l : List Int) : impl_digests.f b l = some (decide (∀ x ∈ l, okd b x)) := by
  unfold impl_digests.f
  rw [if_pos (List.all_eq_true.2 fun x _ => by rw [impl_isdig]; rfl)]
  congr 1
  rw [Bool.eq_iff_iff, List.all_eq_true]
  simp only [impl_isdig, Option.getD_some, decide_eq_true_eq]
theorem impl_climbM (b many : Int) (at_ : List Int) (l : List (List Int)) (p : List Int) (ha : at_.length ≤ 1048576) : Ev (fun k => impl_climbMany.f k b many at_ l p) (climbedM b many at_ l p) := by
  unfold impl_climbMany.f
  have hno : ∀ a : Bool, a = true → ¬ (manyOk b many at_ l ∧ ∀ q ∈ p, okd b q) → Ev (fun k => impl_climbMany.j0 k b many at_ l p a) (climbedM b many at_ l p) := by
    intro a ha h
    subst ha
    unfold climbedM
    rw [if_neg h]
    exact Ev.step (fun k => impl_climbMany.j0.eq_2 ..) (ev_pos rfl (ev_ret rfl))
  refine ev_pure (impl_in_eq _ _ _) ?_
  by_cases h1 : 1 ≤ many ∧ many ≤ 16
  · refine ev_pos (decide_eq_true h1) (ev_bind (impl_plc many ⟨by omega, by omega⟩ at_ ha) ?_)
    by_cases h2 : plcs many at_ = true
    · refine ev_pos h2 ?_
      by_cases h3 : l.length = at_.length
      · refine ev_pos (by omega) (ev_pure (impl_leavesM b l) ?_)
        obtain ⟨n, rfl⟩ := Int.eq_ofNat_of_zero_le (by omega : 0 ≤ many)
        obtain ⟨m, rfl, hm⟩ := plcs_nat h2
        have hml := asc_length hm
        have hm16 : Asc 16 m := ⟨hm.1, fun x hx => by have := hm.2 x hx; omega⟩
        have hpos := plcs_pos h2
        rw [I_length] at h3 hpos
        by_cases h4 : (2 ≤ b ∧ b ≤ 60) ∧ ∀ x ∈ l, x.length < 4000
        · refine ev_pos ?_ (ev_pure (impl_digsM b p) ?_)
          · simp only [Bool.and_eq_true, decide_eq_true_eq, List.all_eq_true]
            exact ⟨⟨h4.1, by omega, by omega⟩, h4.2⟩
          · by_cases h5 : ∀ q ∈ p, okd b q
            · have hu : manyOk b (n : Int) (I m) l ∧ ∀ q ∈ p, okd b q := ⟨⟨⟨h4.1, h1⟩, h2, by rw [I_length]; exact h3, h4.2⟩, h5⟩
              refine Ev.step (fun k => impl_climbMany.j0.eq_2 ..) (ev_neg (by simp; exact h5) (ev_pure (show fake_mp_new.f = some [] from rfl) ?_))
              unfold climbedM mway
              rw [if_pos hu, toNat_I, Int.toNat_natCast]
              have hks := leafL_ks b m l h3
              have hs : Srt (leafL b m l) := by unfold Srt; rw [hks]; exact hm.1
              have hr := impl_l1 h4.1 n (by omega) 15 n (leafL b m l) p (l.map fun x => 0 :: x) (by omega) (by omega) (by omega) hs (by rw [hks]; exact hm.2) (leafL_okd h4.1 m l h4.2) (by intro e; rw [e] at hks; rw [← hks] at hpos; exact absurd hpos (by decide)) h5 (by rw [List.length_map]; omega)
              rw [hks] at hr
              refine impl_l0 h4.1 n m hm16 l h3 h4.2 p _ (ev_eq hr ?_) l [] [] m rfl rfl rfl
              generalize mups b (15 + 1) n (leafL b m l) p = o
              cases o with
              | none => rfl
              | some o => obtain ⟨i, r, y⟩ := o; rfl
            · exact hno _ (by simp only [decide_eq_false h5]; rfl) (fun h => h5 h.2)
        · refine ev_neg ?_ (hno _ rfl (fun h => h4 ⟨h.1.1.1, h.1.2.2.2⟩))
          simp only [Bool.and_eq_true, decide_eq_true_eq, List.all_eq_true]
          exact fun h => h4 ⟨h.1.1, h.2⟩
      · exact ev_neg (by omega) (hno _ rfl (fun h => h3 h.1.2.2.1))
    · exact ev_neg h2 (hno _ rfl (fun h => h2 h.1.2.1))
  · exact ev_neg (by simp only [decide_eq_true_eq]; exact h1) (hno _ rfl (fun h => h1 h.1.1.2))
theorem impl_lastofM (b many : Int) (at_ : List Int) (l : List (List Int)) (p : List Int) (hl : l.length ≤ 1048576) : impl_lastOf.f b (climbedM b many at_ l p).1 (climbedM b many at_ l p).2 = some (manyFrom b many at_ l p) := by
  unfold climbedM manyFrom impl_lastOf.f
  by_cases hu : manyOk b many at_ l
  · have hb := hu.1.1
    have hbl := fun i r y => @bad_left b hb many at_ l p hu i r y
    have hl16 : l.length ≤ 16 := by
      obtain ⟨h1, h2, h3, h4⟩ := hu
      obtain ⟨n, rfl⟩ := Int.eq_ofNat_of_zero_le (by omega : 0 ≤ many)
      obtain ⟨m, rfl, hm⟩ := plcs_nat h2
      have := asc_length hm
      rw [I_length] at h3
      omega
    rw [if_pos hu]
    generalize mway b many at_ l p = o at hbl
    by_cases h5 : ∀ q ∈ p, okd b q
    · have hc : manyOk b many at_ l ∧ ∀ q ∈ p, okd b q := ⟨hu, h5⟩
      rw [if_pos hc]
      cases o with
      | none => rfl
      | some o =>
        obtain ⟨i, r, y⟩ := o
        have hi := (hbl i r y rfl).1
        simp only []
        by_cases hr : r = []
        · have e1 := rdB_last (l.map (fun x => 0 :: x) ++ i) (topIn many.toNat y) (by simp only [List.length_append, List.length_map]; omega)
          have e2 := lastB_le (l.map (fun x => 0 :: x) ++ i) (topIn many.toNat y) (by simp only [List.length_append, List.length_map]; omega)
          rw [List.append_assoc] at e1 e2
          rw [if_pos (decide_eq_true hr), if_pos e2.1, if_pos e2.2, e1, impl_digest, if_pos hr]
          rfl
        · rw [if_neg (by simp [hr]), if_neg hr]
    · have hc : ¬ (manyOk b many at_ l ∧ ∀ q ∈ p, okd b q) := fun h => h5 h.2
      rw [if_neg hc]
      cases o with
      | none => rfl
      | some o =>
        obtain ⟨i, r, y⟩ := o
        have hi := (hbl i r y rfl).2 h5
        simp only []
        rw [if_neg hi]
        rfl
  · have hc : ¬ (manyOk b many at_ l ∧ ∀ q ∈ p, okd b q) := fun h => hu h.1
    rw [if_neg hu, if_neg hc]
    rfl
theorem has_hit {m : List Nat} (hm : m.length ≤ 1000) (x : Nat) (B : List Nat) : ∀ (A pre : List Nat), m = pre ++ (A ++ x :: B) → x ∉ A → Ev (fun k => spec_l2Has.l0 k (I m) (x : Int) (pre.length : Int)) ((pre.length + A.length : Nat) : Int)
  | [], pre, h, _ => by
    have hl := I_length m
    have e := congrArg List.length h
    simp only [List.length_append, List.length_cons, List.length_nil] at e
    have hr : Unit → rd (I m) (pre.length : Int) = (x : Int) := fun _ => by
      rw [h, rd_I, List.getD_eq_getElem?_getD, List.getElem?_append_right (Nat.le_refl _), Nat.sub_self]; rfl
    exact Ev.step (fun k => spec_l2Has.l0.eq_2 ..) (ev_pos (by omega) (ev_pos (by omega) (ev_pos (hr ()) (ev_ret rfl))))
  | y :: A, pre, h, hx => by
    have hl := I_length m
    have e := congrArg List.length h
    simp only [List.length_append, List.length_cons] at e
    have hr : Unit → rd (I m) (pre.length : Int) = (y : Int) := fun _ => by
      rw [h, rd_I, List.getD_eq_getElem?_getD, List.getElem?_append_right (Nat.le_refl _), Nat.sub_self]; rfl
    have hyx : ¬ (y : Int) = (x : Int) := fun e => hx (by have := Int.ofNat.inj e; subst this; exact List.mem_cons_self)
    have ih := has_hit hm x B A (pre ++ [y]) (by rw [h]; simp) (fun hh => hx (List.mem_cons_of_mem _ hh))
    rw [List.length_append, List.length_singleton] at ih
    refine Ev.step (fun k => spec_l2Has.l0.eq_2 ..) (ev_pos (by omega) (ev_pos (by omega) (ev_neg (by rw [hr ()]; exact hyx) ?_)))
    rw [wr_succ (by omega), List.length_cons, show pre.length + (A.length + 1) = pre.length + 1 + A.length by omega]
    exact ih
theorem has_miss {m : List Nat} (hm : m.length ≤ 1000) (x : Nat) : ∀ (A pre : List Nat), m = pre ++ A → x ∉ A → Ev (fun k => spec_l2Has.l0 k (I m) (x : Int) (pre.length : Int)) (-1)
  | [], pre, h, _ => by
    have hl := I_length m
    have e := congrArg List.length h
    simp only [List.length_append, List.length_nil] at e
    exact Ev.step (fun k => spec_l2Has.l0.eq_2 ..) (ev_neg (by omega) (ev_ret rfl))
  | y :: A, pre, h, hx => by
    have hl := I_length m
    have e := congrArg List.length h
    simp only [List.length_append, List.length_cons] at e
    have hr : Unit → rd (I m) (pre.length : Int) = (y : Int) := fun _ => by
      rw [h, rd_I, List.getD_eq_getElem?_getD, List.getElem?_append_right (Nat.le_refl _), Nat.sub_self]; rfl
    have hyx : ¬ (y : Int) = (x : Int) := fun e => hx (by have := Int.ofNat.inj e; subst this; exact List.mem_cons_self)
    have ih := has_miss hm x A (pre ++ [y]) (by rw [h]; simp) (fun hh => hx (List.mem_cons_of_mem _ hh))
    rw [List.length_append, List.length_singleton] at ih
    refine Ev.step (fun k => spec_l2Has.l0.eq_2 ..) (ev_pos (by omega) (ev_pos (by omega) (ev_neg (by rw [hr ()]; exact hyx) ?_)))
    rw [wr_succ (by omega)]
    exact ih
theorem spec_hit {m : List Nat} (hm : m.length ≤ 1000) (x : Nat) (A B : List Nat) (h : m = A ++ x :: B) (hx : x ∉ A) : Ev (fun k => spec_l2Has.f k (I m) (x : Int)) (A.length : Int) := by
  have := has_hit hm x B A [] h hx
  rw [List.length_nil, Nat.zero_add] at this
  unfold spec_l2Has.f
  exact this
theorem spec_miss {m : List Nat} (hm : m.length ≤ 1000) (x : Nat) (hx : x ∉ m) : Ev (fun k => spec_l2Has.f k (I m) (x : Int)) (-1) := by
  unfold spec_l2Has.f
  exact has_miss hm x m [] rfl hx
/-- The digests alone. -/
def vs (L : Pl) : List Int := L.map Prod.snd
theorem vs_cons (x : Nat) (d : Int) (t : Pl) : vs ((x, d) :: t) = d :: vs t := rfl
theorem vs_length (L : Pl) : (vs L).length = L.length := List.length_map _
theorem vs_at {pre t : Pl} {x : Nat} {d : Int} : rd (vs (pre ++ (x, d) :: t)) (pre.length : Int) = d := by
  unfold vs
  rw [rd_nat, List.map_append, List.getD_eq_getElem?_getD, List.getElem?_append_right (by rw [List.length_map]; exact Nat.le_refl _), List.length_map, Nat.sub_self]
  rfl
/-- What l2Up answers. -/
def upEnd (nx : List Nat) (ys : List Int) (R : List Int × List Int × List Int × Bool) : Option (List (List Int) × Pl × List Int) → Prop
  | none => R.2.2.2 = false
  | some u => R = (I (nx ++ ks u.2.1), ys ++ vs u.2.1, u.2.2, true)
theorem spec_up {b : Int} (n : Nat) (h16 : n ≤ 16) (L : Pl) (hs : Srt L) (hn : ∀ x ∈ ks L, x < n) (hv : ∀ z ∈ L, okd b z.2) (r : Nat) : ∀ (q : Nat) (pre suf : Pl) (p : List Int) (nx : List Nat) (ys : List Int), q + r = (n + 1) / 2 → L = pre ++ suf →
    (∀ a ∈ ks pre, a < 2 * q) → (∀ c ∈ ks suf, 2 * q ≤ c) → nx.length ≤ q → ys.length ≤ q →
    ∃ R, Ev (fun k => spec_l2Up.l0 k b (n : Int) (I (ks L)) (vs L) p (I nx) ys (2 * (q : Int))) R ∧ upEnd nx ys R (lev b n suf p) := by
  have hlen := asc_length (asc_of hs hn)
  have hkl := ks_length L
  have hvl := vs_length L
  induction r with
  | zero =>
    intro q pre suf p nx ys hq hL hpre hsuf hnx hys
    have : suf = [] := by
      match suf, hsuf with
      | [], _ => rfl
      | (x, d) :: t, hsuf =>
        have h1 := hsuf x (by rw [ks_cons]; exact List.mem_cons_self)
        have h2 := hn x (by rw [hL, ks_append, ks_cons]; simp)
        omega
    subst this
    refine ⟨_, Ev.step (fun k => spec_l2Up.l0.eq_2 ..) (ev_neg (by omega) (ev_ret rfl)), ?_⟩
    rw [lev_nil]
    simp [upEnd, ks, vs]
  | succ r ih =>
    intro q pre suf p nx ys hq hL hpre hsuf hnx hys
    have hnl := I_length nx
    have e0 : 2 * (q : Int) = ((2 * q : Nat) : Int) := by omega
    have e1 : Unit → wrap64 (((2 * q : Nat) : Int) + 1) = ((2 * q + 1 : Nat) : Int) := fun _ => wr_succ (by omega)
    have e2 : Unit → wrap64 (((2 * q : Nat) : Int) + 2) = 2 * ((q + 1 : Nat) : Int) := fun _ => by rw [wr (by omega) (by omega)]; omega
    have eh : Unit → wrap64 (Int.tdiv ((2 * q : Nat) : Int) 2) = (q : Int) := fun _ => by rw [half_nat (2 * q) (by omega)]; omega
    have h2n : ((2 * q : Nat) : Int) < (n : Int) := by omega
    rw [e0]
    have hkp : ∀ x, x ∈ ks pre → x < 2 * q := hpre
    rcases pl_cases suf with rfl | ⟨x, d, e, t, rfl, hx⟩ | ⟨x, d, t, rfl, hh⟩
    · -- nothing is left
      have hLp : L = pre := by rw [hL, List.append_nil]
      obtain ⟨R, hR, hE⟩ := ih (q + 1) pre [] p nx ys (by omega) hL (fun a ha => by have := hpre a ha; omega) (fun c hc => by cases hc) (by omega) (by omega)
      have m1 := spec_miss (m := ks L) (by omega) (2 * q) (by rw [hLp]; exact fun h => by have := hpre _ h; omega)
      have m2 := spec_miss (m := ks L) (by omega) (2 * q + 1) (by rw [hLp]; exact fun h => by have := hpre _ h; omega)
      refine ⟨R, Ev.step (fun k => spec_l2Up.l0.eq_2 ..) (ev_pos h2n ?_), hE⟩
      rw [e1 ()]
      refine ev_bind m1 (ev_bind m2 (ev_pos (by decide) (Ev.step (fun k => spec_l2Up.j1.eq_2 ..) (ev_pos (by decide) ?_))))
      rw [e2 ()]
      exact hR
    · have hsd : Srt ((x, d) :: (x + 1, e) :: t) := by
        have := hs; unfold Srt at this ⊢; rw [hL, ks_append, List.pairwise_append] at this; exact this.2.1
      obtain ⟨g1, g2⟩ := srt_pair hsd hx
      have hxq := hsuf x (by rw [ks_cons]; exact List.mem_cons_self)
      have hlt : pre.length + 2 ≤ L.length := by rw [hL]; simp only [List.length_append, List.length_cons]; omega
      by_cases hxe : x = 2 * q
      · subst hxe
        have hd : okd b d := hv (2 * q, d) (by rw [hL]; simp)
        have he : okd b e := hv (2 * q + 1, e) (by rw [hL]; simp)
        have hx1 : 2 * q + 1 < n := hn _ (by rw [hL, ks_append, ks_cons, ks_cons]; simp)
        have hL2 : L = (pre ++ [(2 * q, d)]) ++ (2 * q + 1, e) :: t := by rw [hL]; simp
        have m1 := spec_hit (m := ks L) (by omega) (2 * q) (ks pre) (ks ((2 * q + 1, e) :: t)) (by rw [hL, ks_append, ks_cons]) (fun h => by have := hpre _ h; omega)
        have m2 := spec_hit (m := ks L) (by omega) (2 * q + 1) (ks (pre ++ [(2 * q, d)])) (ks t) (by rw [hL2, ks_append, ks_cons]) (fun h => by
          rw [ks_append, List.mem_append] at h
          rcases h with h | h
          · have := hpre _ h; omega
          · simp only [ks, List.map_cons, List.map_nil, List.mem_singleton] at h; omega)
        rw [ks_length] at m1
        rw [ks_length, List.length_append, List.length_singleton] at m2
        have r1 : Unit → rd (vs L) (pre.length : Int) = d := fun _ => by rw [hL]; exact vs_at
        have r2 : Unit → rd (vs L) ((pre.length + 1 : Nat) : Int) = e := fun _ => by
          have := vs_at (pre := pre ++ [(2 * q, d)]) (x := 2 * q + 1) (d := e) (t := t)
          rw [List.length_append, List.length_singleton] at this
          rw [hL2]; exact this
        have hnode : Unit → node b d e = Dig.digest b (nodeIn d e) := fun _ => if_pos ⟨hd, he⟩
        obtain ⟨R, hR, hE⟩ := ih (q + 1) (pre ++ [(2 * q, d), (2 * q + 1, e)]) t p (nx ++ [q]) (ys ++ [Dig.digest b (nodeIn d e)]) (by omega) (by rw [hL]; simp) (fun a ha => by
          rw [ks_append, List.mem_append] at ha
          rcases ha with ha | ha
          · have := hpre a ha; omega
          · simp only [ks, List.map_cons, List.map_nil, List.mem_cons, List.not_mem_nil, or_false] at ha
            rcases ha with rfl | rfl <;> omega) (fun c hc => by have := g1 c hc; omega) (by rw [List.length_append, List.length_singleton]; omega) (by rw [List.length_append, List.length_singleton]; omega)
        refine ⟨R, Ev.step (fun k => spec_l2Up.l0.eq_2 ..) (ev_pos h2n ?_), ?_⟩
        · rw [e1 ()]
          refine ev_bind m1 (ev_bind m2 (ev_neg (by omega) (Ev.step (fun k => spec_l2Up.j1.eq_2 ..) (ev_neg (by decide) (ev_pos (by omega) (ev_some ?_))))))
          rw [e1 (), eh (), I_snoc]
          refine ev_neg (by omega) (ev_neg (by omega) (Ev.step (fun k => spec_l2Up.j2.eq_2 ..) (ev_neg (by rw [decide_eq_false (by omega)]; decide) (Ev.step (fun k => spec_l2Up.j3.eq_2 ..) (ev_pos (by omega) (ev_pos (by omega) (ev_pos (by omega) (ev_pos (by omega) (ev_pos (by omega) (ev_pos (by omega) ?_))))))))))
          rw [r1 (), r2 (), e2 ()]
          refine ev_bind (spec_node b d e) (ev_pos (by omega) ?_)
          rw [hnode ()]
          exact hR
        · rw [lev_pair b n (2 * q) d e t p (by omega)]
          generalize lev b n t p = o at hE
          cases o with
          | none => exact hE
          | some u =>
            simp only [Option.map_some, upEnd] at hE ⊢
            rw [hE, ks_cons, vs_cons, show 2 * q / 2 = q by omega]
            simp
      · have hxo : 2 * q + 2 ≤ x := by omega
        have hmem : ∀ z, z ∈ ks ((x, d) :: (x + 1, e) :: t) → 2 * q + 2 ≤ z := by
          intro z hz
          rw [ks_cons] at hz
          rcases List.mem_cons.1 hz with rfl | hz
          · exact hxo
          · have := (srt_cons hsd).1 z hz; omega
        obtain ⟨R, hR, hE⟩ := ih (q + 1) pre _ p nx ys (by omega) hL (fun a ha => by have := hpre a ha; omega) (fun c hc => by have := hmem c hc; omega) (by omega) (by omega)
        have hno : ∀ z, z < 2 * q + 2 → 2 * q ≤ z → z ∉ ks L := by
          intro z h1 h2 h3
          rw [hL, ks_append, List.mem_append] at h3
          rcases h3 with h3 | h3
          · have := hpre z h3; omega
          · have := hmem z h3; omega
        have m1 := spec_miss (m := ks L) (by omega) (2 * q) (hno _ (by omega) (by omega))
        have m2 := spec_miss (m := ks L) (by omega) (2 * q + 1) (hno _ (by omega) (by omega))
        refine ⟨R, Ev.step (fun k => spec_l2Up.l0.eq_2 ..) (ev_pos h2n ?_), hE⟩
        rw [e1 ()]
        refine ev_bind m1 (ev_bind m2 (ev_pos (by decide) (Ev.step (fun k => spec_l2Up.j1.eq_2 ..) (ev_pos (by decide) ?_))))
        rw [e2 ()]
        exact hR
    · have hsd : Srt ((x, d) :: t) := by
        have := hs; unfold Srt at this ⊢; rw [hL, ks_append, List.pairwise_append] at this; exact this.2.1
      have g1 := srt_solo hsd hh
      have hxq := hsuf x (by rw [ks_cons]; exact List.mem_cons_self)
      have hxn : x < n := hn _ (by rw [hL, ks_append, ks_cons]; simp)
      have hd : okd b d := hv (x, d) (by rw [hL]; simp)
      have hlt : pre.length + 1 ≤ L.length := by rw [hL]; simp only [List.length_append, List.length_cons]; omega
      have r1 : Unit → rd (vs L) (pre.length : Int) = d := fun _ => by rw [hL]; exact vs_at
      by_cases hxe : x / 2 = q
      · have hother : ∀ z, z ≠ x → 2 * q ≤ z → z < 2 * q + 2 → z ∉ ks L := by
          intro z h1 h2 h3 h4
          rw [hL, ks_append, ks_cons, List.mem_append, List.mem_cons] at h4
          rcases h4 with h4 | h4 | h4
          · have := hpre z h4; omega
          · exact h1 h4
          · have := g1 z h4; omega
        have mx := spec_hit (m := ks L) (by omega) x (ks pre) (ks t) (by rw [hL, ks_append, ks_cons]) (fun h => by have := hpre _ h; omega)
        rw [ks_length] at mx
        have hnext : ∀ (i : List (List Int)) (v : Int) (p' : List Int), solo b n x d p = some (i, v, p') → ∃ R, Ev (fun k => spec_l2Up.l0 k b (n : Int) (I (ks L)) (vs L) p' (I (nx ++ [q])) (ys ++ [v]) (2 * ((q + 1 : Nat) : Int))) R ∧ upEnd nx ys R (lev b n ((x, d) :: t) p) := by
          intro i v p' hso
          obtain ⟨R, hR, hE⟩ := ih (q + 1) (pre ++ [(x, d)]) t p' (nx ++ [q]) (ys ++ [v]) (by omega) (by rw [hL]; simp) (fun a ha => by
            rw [ks_append, List.mem_append] at ha
            rcases ha with ha | ha
            · have := hpre a ha; omega
            · simp only [ks, List.map_cons, List.map_nil, List.mem_singleton] at ha; omega) (fun c hc => by have := g1 c hc; omega) (by rw [List.length_append, List.length_singleton]; omega) (by rw [List.length_append, List.length_singleton]; omega)
          refine ⟨R, hR, ?_⟩
          rw [lev_solo b n x d t p hh, hso, Option.bind_some]
          simp only
          generalize lev b n t p' = o at hE
          cases o with
          | none => exact hE
          | some u =>
            simp only [Option.map_some, upEnd] at hE ⊢
            rw [hE, ks_cons, vs_cons, hxe]
            simp
        have hcan : ∀ q' p', p = q' :: p' → okd b q' → beside x < n → solo b n x d p = some ([stepIn x q' d], Dig.digest b (stepIn x q' d), p') := by
          intro q' p' e h1 h2
          subst e
          unfold solo
          rw [if_pos h2]
          simp only [if_pos h1]
        have hcant : beside x < n → (∀ q' p', p = q' :: p' → ¬ okd b q') → ∀ R : List Int × List Int × List Int × Bool, R.2.2.2 = false → upEnd nx ys R (lev b n ((x, d) :: t) p) := by
          intro h1 h2 R hR
          have : solo b n x d p = none := by
            unfold solo
            rw [if_pos h1]
            match p, h2 with
            | [], _ => rfl
            | q' :: p', h2 => simp only [if_neg (h2 q' p' rfl)]
          rw [lev_solo b n x d t p hh, this]
          exact hR
        by_cases hxev : x % 2 = 0
        · have hx2 : x = 2 * q := by omega
          subst hx2
          have m2 := spec_miss (m := ks L) (by omega) (2 * q + 1) (hother _ (by omega) (by omega) (by omega))
          have hbes : beside (2 * q) = 2 * q + 1 := if_pos hxev
          rw [hbes] at hcan hcant
          have est : ∀ q', stepIn (2 * q) q' d = nodeIn d q' := fun q' => if_neg (by omega)
          by_cases hl : 2 * q + 1 = n
          · obtain ⟨R, hR, hE⟩ := hnext [] d p (by unfold solo; rw [if_neg (by rw [hbes]; omega)])
            refine ⟨R, Ev.step (fun k => spec_l2Up.l0.eq_2 ..) (ev_pos h2n ?_), hE⟩
            rw [e1 ()]
            refine ev_bind mx (ev_bind m2 (ev_neg (by omega) (Ev.step (fun k => spec_l2Up.j1.eq_2 ..) (ev_neg (by decide) (ev_pos (by omega) (ev_some ?_))))))
            rw [e1 (), eh (), I_snoc, r1 (), e2 ()]
            exact ev_pos (by omega) (ev_pos (by omega) (ev_pos (by omega) (ev_pos (by omega) hR)))
          · have hb1 : 2 * q + 1 < n := by omega
            have hgo : ∀ R, Ev (fun k => spec_l2Up.j2 k b (n : Int) (I (ks L)) (vs L) p (I (nx ++ [q])) ys ((2 * q : Nat) : Int) (pre.length : Int) (-1) 0 true) R → Ev (fun k => spec_l2Up.l0 k b (n : Int) (I (ks L)) (vs L) p (I nx) ys ((2 * q : Nat) : Int)) R := by
              intro R hR
              refine Ev.step (fun k => spec_l2Up.l0.eq_2 ..) (ev_pos h2n ?_)
              rw [e1 ()]
              refine ev_bind mx (ev_bind m2 (ev_neg (by omega) (Ev.step (fun k => spec_l2Up.j1.eq_2 ..) (ev_neg (by decide) (ev_pos (by omega) (ev_some ?_))))))
              rw [e1 (), eh (), I_snoc]
              exact ev_neg (by omega) (ev_neg (by omega) hR)
            match p, hcan, hcant, hnext, hgo with
            | [], hcan, hcant, hnext, hgo =>
              exact ⟨_, hgo _ (Ev.step (fun k => spec_l2Up.j2.eq_2 ..) (ev_pos rfl (ev_pos rfl (ev_ret rfl)))), hcant hb1 (fun _ _ e => by cases e) _ rfl⟩
            | q' :: p', hcan, hcant, hnext, hgo =>
              have eq0 : rd (q' :: p') 0 = q' := rfl
              have ed0 : (q' :: p').drop 1 = p' := rfl
              by_cases hq : okd b q'
              · obtain ⟨R, hR, hE⟩ := hnext _ _ _ (hcan q' p' rfl hq hb1)
                have hnode : Unit → node b d q' = Dig.digest b (nodeIn d q') := fun _ => if_pos ⟨hd, hq⟩
                refine ⟨R, hgo R (Ev.step (fun k => spec_l2Up.j2.eq_2 ..) (ev_pos rfl (ev_neg (by simp only [List.length_cons]; omega) (ev_pos (by simp only [List.length_cons]; omega) ?_)))), hE⟩
                rw [eq0, ed0]
                refine ev_pure (spec_isdig b q') (ev_pos (decide_eq_true hq) (ev_pos (by simp only [List.length_cons]; omega) (Ev.step (fun k => spec_l2Up.j3.eq_2 ..) (ev_pos (by omega) (ev_pos (by omega) (ev_pos (by omega) (ev_neg (by decide) ?_)))))))
                rw [r1 (), e2 ()]
                refine ev_bind (spec_node b d q') (ev_pos (by omega) ?_)
                rw [hnode ()]
                rw [est q'] at hR
                exact hR
              · refine ⟨_, hgo _ (Ev.step (fun k => spec_l2Up.j2.eq_2 ..) (ev_pos rfl (ev_neg (by simp only [List.length_cons]; omega) (ev_pos (by simp only [List.length_cons]; omega) (ev_pure (spec_isdig b _) (ev_neg ?_ (ev_ret rfl))))))), hcant hb1 (fun _ _ e => by cases e; exact hq) _ rfl⟩
                rw [eq0]
                simp [hq]
        · have hx2 : x = 2 * q + 1 := by omega
          subst hx2
          have m2 := spec_miss (m := ks L) (by omega) (2 * q) (hother _ (by omega) (by omega) (by omega))
          have hbes : beside (2 * q + 1) = 2 * q := if_neg hxev
          rw [hbes] at hcan hcant
          have hb1 : 2 * q < n := by omega
          have est : ∀ q', stepIn (2 * q + 1) q' d = nodeIn q' d := fun q' => if_pos (by omega)
          have hgo : ∀ R, Ev (fun k => spec_l2Up.j2 k b (n : Int) (I (ks L)) (vs L) p (I (nx ++ [q])) ys ((2 * q : Nat) : Int) (-1) (pre.length : Int) 0 true) R → Ev (fun k => spec_l2Up.l0 k b (n : Int) (I (ks L)) (vs L) p (I nx) ys ((2 * q : Nat) : Int)) R := by
            intro R hR
            refine Ev.step (fun k => spec_l2Up.l0.eq_2 ..) (ev_pos h2n ?_)
            rw [e1 ()]
            refine ev_bind m2 (ev_bind mx (ev_pos (by decide) (Ev.step (fun k => spec_l2Up.j1.eq_2 ..) (ev_neg (by rw [decide_eq_false (by omega)]; decide) (ev_pos (by omega) (ev_some ?_))))))
            rw [e1 (), eh (), I_snoc]
            exact ev_neg (by omega) (ev_pos (by decide) hR)
          match p, hcan, hcant, hnext, hgo with
          | [], hcan, hcant, hnext, hgo =>
            exact ⟨_, hgo _ (Ev.step (fun k => spec_l2Up.j2.eq_2 ..) (ev_pos rfl (ev_pos rfl (ev_ret rfl)))), hcant hb1 (fun _ _ e => by cases e) _ rfl⟩
          | q' :: p', hcan, hcant, hnext, hgo =>
            have eq0 : rd (q' :: p') 0 = q' := rfl
            have ed0 : (q' :: p').drop 1 = p' := rfl
            by_cases hq : okd b q'
            · obtain ⟨R, hR, hE⟩ := hnext _ _ _ (hcan q' p' rfl hq hb1)
              have hnode : Unit → node b q' d = Dig.digest b (nodeIn q' d) := fun _ => if_pos ⟨hq, hd⟩
              refine ⟨R, hgo R (Ev.step (fun k => spec_l2Up.j2.eq_2 ..) (ev_pos rfl (ev_neg (by simp only [List.length_cons]; omega) (ev_pos (by simp only [List.length_cons]; omega) ?_)))), hE⟩
              rw [eq0, ed0]
              refine ev_pure (spec_isdig b q') (ev_pos (decide_eq_true hq) (ev_pos (by simp only [List.length_cons]; omega) (Ev.step (fun k => spec_l2Up.j3.eq_2 ..) (ev_neg (by decide) (ev_pos (by omega) (ev_pos (by omega) (ev_pos (by omega) ?_)))))))
              rw [r1 (), e2 ()]
              refine ev_bind (spec_node b q' d) (ev_pos (by omega) ?_)
              rw [hnode ()]
              rw [est q'] at hR
              exact hR
            · refine ⟨_, hgo _ (Ev.step (fun k => spec_l2Up.j2.eq_2 ..) (ev_pos rfl (ev_neg (by simp only [List.length_cons]; omega) (ev_pos (by simp only [List.length_cons]; omega) (ev_pure (spec_isdig b _) (ev_neg ?_ (ev_ret rfl))))))), hcant hb1 (fun _ _ e => by cases e; exact hq) _ rfl⟩
              rw [eq0]
              simp [hq]
      · have hxo : 2 * q + 2 ≤ x := by omega
        have hmem : ∀ z, z ∈ ks ((x, d) :: t) → 2 * q + 2 ≤ z := by
          intro z hz
          rw [ks_cons] at hz
          rcases List.mem_cons.1 hz with rfl | hz
          · exact hxo
          · have := (srt_cons hsd).1 z hz; omega
        obtain ⟨R, hR, hE⟩ := ih (q + 1) pre _ p nx ys (by omega) hL (fun a ha => by have := hpre a ha; omega) (fun c hc => by have := hmem c hc; omega) (by omega) (by omega)
        have hno : ∀ z, z < 2 * q + 2 → 2 * q ≤ z → z ∉ ks L := by
          intro z h1 h2 h3
          rw [hL, ks_append, List.mem_append] at h3
          rcases h3 with h3 | h3
          · have := hpre z h3; omega
          · have := hmem z h3; omega
        have m1 := spec_miss (m := ks L) (by omega) (2 * q) (hno _ (by omega) (by omega))
        have m2 := spec_miss (m := ks L) (by omega) (2 * q + 1) (hno _ (by omega) (by omega))
        refine ⟨R, Ev.step (fun k => spec_l2Up.l0.eq_2 ..) (ev_pos h2n ?_), hE⟩
        rw [e1 ()]
        refine ev_bind m1 (ev_bind m2 (ev_pos (by decide) (Ev.step (fun k => spec_l2Up.j1.eq_2 ..) (ev_pos (by decide) ?_))))
        rw [e2 ()]
        exact hR
/-- What the reference answers behind a way up. -/
def endS (b : Int) (many : Nat) : Option (List (List Int) × List Int × Int) → Int
  | none => -1
  | some (_, r, y) => if r = [] then Dig.digest b (topIn many y) else -1
theorem endS_map (b : Int) (many : Nat) (i : List (List Int)) (o : Option (List (List Int) × List Int × Int)) : endS b many (o.map fun v => (i ++ v.1, v.2)) = endS b many o := by
  cases o with
  | none => rfl
  | some v => obtain ⟨a, r, y⟩ := v; rfl
theorem spec_many_l1 {b : Int} (hb : 2 ≤ b ∧ b ≤ 60) (many : Nat) (hm : many ≤ 16) (K : Nat) : ∀ (n : Nat) (L : Pl) (p : List Int), n ≤ K + 1 → 1 ≤ n → n ≤ 16 → Srt L → (∀ x ∈ ks L, x < n) → (∀ z ∈ L, okd b z.2) → L ≠ [] →
    Ev (fun k => spec_ManyFrom.l1 k b (many : Int) (I (ks L)) p (vs L) (n : Int)) (endS b many (mups b (K + 1) n L p)) := by
  have hend : ∀ (L : Pl) (p : List Int), Srt L → (∀ x ∈ ks L, x < 1) → (∀ z ∈ L, okd b z.2) → L ≠ [] → Ev (fun k => spec_ManyFrom.l1 k b (many : Int) (I (ks L)) p (vs L) ((1 : Nat) : Int)) (endS b many (some ([], p, top0 L))) := by
    intro L p hs hn hv h0
    obtain ⟨y, rfl⟩ := one_L hs hn h0
    have hy : okd b y := hv (0, y) List.mem_cons_self
    refine Ev.step (fun k => spec_ManyFrom.l1.eq_2 ..) (ev_neg (by omega) ?_)
    unfold endS
    simp only
    by_cases hp : p = []
    · subst hp
      rw [if_pos rfl]
      exact ev_pos rfl (ev_pos (by simp [vs]) (ev_bind (spec_topin hm (okd_le hy).2) (ev_bind (spec_digest b _) (ev_ret rfl))))
    · rw [if_neg hp]
      exact ev_neg (by have := List.length_pos_iff.2 hp; omega) (ev_ret rfl)
  induction K with
  | zero =>
    intro n L p h1 h2 _ hs hn hv h0
    obtain rfl : n = 1 := by omega
    rw [mups_le b 0 1 L p (by omega)]
    exact hend L p hs hn hv h0
  | succ K ih =>
    intro n L p h1 h2 h16 hs hn hv h0
    by_cases hn1 : 1 < n
    · rw [mups_step b (K + 1) n L p hn1]
      have e1 : Unit → wrap64 ((n : Int) + 1) = ((n + 1 : Nat) : Int) := fun _ => wr_succ (by omega)
      have e2 : Unit → wrap64 (Int.tdiv ((n + 1 : Nat) : Int) 2) = (((n + 1) / 2 : Nat) : Int) := fun _ => half_nat (n + 1) (by omega)
      obtain ⟨R, hR, hE⟩ := spec_up (b := b) n h16 L hs hn hv ((n + 1) / 2) 0 [] L p [] [] (Nat.zero_add _) rfl (fun a ha => by cases ha) (fun _ _ => by omega) (Nat.zero_le _) (Nat.zero_le _)
      have hf : Ev (fun k => spec_l2Up.f k b (n : Int) (I (ks L)) (vs L) p) R := by unfold spec_l2Up.f; exact hR
      refine Ev.step (fun k => spec_ManyFrom.l1.eq_2 ..) (ev_pos (by omega) (ev_bind hf ?_))
      rw [e1 (), e2 ()]
      cases hlev : lev b n L p with
      | none =>
        rw [hlev] at hE
        exact ev_neg (by rw [show R.2.2.2 = false from hE]; exact Bool.false_ne_true) (ev_ret rfl)
      | some u =>
        rw [hlev] at hE
        have hE : R = (I ([] ++ ks u.2.1), [] ++ vs u.2.1, u.2.2, true) := hE
        obtain ⟨g1, g2, g3, g4, g5, used, g6, g7⟩ := lev_next hb hs hn hv hlev
        have h3 := ih ((n + 1) / 2) u.2.1 u.2.2 (by omega) (by omega) (by omega) g2 g3 g4 (lev_some (b := b) (n := n) h0 g1)
        subst hE
        simp only [Option.bind_some]
        rw [endS_map]
        exact ev_pos trivial h3
    · obtain rfl : n = 1 := by omega
      rw [mups_le b (K + 1) 1 L p (by omega)]
      exact hend L p hs hn hv h0
theorem spec_many_l0 {b : Int} (hb : 2 ≤ b ∧ b ≤ 60) (many : Nat) (m : List Nat) (hm : Asc 16 m) (l : List (List Int)) (hl : l.length = m.length) (p : List Int) (R : Int) (hbad : (¬ ∀ x ∈ l, x.length < 4000) → R = -1) (hfin : (∀ x ∈ l, x.length < 4000) → Ev (fun k => spec_ManyFrom.l1 k b (many : Int) (I m) p (vs (leafL b m l)) (many : Int)) R) :
    ∀ (l2 l1 : List (List Int)) (m1 m2 : List Nat), l = l1 ++ l2 → m = m1 ++ m2 → m1.length = l1.length → (∀ x ∈ l1, x.length < 4000) → Ev (fun k => spec_ManyFrom.l0 k b (many : Int) (I m) l p (vs (leafL b m1 l1)) (l1.length : Int)) R
  | [], l1, m1, m2, h1, h2, h3, h4 => by
    have hl1 : l = l1 := by rw [h1, List.append_nil]
    have hm1 : m2 = [] := by
      have e1 := congrArg List.length h2
      have e2 := congrArg List.length hl1
      rw [List.length_append] at e1
      exact List.length_eq_zero_iff.1 (by omega)
    have hm2 : m = m1 := by rw [h2, hm1, List.append_nil]
    have hfin := hfin (by rw [hl1]; exact h4)
    refine Ev.step (fun k => spec_ManyFrom.l0.eq_2 ..) (ev_neg (by rw [← hl1]; omega) ?_)
    rw [← hl1, ← hm2]
    exact hfin
  | x :: l2, l1, m1, m2, h1, h2, h3, h4 => by
    have e1 := congrArg List.length h1
    have e2 := congrArg List.length h2
    have e3 := asc_length hm
    simp only [List.length_append, List.length_cons] at e1 e2
    match m2, h2, e2 with
    | [], _, e2 => simp only [List.length_nil] at e2; omega
    | y :: m2, h2, e2 =>
      have hrx : Unit → rd_L2 l (l1.length : Int) = x := fun _ => by rw [h1]; exact rdB_at
      have hvl : (vs (leafL b m1 l1)).length = m1.length := by rw [vs_length, leafL_length b m1 l1 h3.symm]
      simp only [List.length_cons] at e2
      refine Ev.step (fun k => spec_ManyFrom.l0.eq_2 ..) (ev_pos (by omega) (ev_pos (by omega) ?_))
      rw [hrx ()]
      by_cases hx : x.length < 4000
      · have ih := spec_many_l0 hb many m hm l hl p R hbad hfin l2 (l1 ++ [x]) (m1 ++ [y]) m2 (by rw [h1]; simp) (by rw [h2]; simp) (by simp [h3]) (fun z hz => by
          rcases List.mem_append.1 hz with hz | hz
          · exact h4 z hz
          · rw [List.mem_singleton] at hz; subst hz; exact hx)
        rw [leafL_app b m1 [y] l1 [x] h3, List.length_append] at ih
        refine ev_neg (by omega) (ev_bind (spec_leaf b (by omega)) (ev_pos (by omega) ?_))
        rw [wr_succ (by omega)]
        have e : vs (leafL b m1 l1 ++ leafL b [y] [x]) = vs (leafL b m1 l1) ++ [Dig.digest b (0 :: x)] := List.map_append
        rw [e] at ih
        exact ih
      · rw [hbad (fun h => hx (h x (by rw [h1]; simp)))]
        exact ev_pos (by omega) (ev_ret rfl)
theorem spec_manyfrom (b many : Int) (at_ : List Int) (l : List (List Int)) (p : List Int) (ha : at_.length ≤ 1048576) (hl : l.length ≤ 1048576) : Ev (fun k => spec_ManyFrom.f k b many at_ l p) (manyFrom b many at_ l p) := by
  unfold spec_ManyFrom.f
  have hno : ∀ a : Bool, a = true → ¬ manyOk b many at_ l → Ev (fun k => spec_ManyFrom.j0 k b many at_ l p a) (manyFrom b many at_ l p) := by
    intro a ha h
    subst ha
    unfold manyFrom
    rw [if_neg h]
    exact Ev.step (fun k => spec_ManyFrom.j0.eq_2 ..) (ev_pos rfl (ev_ret rfl))
  refine ev_pure (spec_in_eq _ _ _) ?_
  by_cases hb : 2 ≤ b ∧ b ≤ 60
  · refine ev_pos (decide_eq_true hb) (ev_pure (spec_in_eq _ _ _) ?_)
    by_cases h1 : 1 ≤ many ∧ many ≤ 16
    · refine ev_pos (decide_eq_true h1) (ev_bind (spec_plc many ⟨by omega, by omega⟩ at_ ha) ?_)
      by_cases h2 : plcs many at_ = true
      · refine ev_pos h2 ?_
        by_cases h3 : l.length = at_.length
        · obtain ⟨n, rfl⟩ := Int.eq_ofNat_of_zero_le (by omega : 0 ≤ many)
          obtain ⟨m, rfl, hm⟩ := plcs_nat h2
          have hml := asc_length hm
          have hm16 : Asc 16 m := ⟨hm.1, fun x hx => by have := hm.2 x hx; omega⟩
          have hpos := plcs_pos h2
          have h3' := h3
          rw [I_length] at h3' hpos
          have hks := leafL_ks b m l h3'
          refine Ev.step (fun k => spec_ManyFrom.j0.eq_2 ..) (ev_neg (by rw [bne_iff_ne]; exact fun h => h (by omega)) ?_)
          refine spec_many_l0 hb n m hm16 l h3' p _ (fun hbad => ?_) (fun hs => ?_) l [] [] m rfl rfl rfl (fun z hz => (by cases hz))
          · unfold manyFrom
            exact if_neg (fun h => hbad h.2.2.2)
          · have hu : manyOk b (n : Int) (I m) l := ⟨⟨hb, h1⟩, h2, h3, hs⟩
            have hsr : Srt (leafL b m l) := by unfold Srt; rw [hks]; exact hm.1
            have hr := spec_many_l1 hb n (by omega) 15 n (leafL b m l) p (by omega) (by omega) (by omega) hsr (by rw [hks]; exact hm.2) (leafL_okd hb m l hs) (by intro e; rw [e] at hks; rw [← hks] at hpos; exact absurd hpos (by decide))
            rw [hks] at hr
            refine ev_eq hr ?_
            unfold manyFrom mway
            rw [if_pos hu, toNat_I, Int.toNat_natCast]
            generalize mups b (15 + 1) n (leafL b m l) p = o
            cases o with
            | none => rfl
            | some o => obtain ⟨i, r, y⟩ := o; rfl
        · exact hno _ (by rw [bne_iff_ne]; omega) (fun h => h3 h.2.2.1)
      · exact ev_neg h2 (hno _ rfl (fun h => h2 h.2.1))
    · exact ev_neg (by simp only [decide_eq_true_eq]; exact h1) (hno _ rfl (fun h => h1 h.1.2))
  · exact ev_neg (by simp only [decide_eq_true_eq]; exact hb) (hno _ rfl (fun h => hb h.1.1))
theorem strs_map (l : List Int) : (strOfNums l).toList = l.map (fun n => UInt8.ofNat n.toNat) := ByteArray.toList_mk _
/-- As the two programs compare two texts. -/
def same (p q : List Int) : Bool := (strOfNums p).toList == (strOfNums q).toList
theorem same_self (p : List Int) : same p p = true := by simp [same]
theorem same_imp (p : List Int) : ∀ q : List Int, (∀ x ∈ p, 0 ≤ x ∧ x < 256) → (∀ x ∈ q, 0 ≤ x ∧ x < 256) → same p q = true → p = q := by
  induction p with
  | nil =>
    intro q _ _ h
    cases q with
    | nil => rfl
    | cons y q => simp [same, strs_map] at h
  | cons x p ih =>
    intro q hp hq h
    cases q with
    | nil => simp [same, strs_map] at h
    | cons y q =>
      unfold same at h
      rw [strs_map, strs_map, List.map_cons, List.map_cons, beq_iff_eq, List.cons.injEq] at h
      obtain ⟨h1, h2⟩ := h
      have hx := hp x List.mem_cons_self
      have hy := hq y List.mem_cons_self
      have e : x.toNat = y.toNat := by
        have := congrArg UInt8.toNat h1
        simp only [UInt8.toNat_ofNat'] at this
        omega
      have exy : x = y := by omega
      subst exy
      rw [ih q (fun z hz => hp z (List.mem_cons_of_mem _ hz)) (fun z hz => hq z (List.mem_cons_of_mem _ hz)) (by unfold same; rw [strs_map, strs_map, beq_iff_eq]; exact h2)]
/-- The last of the first so many places where two lists of texts are unlike. -/
def lastU (p q : List (List Int)) : Nat → List Int × List Int × Bool
  | 0 => ([], [], false)
  | n + 1 => if same (p.getD n []) (q.getD n []) = true then lastU p q n else (p.getD n [], q.getD n [], true)
theorem lastU_self (p : List (List Int)) (n : Nat) : lastU p p n = ([], [], false) := by
  induction n with
  | zero => rfl
  | succ n ih =>
    unfold lastU
    rw [if_pos (same_self _), ih]
theorem impl_lastu_l0 (p q : List (List Int)) (hp : ∀ x ∈ p, x.length ≤ 1048576) (hq : ∀ x ∈ q, x.length ≤ 1048576) (hl : q.length = p.length) (n : Nat) (hn : n ≤ p.length) (hm : p.length ≤ 1000) : Ev (fun k => impl_lastUnlike.l0 k p q ((n : Int) - 1)) (lastU p q n) := by
  induction n with
  | zero => exact Ev.step (fun k => impl_lastUnlike.l0.eq_2 ..) (ev_neg (by omega) (ev_ret rfl))
  | succ n ih =>
    have e : ((n + 1 : Nat) : Int) - 1 = (n : Int) := by omega
    have e2 : wrap64 ((n : Int) - 1) = (n : Int) - 1 := wr (by omega) (by omega)
    have ep : rd_L2 p (n : Int) = p.getD n [] := by unfold rd_L2; rw [Int.toNat_natCast]
    have eq : rd_L2 q (n : Int) = q.getD n [] := by unfold rd_L2; rw [Int.toNat_natCast]
    have h1 : (p.getD n []).length ≤ 1048576 := by
      rw [List.getD_eq_getElem?_getD, List.getElem?_eq_getElem (by omega)]
      exact hp _ (List.getElem_mem _)
    have h2 : (q.getD n []).length ≤ 1048576 := by
      rw [List.getD_eq_getElem?_getD, List.getElem?_eq_getElem (by omega)]
      exact hq _ (List.getElem_mem _)
    rw [e]
    refine Ev.step (fun k => impl_lastUnlike.l0.eq_2 ..) (ev_pos (by omega) (ev_pos (by omega) (ev_pos (by omega) (ev_pos (by omega) ?_))))
    rw [ep, eq, e2]
    unfold lastU
    refine ev_pure (a := same (p.getD n []) (q.getD n [])) rfl ?_
    by_cases h : same (p.getD n []) (q.getD n []) = true
    · rw [if_pos h]
      exact ev_pos h (ih (by omega))
    · rw [if_neg h]
      refine ev_neg h (ev_pure (a := (p.getD n [], q.getD n [])) ?_ (ev_ret rfl))
      unfold impl_pairOf.f bytes_Clone.f
      rw [if_pos (by omega), if_pos (by omega)]
      rfl
theorem stepM_le (a : Nat) (q x : Int) : (stepIn a q x).length ≤ 17 := by
  by_cases h : a % 2 = 1
  · have e : stepIn a q x = nodeIn q x := if_pos h
    rw [e]
    exact nodeIn_le _ _
  · have e : stepIn a q x = nodeIn x q := if_neg h
    rw [e]
    exact nodeIn_le _ _
theorem solo_rows {b : Int} {n x : Nat} {d : Int} {p : List Int} {s} (h : solo b n x d p = some s) : ∀ z ∈ s.1, z.length ≤ 17 := by
  unfold solo at h
  split at h
  · match p, h with
    | q :: p, h =>
      simp only at h
      split at h
      · cases h
        intro z hz
        rw [List.mem_singleton] at hz
        subst hz
        exact stepM_le _ _ _
      · cases h
  · cases h
    intro z hz
    cases hz
theorem solo_same {b : Int} {n x : Nat} {d d' : Int} {p : List Int} {s s'} (h : solo b n x d p = some s) (h' : solo b n x d' p = some s') : s.1.length = s'.1.length ∧ s.2.2 = s'.2.2 := by
  unfold solo at h h'
  split at h
  · rename_i hb
    rw [if_pos hb] at h'
    match p, h, h' with
    | q :: p, h, h' =>
      simp only at h h'
      split at h
      · rename_i hq
        rw [if_pos hq] at h'
        cases h
        cases h'
        exact ⟨rfl, rfl⟩
      · cases h
  · rename_i hb
    rw [if_neg hb] at h'
    cases h
    cases h'
    exact ⟨rfl, rfl⟩
theorem lev_rows {b : Int} (n N : Nat) : ∀ (L : Pl) (p : List Int) (u), L.length ≤ N → lev b n L p = some u → ∀ z ∈ u.1, z.length ≤ 17 := by
  induction N with
  | zero =>
    intro L p u hN h
    have : L = [] := List.length_eq_zero_iff.1 (by omega)
    subst this
    rw [lev_nil] at h
    cases h
    intro z hz
    cases hz
  | succ N ih =>
    intro L p u hN h
    rcases pl_cases L with rfl | ⟨x, d, e, t, rfl, hx⟩ | ⟨x, d, t, rfl, hh⟩
    · rw [lev_nil] at h
      cases h
      intro z hz
      cases hz
    · rw [lev_pair b n x d e t p hx] at h
      obtain ⟨u', h', rfl⟩ := Option.map_eq_some_iff.1 h
      simp only [List.length_cons] at hN
      intro z hz
      rcases List.mem_cons.1 hz with rfl | hz
      · exact nodeIn_le _ _
      · exact ih t p u' (by omega) h' z hz
    · rw [lev_solo b n x d t p hh] at h
      obtain ⟨s, hs', h⟩ := Option.bind_eq_some_iff.1 h
      obtain ⟨u', h', rfl⟩ := Option.map_eq_some_iff.1 h
      simp only [List.length_cons] at hN
      intro z hz
      rcases List.mem_append.1 hz with hz | hz
      · exact solo_rows hs' z hz
      · exact ih t s.2.2 u' (by omega) h' z hz
theorem lev_same {b : Int} (n N : Nat) : ∀ (L L' : Pl) (p : List Int) (u u'), L.length ≤ N → ks L = ks L' → lev b n L p = some u → lev b n L' p = some u' → u.1.length = u'.1.length ∧ u.2.2 = u'.2.2 ∧ ks u.2.1 = ks u'.2.1 := by
  induction N with
  | zero =>
    intro L L' p u u' hN hk h h'
    have : L = [] := List.length_eq_zero_iff.1 (by omega)
    subst this
    have : L' = [] := by
      match L', hk with
      | [], _ => rfl
    subst this
    rw [lev_nil] at h h'
    cases h
    cases h'
    exact ⟨rfl, rfl, rfl⟩
  | succ N ih =>
    intro L L' p u u' hN hk h h'
    rcases pl_cases L with rfl | ⟨x, d, e, t, rfl, hx⟩ | ⟨x, d, t, rfl, hh⟩
    · have : L' = [] := by
        match L', hk with
        | [], _ => rfl
      subst this
      rw [lev_nil] at h h'
      cases h
      cases h'
      exact ⟨rfl, rfl, rfl⟩
    · match L', hk with
      | (x', d') :: (y', e') :: t', hk =>
        rw [ks_cons, ks_cons, ks_cons, ks_cons] at hk
        injection hk with k1 hk
        injection hk with k2 k3
        subst k1
        subst k2
        rw [lev_pair b n x d e t p hx] at h
        rw [lev_pair b n x d' e' t' p hx] at h'
        obtain ⟨v, hv, rfl⟩ := Option.map_eq_some_iff.1 h
        obtain ⟨v', hv', rfl⟩ := Option.map_eq_some_iff.1 h'
        simp only [List.length_cons] at hN
        obtain ⟨i1, i2, i3⟩ := ih t t' p v v' (by omega) k3 hv hv'
        exact ⟨by simp only [List.length_cons, i1], i2, by rw [ks_cons, ks_cons, i3]⟩
    · match L', hk with
      | (x', d') :: t', hk =>
        rw [ks_cons, ks_cons] at hk
        injection hk with k1 k2
        subst k1
        have hh' : ∀ z ∈ t'.head?, ¬ (x % 2 = 0 ∧ z.1 = x + 1) := by
          intro z hz
          match t, t', k2, hh, hz with
          | (y, e) :: t, (y', e') :: t', k2, hh, hz =>
            cases hz
            rw [ks_cons, ks_cons] at k2
            injection k2 with k4 _
            have := hh (y, e) rfl
            rw [← k4]
            exact this
          | _, [], _, _, hz => cases hz
          | [], (y', e') :: t', k2, _, _ => cases k2
        rw [lev_solo b n x d t p hh] at h
        rw [lev_solo b n x d' t' p hh'] at h'
        obtain ⟨s, hs, h⟩ := Option.bind_eq_some_iff.1 h
        obtain ⟨s', hs', h'⟩ := Option.bind_eq_some_iff.1 h'
        obtain ⟨v, hv, rfl⟩ := Option.map_eq_some_iff.1 h
        obtain ⟨v', hv', rfl⟩ := Option.map_eq_some_iff.1 h'
        obtain ⟨j1, j2⟩ := solo_same hs hs'
        rw [← j2] at hv'
        simp only [List.length_cons] at hN
        obtain ⟨i1, i2, i3⟩ := ih t t' s.2.2 v v' (by omega) k2 hv hv'
        exact ⟨by simp only [List.length_append, i1, j1], i2, by rw [ks_cons, ks_cons, i3]⟩
theorem mups_rows {b : Int} (k : Nat) : ∀ (n : Nat) (L : Pl) (p : List Int) (v), mups b k n L p = some v → ∀ z ∈ v.1, z.length ≤ 17 := by
  induction k with
  | zero => intro n L p v h; unfold mups at h; cases h; intro z hz; cases hz
  | succ k ih =>
    intro n L p v h
    unfold mups at h
    split at h
    · obtain ⟨u, hu, h⟩ := Option.bind_eq_some_iff.1 h
      obtain ⟨w, hw, rfl⟩ := Option.map_eq_some_iff.1 h
      intro z hz
      rcases List.mem_append.1 hz with hz | hz
      · exact lev_rows n L.length L p u (Nat.le_refl _) hu z hz
      · exact ih _ _ _ _ hw z hz
    · cases h
      intro z hz
      cases hz
theorem mups_same {b : Int} (k : Nat) : ∀ (n : Nat) (L L' : Pl) (p : List Int) (v v'), ks L = ks L' → mups b k n L p = some v → mups b k n L' p = some v' → v.1.length = v'.1.length := by
  induction k with
  | zero => intro n L L' p v v' _ h h'; unfold mups at h h'; cases h; cases h'; rfl
  | succ k ih =>
    intro n L L' p v v' hk h h'
    unfold mups at h h'
    split at h
    · rename_i hn
      rw [if_pos hn] at h'
      obtain ⟨u, hu, h⟩ := Option.bind_eq_some_iff.1 h
      obtain ⟨w, hw, rfl⟩ := Option.map_eq_some_iff.1 h
      obtain ⟨u', hu', h'⟩ := Option.bind_eq_some_iff.1 h'
      obtain ⟨w', hw', rfl⟩ := Option.map_eq_some_iff.1 h'
      obtain ⟨i1, i2, i3⟩ := lev_same n L.length L L' p u u' (Nat.le_refl _) hk hu hu'
      rw [← i2] at hw'
      have := ih _ _ _ _ _ _ i3 hw hw'
      simp only [List.length_append, i1, this]
    · rename_i hn
      rw [if_neg hn] at h'
      cases h
      cases h'
      rfl
theorem manyOk_len {b many : Int} {at_ : List Int} {l : List (List Int)} (h : manyOk b many at_ l) : l.length ≤ 16 := by
  obtain ⟨h1, h2, h3, h4⟩ := h
  obtain ⟨n, rfl⟩ := Int.eq_ofNat_of_zero_le (by omega : 0 ≤ many)
  obtain ⟨m, rfl, hm⟩ := plcs_nat h2
  have := asc_length hm
  rw [I_length] at h3
  omega
theorem climbedM_facts (b many : Int) (at_ : List Int) (l : List (List Int)) (p : List Int) :
    ((climbedM b many at_ l p).1.length ≤ 300 ∧ ∀ z ∈ (climbedM b many at_ l p).1, z.length ≤ 4000) ∧ (((climbedM b many at_ l p).2 = true ∧ 0 ≤ manyFrom b many at_ l p) ∨ ((climbedM b many at_ l p).2 = false ∧ manyFrom b many at_ l p = -1)) := by
  unfold climbedM manyFrom
  by_cases hu : manyOk b many at_ l
  · have hb := hu.1.1
    have hbl := fun i r y => @bad_left b hb many at_ l p hu i r y
    have hl := manyOk_len hu
    have hrow := fun v => @mups_rows b 16 many.toNat (leafL b (at_.map Int.toNat) l) p v
    rw [if_pos hu]
    change ∀ v, mway b many at_ l p = some v → _ at hrow
    generalize mway b many at_ l p = o at hbl hrow
    by_cases h5 : ∀ q ∈ p, okd b q
    · have hc : manyOk b many at_ l ∧ ∀ q ∈ p, okd b q := ⟨hu, h5⟩
      rw [if_pos hc]
      cases o with
      | none => exact ⟨⟨Nat.zero_le _, fun z hz => (by cases hz)⟩, .inr ⟨rfl, rfl⟩⟩
      | some o =>
        obtain ⟨i, r, y⟩ := o
        have hi := (hbl i r y rfl).1
        have hr := hrow _ rfl
        have ht := topIn_le many.toNat y
        simp only at hr ⊢
        refine ⟨⟨by simp only [List.length_append, List.length_map, List.length_singleton]; omega, fun z hz => ?_⟩, ?_⟩
        · rcases List.mem_append.1 hz with hz | hz
          · obtain ⟨x, hx, rfl⟩ := List.mem_map.1 hz
            have := hu.2.2.2 x hx
            simp only [List.length_cons]
            omega
          · rcases List.mem_append.1 hz with hz | hz
            · have := hr z hz; omega
            · rw [List.mem_singleton.1 hz]; omega
        · by_cases he : r = []
          · rw [if_pos he]
            exact .inl ⟨decide_eq_true he, (Dig.digest_range hb.1 hb.2 (by omega)).1⟩
          · rw [if_neg he]
            exact .inr ⟨decide_eq_false he, rfl⟩
    · have hc : ¬ (manyOk b many at_ l ∧ ∀ q ∈ p, okd b q) := fun h => h5 h.2
      rw [if_neg hc]
      refine ⟨⟨Nat.zero_le _, fun z hz => (by cases hz)⟩, .inr ⟨rfl, ?_⟩⟩
      cases o with
      | none => rfl
      | some o =>
        obtain ⟨i, r, y⟩ := o
        simp only []
        exact if_neg ((hbl i r y rfl).2 h5)
  · have hc : ¬ (manyOk b many at_ l ∧ ∀ q ∈ p, okd b q) := fun h => hu h.1
    rw [if_neg hu, if_neg hc]
    exact ⟨⟨Nat.zero_le _, fun z hz => (by cases hz)⟩, .inr ⟨rfl, rfl⟩⟩
/-- What a way up that is right is made of. -/
theorem climbedM_true {b many : Int} {at_ : List Int} {l : List (List Int)} {p : List Int} (h : (climbedM b many at_ l p).2 = true) : manyOk b many at_ l ∧ (∀ q ∈ p, okd b q) ∧ ∃ i y, mway b many at_ l p = some (i, [], y) ∧ (climbedM b many at_ l p).1 = l.map (fun x => 0 :: x) ++ (i ++ [topIn many.toNat y]) := by
  unfold climbedM at h ⊢
  by_cases hc : manyOk b many at_ l ∧ ∀ q ∈ p, okd b q
  · rw [if_pos hc] at h ⊢
    generalize mway b many at_ l p = o at h
    cases o with
    | none => cases h
    | some o =>
      obtain ⟨i, r, y⟩ := o
      simp only at h
      obtain rfl := of_decide_eq_true h
      exact ⟨hc.1, hc.2, i, y, rfl, rfl⟩
  · rw [if_neg hc] at h
    cases h
theorem climbedM_len {b many : Int} {at_ : List Int} {l l' : List (List Int)} {p : List Int} (h : (climbedM b many at_ l p).2 = true) (h' : (climbedM b many at_ l' p).2 = true) : (climbedM b many at_ l' p).1.length = (climbedM b many at_ l p).1.length := by
  obtain ⟨h1, _, i, y, h2, h3⟩ := climbedM_true h
  obtain ⟨h1', _, i', y', h2', h3'⟩ := climbedM_true h'
  have e : l.length = l'.length := h1.2.2.1.trans h1'.2.2.1.symm
  have hm : (at_.map Int.toNat).length = at_.length := List.length_map _
  have hk : ks (leafL b (at_.map Int.toNat) l) = ks (leafL b (at_.map Int.toNat) l') := by
    rw [leafL_ks b _ l (by rw [hm]; exact h1.2.2.1), leafL_ks b _ l' (by rw [hm]; exact h1'.2.2.1)]
  have := mups_same 16 _ _ _ p _ _ hk h2 h2'
  simp only at this
  rw [h3, h3']
  simp only [List.length_append, List.length_map, List.length_singleton, this, e]
/-- FromMany's answer. -/
def fromMany (b many : Int) (at_ : List Int) (x y : List (List Int)) (p : List Int) : List Int × List Int × Bool :=
  if (climbedM b many at_ x p).2 = true ∧ (climbedM b many at_ y p).2 = true ∧ manyFrom b many at_ x p = manyFrom b many at_ y p then lastU (climbedM b many at_ x p).1 (climbedM b many at_ y p).1 (climbedM b many at_ x p).1.length else ([], [], false)
theorem lastU_le (p q : List (List Int)) (hp : ∀ z ∈ p, z.length ≤ 4000) (hq : ∀ z ∈ q, z.length ≤ 4000) (n : Nat) : (lastU p q n).1.length ≤ 4000 ∧ (lastU p q n).2.1.length ≤ 4000 := by
  have hd : ∀ (l : List (List Int)), (∀ z ∈ l, z.length ≤ 4000) → ∀ n, (l.getD n []).length ≤ 4000 := by
    intro l hl n
    rw [List.getD_eq_getElem?_getD]
    by_cases h : n < l.length
    · rw [List.getElem?_eq_getElem h]
      exact hl _ (List.getElem_mem h)
    · rw [List.getElem?_eq_none (by omega)]
      exact Nat.zero_le _
  induction n with
  | zero => exact ⟨Nat.zero_le _, Nat.zero_le _⟩
  | succ n ih =>
    unfold lastU
    split
    · exact ih
    · exact ⟨hd p hp n, hd q hq n⟩
theorem fromMany_le (b many : Int) (at_ : List Int) (x y : List (List Int)) (p : List Int) : (fromMany b many at_ x y p).1.length ≤ 4000 ∧ (fromMany b many at_ x y p).2.1.length ≤ 4000 := by
  unfold fromMany
  split
  · exact lastU_le _ _ (climbedM_facts b many at_ x p).1.2 (climbedM_facts b many at_ y p).1.2 _
  · exact ⟨Nat.zero_le _, Nat.zero_le _⟩
theorem impl_frommany (b many : Int) (at_ : List Int) (x y : List (List Int)) (p : List Int) (ha : at_.length ≤ 1048576) (hx : x.length ≤ 1048576) (hy : y.length ≤ 1048576) : Ev (fun k => impl_FromMany.f k b many at_ x y p) (fromMany b many at_ x y p) := by
  unfold impl_FromMany.f fromMany
  refine ev_bind (impl_climbM b many at_ x p ha) (ev_bind (impl_climbM b many at_ y p ha) ?_)
  have f1 := climbedM_facts b many at_ x p
  have f2 := climbedM_facts b many at_ y p
  have l1 := impl_lastofM b many at_ x p hx
  have l2 := impl_lastofM b many at_ y p hy
  have hlen := @climbedM_len b many at_ x y p
  generalize climbedM b many at_ x p = r1 at f1 l1 hlen ⊢
  generalize climbedM b many at_ y p = r2 at f2 l2 hlen ⊢
  generalize manyFrom b many at_ x p = d1 at f1 l1 ⊢
  generalize manyFrom b many at_ y p = d2 at f2 l2 ⊢
  by_cases h1 : r1.2 = true
  · refine ev_pos h1 ?_
    by_cases h2 : r2.2 = true
    · rw [h1] at l1
      rw [h2] at l2
      refine ev_pos h2 (ev_pure l1 (ev_pure l2 ?_))
      by_cases h3 : d1 = d2
      · rw [if_pos ⟨h1, h2, h3⟩]
        refine ev_pos h3 ?_
        have hl := hlen h1 h2
        have hn := f1.1.1
        have e : wrap64 ((r1.1.length : Int) - 1) = (r1.1.length : Int) - 1 := wr (by omega) (by omega)
        have hu := impl_lastu_l0 r1.1 r2.1 (fun z hz => by have := f1.1.2 z hz; omega) (fun z hz => by have := f2.1.2 z hz; omega) hl r1.1.length (Nat.le_refl _) (by omega)
        refine ev_bind (a := lastU r1.1 r2.1 r1.1.length) ?_ (ev_ret rfl)
        unfold impl_lastUnlike.f
        rw [e]
        exact hu
      · rw [if_neg (fun h => h3 h.2.2)]
        exact ev_neg h3 (ev_ret rfl)
    · rw [if_neg (fun h => h2 h.2.1)]
      exact ev_neg h2 (ev_ret rfl)
  · rw [if_neg (fun h => h1 h.1)]
    exact ev_neg h1 (ev_ret rfl)
theorem spec_inlev {b : Int} (hb : 2 ≤ b ∧ b ≤ 60) (many : Int) (n : Nat) (h1n : 1 < n) (h16 : n ≤ 16) (L : Pl) (hs : Srt L) (hn : ∀ x ∈ ks L, x < n) (hv : ∀ z ∈ L, okd b z.2) (R : List (List Int)) (r : Nat) : ∀ (q : Nat) (pre suf : Pl) (p : List Int) (out : List (List Int)) (nx : List Nat) (ys : List Int) (u), q + r = (n + 1) / 2 → L = pre ++ suf →
    (∀ a ∈ ks pre, a < 2 * q) → (∀ c ∈ ks suf, 2 * q ≤ c) → nx.length ≤ q → ys.length ≤ q → out.length + suf.length ≤ 1000 → lev b n suf p = some u →
    Ev (fun k => spec_l3Many.l1 k b many (I (nx ++ ks u.2.1)) u.2.2 (out ++ u.1) (ys ++ vs u.2.1) (((n + 1) / 2 : Nat) : Int)) R →
    Ev (fun k => spec_l3Many.l2 k b many (I (ks L)) p out (vs L) (n : Int) (I nx) ys (2 * (q : Int))) R := by
  have hlen := asc_length (asc_of hs hn)
  have hkl := ks_length L
  have hvl := vs_length L
  have en1 : Unit → wrap64 ((n : Int) + 1) = ((n + 1 : Nat) : Int) := fun _ => wr_succ (by omega)
  have en2 : Unit → wrap64 (Int.tdiv ((n + 1 : Nat) : Int) 2) = (((n + 1) / 2 : Nat) : Int) := fun _ => half_nat (n + 1) (by omega)
  induction r with
  | zero =>
    intro q pre suf p out nx ys u hq hL hpre hsuf hnx hys ho hlev hf
    have : suf = [] := by
      match suf, hsuf with
      | [], _ => rfl
      | (x, d) :: t, hsuf =>
        have h1 := hsuf x (by rw [ks_cons]; exact List.mem_cons_self)
        have h2 := hn x (by rw [hL, ks_append, ks_cons]; simp)
        omega
    subst this
    rw [lev_nil] at hlev
    cases hlev
    have e : I (nx ++ ks ([] : Pl)) = I nx := congrArg I (List.append_nil nx)
    have e' : ys ++ vs ([] : Pl) = ys := List.append_nil ys
    simp only at hf
    rw [e, e', List.append_nil] at hf
    refine Ev.step (fun k => spec_l3Many.l2.eq_2 ..) (ev_neg (by omega) ?_)
    rw [en1 (), en2 ()]
    exact hf
  | succ r ih =>
    intro q pre suf p out nx ys u hq hL hpre hsuf hnx hys ho hlev hf
    have hnl := I_length nx
    have e0 : 2 * (q : Int) = ((2 * q : Nat) : Int) := by omega
    have e1 : Unit → wrap64 (((2 * q : Nat) : Int) + 1) = ((2 * q + 1 : Nat) : Int) := fun _ => wr_succ (by omega)
    have e2 : Unit → wrap64 (((2 * q : Nat) : Int) + 2) = 2 * ((q + 1 : Nat) : Int) := fun _ => by rw [wr (by omega) (by omega)]; omega
    have eh : Unit → wrap64 (Int.tdiv ((2 * q : Nat) : Int) 2) = (q : Int) := fun _ => by rw [half_nat (2 * q) (by omega)]; omega
    have h2n : ((2 * q : Nat) : Int) < (n : Int) := by omega
    rw [e0]
    rcases pl_cases suf with rfl | ⟨x, d, e, t, rfl, hx⟩ | ⟨x, d, t, rfl, hh⟩
    · have hLp : L = pre := by rw [hL, List.append_nil]
      have hR := ih (q + 1) pre [] p out nx ys u (by omega) hL (fun a ha => by have := hpre a ha; omega) (fun c hc => by cases hc) (by omega) (by omega) ho hlev hf
      have m1 := spec_miss (m := ks L) (by omega) (2 * q) (by rw [hLp]; exact fun h => by have := hpre _ h; omega)
      have m2 := spec_miss (m := ks L) (by omega) (2 * q + 1) (by rw [hLp]; exact fun h => by have := hpre _ h; omega)
      refine Ev.step (fun k => spec_l3Many.l2.eq_2 ..) (ev_pos h2n ?_)
      rw [e1 ()]
      refine ev_bind m1 (ev_bind m2 (ev_pos (by decide) (Ev.step (fun k => spec_l3Many.j3.eq_2 ..) (ev_pos (by decide) ?_))))
      rw [e2 ()]
      exact hR
    · have hsd : Srt ((x, d) :: (x + 1, e) :: t) := by
        have := hs; unfold Srt at this ⊢; rw [hL, ks_append, List.pairwise_append] at this; exact this.2.1
      obtain ⟨g1, g2⟩ := srt_pair hsd hx
      have hxq := hsuf x (by rw [ks_cons]; exact List.mem_cons_self)
      have hlt : pre.length + 2 ≤ L.length := by rw [hL]; simp only [List.length_append, List.length_cons]; omega
      by_cases hxe : x = 2 * q
      · subst hxe
        have hd : okd b d := hv (2 * q, d) (by rw [hL]; simp)
        have he : okd b e := hv (2 * q + 1, e) (by rw [hL]; simp)
        have hx1 : 2 * q + 1 < n := hn _ (by rw [hL, ks_append, ks_cons, ks_cons]; simp)
        have hL2 : L = (pre ++ [(2 * q, d)]) ++ (2 * q + 1, e) :: t := by rw [hL]; simp
        have m1 := spec_hit (m := ks L) (by omega) (2 * q) (ks pre) (ks ((2 * q + 1, e) :: t)) (by rw [hL, ks_append, ks_cons]) (fun h => by have := hpre _ h; omega)
        have m2 := spec_hit (m := ks L) (by omega) (2 * q + 1) (ks (pre ++ [(2 * q, d)])) (ks t) (by rw [hL2, ks_append, ks_cons]) (fun h => by
          rw [ks_append, List.mem_append] at h
          rcases h with h | h
          · have := hpre _ h; omega
          · simp only [ks, List.map_cons, List.map_nil, List.mem_singleton] at h; omega)
        rw [ks_length] at m1
        rw [ks_length, List.length_append, List.length_singleton] at m2
        have r1 : Unit → rd (vs L) (pre.length : Int) = d := fun _ => by rw [hL]; exact vs_at
        have r2 : Unit → rd (vs L) ((pre.length + 1 : Nat) : Int) = e := fun _ => by
          have := vs_at (pre := pre ++ [(2 * q, d)]) (x := 2 * q + 1) (d := e) (t := t)
          rw [List.length_append, List.length_singleton] at this
          rw [hL2]; exact this
        rw [lev_pair b n (2 * q) d e t p (by omega)] at hlev
        obtain ⟨v, hlv, rfl⟩ := Option.map_eq_some_iff.1 hlev
        simp only [List.length_cons] at ho
        have hR := ih (q + 1) (pre ++ [(2 * q, d), (2 * q + 1, e)]) t p (out ++ [nodeIn d e]) (nx ++ [q]) (ys ++ [Dig.digest b (nodeIn d e)]) v (by omega) (by rw [hL]; simp) (fun a ha => by
          rw [ks_append, List.mem_append] at ha
          rcases ha with ha | ha
          · have := hpre a ha; omega
          · simp only [ks, List.map_cons, List.map_nil, List.mem_cons, List.not_mem_nil, or_false] at ha
            rcases ha with rfl | rfl <;> omega) (fun c hc => by have := g1 c hc; omega) (by rw [List.length_append, List.length_singleton]; omega) (by rw [List.length_append, List.length_singleton]; omega) (by rw [List.length_append, List.length_singleton]; omega) hlv (by
          simp only at hf
          rw [ks_cons, vs_cons, show 2 * q / 2 = q by omega] at hf
          rw [List.append_assoc, List.append_assoc, List.append_assoc]
          exact hf)
        refine Ev.step (fun k => spec_l3Many.l2.eq_2 ..) (ev_pos h2n ?_)
        rw [e1 ()]
        refine ev_bind m1 (ev_bind m2 (ev_neg (by omega) (Ev.step (fun k => spec_l3Many.j3.eq_2 ..) (ev_neg (by decide) (ev_pos (by omega) (ev_some ?_))))))
        rw [e1 (), eh (), I_snoc]
        refine ev_neg (by omega) (ev_neg (by omega) (Ev.step (fun k => spec_l3Many.j4.eq_2 ..) (ev_neg (by rw [decide_eq_false (by omega)]; decide) (Ev.step (fun k => spec_l3Many.j5.eq_2 ..) (ev_pos (by omega) (ev_pos (by omega) (ev_pos (by omega) (Ev.step (fun k => spec_l3Many.j6.eq_2 ..) (ev_pos (by omega) (ev_pos (by omega) (ev_pos (by omega) ?_)))))))))))
        rw [r1 (), r2 (), e2 ()]
        exact ev_bind (spec_nodein (okd_le hd).2 (okd_le he).2) (ev_pos (by omega) (ev_bind (spec_digest b _) (ev_pos (by omega) hR)))
      · have hxo : 2 * q + 2 ≤ x := by omega
        have hmem : ∀ z, z ∈ ks ((x, d) :: (x + 1, e) :: t) → 2 * q + 2 ≤ z := by
          intro z hz
          rw [ks_cons] at hz
          rcases List.mem_cons.1 hz with rfl | hz
          · exact hxo
          · have := (srt_cons hsd).1 z hz; omega
        have hR := ih (q + 1) pre _ p out nx ys u (by omega) hL (fun a ha => by have := hpre a ha; omega) (fun c hc => by have := hmem c hc; omega) (by omega) (by omega) ho hlev hf
        have hno : ∀ z, z < 2 * q + 2 → 2 * q ≤ z → z ∉ ks L := by
          intro z h1 h2 h3
          rw [hL, ks_append, List.mem_append] at h3
          rcases h3 with h3 | h3
          · have := hpre z h3; omega
          · have := hmem z h3; omega
        have m1 := spec_miss (m := ks L) (by omega) (2 * q) (hno _ (by omega) (by omega))
        have m2 := spec_miss (m := ks L) (by omega) (2 * q + 1) (hno _ (by omega) (by omega))
        refine Ev.step (fun k => spec_l3Many.l2.eq_2 ..) (ev_pos h2n ?_)
        rw [e1 ()]
        refine ev_bind m1 (ev_bind m2 (ev_pos (by decide) (Ev.step (fun k => spec_l3Many.j3.eq_2 ..) (ev_pos (by decide) ?_))))
        rw [e2 ()]
        exact hR
    · have hsd : Srt ((x, d) :: t) := by
        have := hs; unfold Srt at this ⊢; rw [hL, ks_append, List.pairwise_append] at this; exact this.2.1
      have g1 := srt_solo hsd hh
      have hxq := hsuf x (by rw [ks_cons]; exact List.mem_cons_self)
      have hxn : x < n := hn _ (by rw [hL, ks_append, ks_cons]; simp)
      have hd : okd b d := hv (x, d) (by rw [hL]; simp)
      have hlt : pre.length + 1 ≤ L.length := by rw [hL]; simp only [List.length_append, List.length_cons]; omega
      have r1 : Unit → rd (vs L) (pre.length : Int) = d := fun _ => by rw [hL]; exact vs_at
      by_cases hxe : x / 2 = q
      · have hother : ∀ z, z ≠ x → 2 * q ≤ z → z < 2 * q + 2 → z ∉ ks L := by
          intro z h1 h2 h3 h4
          rw [hL, ks_append, ks_cons, List.mem_append, List.mem_cons] at h4
          rcases h4 with h4 | h4 | h4
          · have := hpre z h4; omega
          · exact h1 h4
          · have := g1 z h4; omega
        have mx := spec_hit (m := ks L) (by omega) x (ks pre) (ks t) (by rw [hL, ks_append, ks_cons]) (fun h => by have := hpre _ h; omega)
        rw [ks_length] at mx
        rw [lev_solo b n x d t p hh] at hlev
        obtain ⟨s, hso, hlev⟩ := Option.bind_eq_some_iff.1 hlev
        obtain ⟨v, hlv, rfl⟩ := Option.map_eq_some_iff.1 hlev
        have hs1 := (solo_facts hb hd hso).2.1
        simp only [List.length_cons] at ho
        have hR := ih (q + 1) (pre ++ [(x, d)]) t s.2.2 (out ++ s.1) (nx ++ [q]) (ys ++ [s.2.1]) v (by omega) (by rw [hL]; simp) (fun a ha => by
            rw [ks_append, List.mem_append] at ha
            rcases ha with ha | ha
            · have := hpre a ha; omega
            · simp only [ks, List.map_cons, List.map_nil, List.mem_singleton] at ha; omega) (fun c hc => by have := g1 c hc; omega) (by rw [List.length_append, List.length_singleton]; omega) (by rw [List.length_append, List.length_singleton]; omega) (by rw [List.length_append]; omega) hlv (by
          simp only at hf
          rw [ks_cons, vs_cons, hxe] at hf
          rw [List.append_assoc, List.append_assoc, List.append_assoc]
          exact hf)
        by_cases hxev : x % 2 = 0
        · have hx2 : x = 2 * q := by omega
          subst hx2
          have m2 := spec_miss (m := ks L) (by omega) (2 * q + 1) (hother _ (by omega) (by omega) (by omega))
          have hbes : beside (2 * q) = 2 * q + 1 := if_pos hxev
          have est : ∀ q', stepIn (2 * q) q' d = nodeIn d q' := fun q' => if_neg (by omega)
          refine Ev.step (fun k => spec_l3Many.l2.eq_2 ..) (ev_pos h2n ?_)
          rw [e1 ()]
          refine ev_bind mx (ev_bind m2 (ev_neg (by omega) (Ev.step (fun k => spec_l3Many.j3.eq_2 ..) (ev_neg (by decide) (ev_pos (by omega) (ev_some ?_))))))
          rw [e1 (), eh (), I_snoc]
          unfold solo at hso
          rw [hbes] at hso
          by_cases hl : 2 * q + 1 = n
          · rw [if_neg (by omega)] at hso
            cases hso
            rw [List.append_nil] at hR
            rw [r1 (), e2 ()]
            exact ev_pos (by omega) (ev_pos (by omega) (ev_pos (by omega) (ev_pos (by omega) hR)))
          · rw [if_pos (by omega)] at hso
            match p, hso with
            | q' :: p', hso =>
              simp only at hso
              by_cases hq : okd b q'
              · rw [if_pos hq] at hso
                cases hso
                have eq0 : rd (q' :: p') 0 = q' := rfl
                have ed0 : (q' :: p').drop 1 = p' := rfl
                refine ev_neg (by omega) (ev_neg (by omega) (Ev.step (fun k => spec_l3Many.j4.eq_2 ..) (ev_pos (by decide) (ev_pos (by simp only [List.length_cons]; omega) (ev_pos (by simp only [List.length_cons]; omega) (Ev.step (fun k => spec_l3Many.j5.eq_2 ..) (ev_pos (by omega) (ev_pos (by omega) (ev_pos (by omega) (Ev.step (fun k => spec_l3Many.j6.eq_2 ..) (ev_neg (by decide) ?_)))))))))))
                rw [r1 (), eq0, ed0, e2 ()]
                simp only [est q'] at hR
                exact ev_bind (spec_nodein (okd_le hd).2 (okd_le hq).2) (ev_pos (by omega) (ev_bind (spec_digest b _) (ev_pos (by omega) hR)))
              · rw [if_neg hq] at hso
                cases hso
        · have hx2 : x = 2 * q + 1 := by omega
          subst hx2
          have m2 := spec_miss (m := ks L) (by omega) (2 * q) (hother _ (by omega) (by omega) (by omega))
          have hbes : beside (2 * q + 1) = 2 * q := if_neg hxev
          have est : ∀ q', stepIn (2 * q + 1) q' d = nodeIn q' d := fun q' => if_pos (by omega)
          refine Ev.step (fun k => spec_l3Many.l2.eq_2 ..) (ev_pos h2n ?_)
          rw [e1 ()]
          refine ev_bind m2 (ev_bind mx (ev_pos (by decide) (Ev.step (fun k => spec_l3Many.j3.eq_2 ..) (ev_neg (by rw [decide_eq_false (by omega)]; decide) (ev_pos (by omega) (ev_some ?_))))))
          rw [e1 (), eh (), I_snoc]
          unfold solo at hso
          rw [hbes, if_pos (by omega)] at hso
          match p, hso with
          | q' :: p', hso =>
            simp only at hso
            by_cases hq : okd b q'
            · rw [if_pos hq] at hso
              cases hso
              have eq0 : rd (q' :: p') 0 = q' := rfl
              have ed0 : (q' :: p').drop 1 = p' := rfl
              refine ev_neg (by omega) (ev_pos (by decide) (Ev.step (fun k => spec_l3Many.j4.eq_2 ..) (ev_pos rfl (ev_pos (by simp only [List.length_cons]; omega) (ev_pos (by simp only [List.length_cons]; omega) (Ev.step (fun k => spec_l3Many.j5.eq_2 ..) (ev_neg (by decide) (Ev.step (fun k => spec_l3Many.j6.eq_2 ..) (ev_pos (by omega) (ev_pos (by omega) (ev_pos (by omega) ?_)))))))))))
              rw [r1 (), eq0, ed0, e2 ()]
              simp only [est q'] at hR
              exact ev_bind (spec_nodein (okd_le hq).2 (okd_le hd).2) (ev_pos (by omega) (ev_bind (spec_digest b _) (ev_pos (by omega) hR)))
            · rw [if_neg hq] at hso
              cases hso
      · have hxo : 2 * q + 2 ≤ x := by omega
        have hmem : ∀ z, z ∈ ks ((x, d) :: t) → 2 * q + 2 ≤ z := by
          intro z hz
          rw [ks_cons] at hz
          rcases List.mem_cons.1 hz with rfl | hz
          · exact hxo
          · have := (srt_cons hsd).1 z hz; omega
        have hR := ih (q + 1) pre _ p out nx ys u (by omega) hL (fun a ha => by have := hpre a ha; omega) (fun c hc => by have := hmem c hc; omega) (by omega) (by omega) ho hlev hf
        have hno : ∀ z, z < 2 * q + 2 → 2 * q ≤ z → z ∉ ks L := by
          intro z h1 h2 h3
          rw [hL, ks_append, List.mem_append] at h3
          rcases h3 with h3 | h3
          · have := hpre z h3; omega
          · have := hmem z h3; omega
        have m1 := spec_miss (m := ks L) (by omega) (2 * q) (hno _ (by omega) (by omega))
        have m2 := spec_miss (m := ks L) (by omega) (2 * q + 1) (hno _ (by omega) (by omega))
        refine Ev.step (fun k => spec_l3Many.l2.eq_2 ..) (ev_pos h2n ?_)
        rw [e1 ()]
        refine ev_bind m1 (ev_bind m2 (ev_pos (by decide) (Ev.step (fun k => spec_l3Many.j3.eq_2 ..) (ev_pos (by decide) ?_))))
        rw [e2 ()]
        exact hR
theorem spec_in_l1 {b : Int} (hb : 2 ≤ b ∧ b ≤ 60) (many : Nat) (hm : many ≤ 16) (K : Nat) : ∀ (n : Nat) (L : Pl) (p : List Int) (out : List (List Int)) (v), n ≤ K + 1 → 1 ≤ n → n ≤ 16 → Srt L → (∀ x ∈ ks L, x < n) → (∀ z ∈ L, okd b z.2) → L ≠ [] → out.length + 16 * K ≤ 500 → mups b (K + 1) n L p = some v →
    Ev (fun k => spec_l3Many.l1 k b (many : Int) (I (ks L)) p out (vs L) (n : Int)) (out ++ (v.1 ++ [topIn many v.2.2])) := by
  have hend : ∀ (L : Pl) (p : List Int) (out : List (List Int)), Srt L → (∀ x ∈ ks L, x < 1) → (∀ z ∈ L, okd b z.2) → L ≠ [] → out.length ≤ 500 → Ev (fun k => spec_l3Many.l1 k b (many : Int) (I (ks L)) p out (vs L) ((1 : Nat) : Int)) (out ++ ([] ++ [topIn many (top0 L)])) := by
    intro L p out hs hn hv h0 ho
    obtain ⟨y, rfl⟩ := one_L hs hn h0
    have hy : okd b y := hv (0, y) List.mem_cons_self
    exact Ev.step (fun k => spec_l3Many.l1.eq_2 ..) (ev_neg (by omega) (ev_pos (by simp [vs]) (ev_bind (spec_topin hm (okd_le hy).2) (ev_pos (by omega) (ev_ret rfl)))))
  induction K with
  | zero =>
    intro n L p out v h1 h2 _ hs hn hv h0 ho h
    obtain rfl : n = 1 := by omega
    rw [mups_le b 0 1 L p (by omega)] at h
    cases h
    exact hend L p out hs hn hv h0 (by omega)
  | succ K ih =>
    intro n L p out v h1 h2 h16 hs hn hv h0 ho h
    by_cases hn1 : 1 < n
    · rw [mups_step b (K + 1) n L p hn1] at h
      obtain ⟨u, hu, h⟩ := Option.bind_eq_some_iff.1 h
      obtain ⟨w, hw, rfl⟩ := Option.map_eq_some_iff.1 h
      obtain ⟨g1, g2, g3, g4, g5, used, g6, g7⟩ := lev_next hb hs hn hv hu
      have hl := asc_length (asc_of hs hn)
      rw [ks_length] at hl
      have h3 := ih ((n + 1) / 2) u.2.1 u.2.2 (out ++ u.1) w (by omega) (by omega) (by omega) g2 g3 g4 (lev_some (b := b) (n := n) h0 g1) (by rw [List.length_append]; omega) hw
      refine Ev.step (fun k => spec_l3Many.l1.eq_2 ..) (ev_pos (by omega) ?_)
      refine spec_inlev hb (many : Int) n hn1 h16 L hs hn hv _ ((n + 1) / 2) 0 [] L p out [] [] u (Nat.zero_add _) rfl (fun a ha => by cases ha) (fun _ _ => by omega) (Nat.zero_le _) (Nat.zero_le _) (by omega) hu ?_
      rw [List.nil_append, List.nil_append]
      simp only
      rw [List.append_assoc, ← List.append_assoc]
      exact h3
    · obtain rfl : n = 1 := by omega
      rw [mups_le b (K + 1) 1 L p (by omega)] at h
      cases h
      exact hend L p out hs hn hv h0 (by omega)
theorem spec_in_l0 {b : Int} (hb : 2 ≤ b ∧ b ≤ 60) (many : Nat) (m : List Nat) (hm : Asc 16 m) (l : List (List Int)) (hl : l.length = m.length) (hs : ∀ x ∈ l, x.length < 4000) (p : List Int) (R : List (List Int)) (hfin : Ev (fun k => spec_l3Many.l1 k b (many : Int) (I m) p (l.map fun x => 0 :: x) (vs (leafL b m l)) (many : Int)) R) :
    ∀ (l2 l1 : List (List Int)) (m1 m2 : List Nat), l = l1 ++ l2 → m = m1 ++ m2 → m1.length = l1.length → Ev (fun k => spec_l3Many.l0 k b (many : Int) (I m) l p (l1.map fun x => 0 :: x) (vs (leafL b m1 l1)) (l1.length : Int)) R
  | [], l1, m1, m2, h1, h2, h3 => by
    have hl1 : l = l1 := by rw [h1, List.append_nil]
    have hm1 : m2 = [] := by
      have e1 := congrArg List.length h2
      have e2 := congrArg List.length hl1
      rw [List.length_append] at e1
      exact List.length_eq_zero_iff.1 (by omega)
    have hm2 : m = m1 := by rw [h2, hm1, List.append_nil]
    refine Ev.step (fun k => spec_l3Many.l0.eq_2 ..) (ev_neg (by rw [← hl1]; omega) ?_)
    rw [← hl1, ← hm2]
    exact hfin
  | x :: l2, l1, m1, m2, h1, h2, h3 => by
    have e1 := congrArg List.length h1
    have e2 := congrArg List.length h2
    have e3 := asc_length hm
    simp only [List.length_append, List.length_cons] at e1 e2
    match m2, h2, e2 with
    | [], _, e2 => simp only [List.length_nil] at e2; omega
    | y :: m2, h2, e2 =>
      have hrx : Unit → rd_L2 l (l1.length : Int) = x := fun _ => by rw [h1]; exact rdB_at
      have hvl : (vs (leafL b m1 l1)).length = m1.length := by rw [vs_length, leafL_length b m1 l1 h3.symm]
      have hx := hs x (by rw [h1]; simp)
      simp only [List.length_cons] at e2
      have ih := spec_in_l0 hb many m hm l hl hs p R hfin l2 (l1 ++ [x]) (m1 ++ [y]) m2 (by rw [h1]; simp) (by rw [h2]; simp) (by simp [h3])
      rw [leafL_app b m1 [y] l1 [x] h3, List.length_append, List.map_append] at ih
      refine Ev.step (fun k => spec_l3Many.l0.eq_2 ..) (ev_pos (by omega) (ev_pos (by omega) ?_))
      rw [hrx ()]
      refine ev_pure (spec_leafin (by omega)) (ev_pos (by rw [List.length_map]; omega) (ev_bind (spec_leaf b (by omega)) (ev_pos (by omega) ?_)))
      rw [wr_succ (by omega)]
      have e : vs (leafL b m1 l1 ++ leafL b [y] [x]) = vs (leafL b m1 l1) ++ [Dig.digest b (0 :: x)] := List.map_append
      rw [e] at ih
      exact ih
theorem spec_in {b many : Int} {at_ : List Int} {l : List (List Int)} {p : List Int} (h : (climbedM b many at_ l p).2 = true) : Ev (fun k => spec_l3Many.f k b many at_ l p) (climbedM b many at_ l p).1 := by
  obtain ⟨h1, _, i, y, h2, h3⟩ := climbedM_true h
  rw [h3]
  obtain ⟨⟨hb, h4⟩, h5, h6, hs⟩ := h1
  obtain ⟨n, rfl⟩ := Int.eq_ofNat_of_zero_le (by omega : 0 ≤ many)
  obtain ⟨m, rfl, hm⟩ := plcs_nat h5
  have hml := asc_length hm
  have hm16 : Asc 16 m := ⟨hm.1, fun x hx => by have := hm.2 x hx; omega⟩
  have hpos := plcs_pos h5
  rw [I_length] at h6 hpos
  have hks := leafL_ks b m l h6
  unfold mway at h2
  rw [toNat_I, Int.toNat_natCast] at h2
  have hr := spec_in_l1 hb n (by omega) 15 n (leafL b m l) p (l.map fun x => 0 :: x) _ (by omega) (by omega) (by omega) (by unfold Srt; rw [hks]; exact hm.1) (by rw [hks]; exact hm.2) (leafL_okd hb m l hs) (by intro e; rw [e] at hks; rw [← hks] at hpos; exact absurd hpos (by decide)) (by rw [List.length_map]; omega) h2
  rw [hks] at hr
  rw [Int.toNat_natCast]
  unfold spec_l3Many.f
  exact spec_in_l0 hb n m hm16 l h6 hs p _ hr l [] [] m rfl rfl rfl
theorem spec_lastum_l0 (p q : List (List Int)) (hl : q.length = p.length) (n : Nat) (hn : n ≤ p.length) (hm : p.length ≤ 1000) : Ev (fun k => spec_FromMany.l0 k p q ((n : Int) - 1)) (lastU p q n) := by
  induction n with
  | zero => exact Ev.step (fun k => spec_FromMany.l0.eq_2 ..) (ev_neg (by omega) (ev_ret rfl))
  | succ n ih =>
    have e : ((n + 1 : Nat) : Int) - 1 = (n : Int) := by omega
    have e2 : wrap64 ((n : Int) - 1) = (n : Int) - 1 := wr (by omega) (by omega)
    have ep : rd_L2 p (n : Int) = p.getD n [] := by unfold rd_L2; rw [Int.toNat_natCast]
    have eq : rd_L2 q (n : Int) = q.getD n [] := by unfold rd_L2; rw [Int.toNat_natCast]
    rw [e]
    refine Ev.step (fun k => spec_FromMany.l0.eq_2 ..) (ev_pos (by omega) (ev_pos (by omega) (ev_pos (by omega) (ev_pos (by omega) ?_))))
    rw [ep, eq, e2]
    unfold lastU
    refine ev_pure (a := same (p.getD n []) (q.getD n [])) rfl ?_
    by_cases h : same (p.getD n []) (q.getD n []) = true
    · rw [if_pos h]
      exact ev_pos h (ih (by omega))
    · rw [if_neg h]
      exact ev_neg h (ev_ret rfl)
theorem spec_frommany (b many : Int) (at_ : List Int) (x y : List (List Int)) (p : List Int) (ha : at_.length ≤ 1048576) (hx : x.length ≤ 1048576) (hy : y.length ≤ 1048576) : Ev (fun k => spec_FromMany.f k b many at_ x y p) (fromMany b many at_ x y p) := by
  unfold spec_FromMany.f fromMany
  refine ev_bind (spec_manyfrom b many at_ x p ha hx) ?_
  have f1 := climbedM_facts b many at_ x p
  have f2 := climbedM_facts b many at_ y p
  have i1 := @spec_in b many at_ x p
  have i2 := @spec_in b many at_ y p
  have hlen := @climbedM_len b many at_ x y p
  have h2r := spec_manyfrom b many at_ y p ha hy
  generalize climbedM b many at_ x p = r1 at f1 i1 hlen ⊢
  generalize climbedM b many at_ y p = r2 at f2 i2 hlen ⊢
  generalize manyFrom b many at_ x p = d1 at f1 ⊢
  generalize manyFrom b many at_ y p = d2 at f2 h2r ⊢
  have hyes : ∀ a : Bool, a = true → Ev (fun k => spec_FromMany.j0 k b many at_ x y p a) ([], [], false) := fun a ha => by subst ha; exact Ev.step (fun k => spec_FromMany.j0.eq_2 ..) (ev_pos rfl (ev_ret rfl))
  by_cases h1 : d1 < 0
  · have : ¬ r1.2 = true := by
      intro h
      rcases f1.2 with g | g
      · omega
      · rw [g.1] at h; cases h
    rw [if_neg (fun h => this h.1)]
    exact ev_pos h1 (hyes _ rfl)
  · have g1 : r1.2 = true := by
      rcases f1.2 with g | g
      · exact g.1
      · omega
    refine ev_neg h1 (ev_bind h2r ?_)
    by_cases h3 : d1 = d2
    · have g2 : r2.2 = true := by
        rcases f2.2 with g | g
        · exact g.1
        · omega
      rw [if_pos ⟨g1, g2, h3⟩]
      refine Ev.step (fun k => spec_FromMany.j0.eq_2 ..) (ev_neg (by simp [h3]) (ev_bind (i1 g1) (ev_bind (i2 g2) ?_)))
      have hn := f1.1.1
      have e : wrap64 ((r1.1.length : Int) - 1) = (r1.1.length : Int) - 1 := wr (by omega) (by omega)
      rw [e]
      exact spec_lastum_l0 r1.1 r2.1 (hlen g1 g2) r1.1.length (Nat.le_refl _) (by omega)
    · rw [if_neg (fun h => h3 h.2.2)]
      exact hyes _ (by simp [h3])
theorem FnExactFromMany (b many : Int) (at_ : List Int) (x y : List (List Int)) (p : List Int) (_ : (Lit.int .i64 b).wf = true) (_ : (Lit.int .i64 many).wf = true) (_ : at_.length ≤ maxLen ∧ ∀ v0 ∈ at_, (Lit.int .i64 v0).wf = true) (_ : x.length ≤ maxLen ∧ ∀ v0 ∈ x, (v0.length ≤ maxLen ∧ ∀ v1 ∈ v0, (Lit.int .u8 v1).wf = true)) (_ : y.length ≤ maxLen ∧ ∀ v0 ∈ y, (v0.length ≤ maxLen ∧ ∀ v1 ∈ v0, (Lit.int .u8 v1).wf = true)) (_ : p.length ≤ maxLen ∧ ∀ v0 ∈ p, (Lit.int .i64 v0).wf = true) (ha : at_.length ≤ 1048576) (hp : p.length ≤ 1048576) (hx : tot x ≤ 1048576) (hy : tot y ≤ 1048576) :
    ∃ (r1 r2 : List Int) (r3 : Bool), (∃ k, spec_FromMany.f k b many at_ x y p = some (r1, r2, r3)) ∧ (∃ k, impl_FromMany.f k b many at_ x y p = some (r1, r2, r3)) ∧ r1.length ≤ 1000000000000 ∧ r2.length ≤ 1000000000000 := by
  have hl := fromMany_le b many at_ x y p
  have h1 := Nat.le_trans (tot_len x) hx
  have h2 := Nat.le_trans (tot_len y) hy
  exact ⟨_, _, _, (spec_frommany b many at_ x y p ha h1 h2).rounds, (impl_frommany b many at_ x y p ha h1 h2).rounds, Nat.le_trans hl.1 (by decide), Nat.le_trans hl.2 (by decide)⟩

end Go.Proofs.Ytaacidhgnappdaa.Pure
