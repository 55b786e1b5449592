/- ManyPath answers as the reference's ManyPath, at all numbers, leaves and places (of at most 2^20 bytes and leaves together), in memory of its own, and leaves what came in as it was. -/
import Derived.Test.YtaacidhgnappdaaPFnExactManyPathx
import Derived.Test.YtaacidhgnappdaaKit
import Derived.Test.YtaacidhgnappdaaDig
namespace Go.Proofs.Ytaacidhgnappdaa.Pure
open Go.RowKit Go.Proofs.Ytaacidhgnappdaa Go.Proofs.Ytaacidhgnappdaa.PFnExactManyPath Go.Proofs.YtaacidhgnappdaaW.PrintWords Go.Proofs.YtaacidhgnappdaaW.PrintLast Go.Proofs.YtaacidhgnappdaaW.PrintMore Go.Proofs.Ytaacidhgnappdaa.K
set_option linter.unusedVariables false

/-- What is left of a behind a taking of t; -1: t was too much. -/
def left (a : Int) (t : Nat) : Int := if a - (t : Int) < 0 then -1 else a - (t : Int)
theorem left_ok {a : Int} {t : Nat} (h : ¬ left a t < 0) : left a t = a - (t : Int) := by
  unfold left at h ⊢
  split
  · rename_i h2
    rw [if_pos h2] at h
    omega
  · rfl
theorem left_neg {a : Int} {t : Nat} (h : a - (t : Int) < 0) : left a t = -1 := if_pos h
theorem left_pos {a : Int} {t : Nat} (h : ¬ a - (t : Int) < 0) : left a t = a - (t : Int) := if_neg h
theorem len_max {n : Nat} (h : n ≤ maxLen) : n ≤ 9223372036854775807 := by unfold maxLen at h; omega
/-- The bytes of all texts together. -/
def tsum : List (List Int) → Nat
  | [] => 0
  | x :: l => x.length + tsum l
/-- .. and the texts. -/
def tot (l : List (List Int)) : Nat := l.length + tsum l
theorem tsum_le (l : List (List Int)) : tsum l ≤ tot l := Nat.le_add_left _ _
theorem tot_len (l : List (List Int)) : l.length ≤ tot l := Nat.le_add_right _ _
theorem tsum_mem {l : List (List Int)} {x : List Int} (h : x ∈ l) : x.length ≤ tsum l := by
  induction l with
  | nil => cases h
  | cons y l ih =>
    rcases List.mem_cons.1 h with rfl | h
    · unfold tsum; omega
    · have := ih h; unfold tsum; omega
theorem tsum_append (l m : List (List Int)) : tsum (l ++ m) = tsum l + tsum m := by
  induction l with
  | nil => simp [tsum]
  | cons x l ih => simp only [List.cons_append, tsum, ih]; omega
theorem rdB_nat (l : List (List Int)) (i : Nat) : rd_L1 l (i : Int) = l.getD i [] := by unfold rd_L1; rw [Int.toNat_natCast]
theorem getD_mem {l : List (List Int)} {i : Nat} (h : i < l.length) : l.getD i [] ∈ l := by
  rw [List.getD_eq_getElem?_getD, List.getElem?_eq_getElem h]
  exact List.getElem_mem h
theorem dropB {l : List (List Int)} {i : Nat} (h : i < l.length) : l.drop i = l.getD i [] :: l.drop (i + 1) := drop_getD l [] i h
theorem szByteS (l : List Int) (a : Int) (h0 : 0 ≤ a) (ha : a ≤ 1048576) (hl : l.length ≤ maxLen) : laws_szByteS.f l a = some (left a l.length) := by
  have hm := len_max hl
  unfold laws_szByteS.f
  rw [wr (n := a - (l.length : Int)) (by omega) (by omega)]
  by_cases h : a - (l.length : Int) < 0
  · rw [if_pos h, left_neg h]
  · rw [if_neg h, left_pos h]
theorem szByteSS_l0 (l : List (List Int)) (hl : l.length ≤ 1048576) (hs : ∀ v ∈ l, v.length ≤ maxLen) (n : Nat) : ∀ (i : Nat) (a : Int), i + n = l.length → 0 ≤ a → a ≤ 1048576 → Ev (fun k => laws_szByteSS.l0 k l a (i : Int)) (left a (tsum (l.drop i))) := by
  induction n with
  | zero =>
    intro i a hi h0 ha
    refine Ev.step (fun k => laws_szByteSS.l0.eq_2 ..) (ev_neg (by omega) (ev_ret ?_))
    rw [List.drop_eq_nil_of_le (by omega)]
    unfold left tsum
    rw [if_neg (by omega)]
    omega
  | succ n ih =>
    intro i a hi h0 ha
    have hlt : i < l.length := by omega
    refine Ev.step (fun k => laws_szByteSS.l0.eq_2 ..) (ev_pos (by omega) (ev_pos (by omega) ?_))
    rw [rdB_nat, dropB hlt]
    have hx := hs _ (getD_mem hlt)
    refine ev_pure (szByteS _ a h0 ha hx) ?_
    generalize l.getD i [] = x at hx
    by_cases h : a - (x.length : Int) < 0
    · rw [left_neg h]
      refine ev_pos (by decide) (ev_ret ?_)
      rw [left_neg]
      simp only [tsum]
      omega
    · rw [left_pos h, wr_succ (by omega)]
      refine ev_neg h (ev_eq (ih (i + 1) _ (by omega) (by omega) (by omega)) ?_)
      simp only [tsum]
      unfold left
      split <;> split <;> omega
theorem szByteSS (l : List (List Int)) (a : Int) (h0 : 0 ≤ a) (ha : a ≤ 1048576) (hl : l.length ≤ maxLen) (hs : ∀ v ∈ l, v.length ≤ maxLen) : Ev (fun k => laws_szByteSS.f k l a) (left a (tot l)) := by
  have hm := len_max hl
  unfold laws_szByteSS.f
  rw [wr (n := a - (l.length : Int)) (by omega) (by omega)]
  by_cases h : a - (l.length : Int) < 0
  · refine ev_pos h (ev_ret ?_)
    have := tot_len l
    rw [left_neg (by omega)]
  · refine ev_neg h (ev_eq (szByteSS_l0 l (by omega) hs l.length 0 _ (by omega) (by omega) (by omega)) ?_)
    rw [List.drop_zero]
    unfold left tot
    split <;> split <;> omega
theorem toByteS_l0 (l : List Int) (hl : l.length ≤ 9223372036854775806) (n : Nat) : ∀ i : Nat, i + n = l.length →
    Ev (fun k => laws_toByteS.l0 k l (l.take i ++ List.replicate n 0) (i : Int)) l := by
  induction n with
  | zero =>
    intro i hi
    refine Ev.step (fun k => laws_toByteS.l0.eq_2 ..) ?_
    refine ev_neg (by omega) (ev_ret ?_)
    rw [List.replicate_zero, List.append_nil, List.take_of_length_le (by omega)]
  | succ n ih =>
    intro i hi
    refine Ev.step (fun k => laws_toByteS.l0.eq_2 ..) ?_
    have hlen : (l.take i).length = i := by rw [List.length_take]; omega
    refine ev_pos (by omega) (ev_pos (by omega) (ev_pos (by rw [List.length_append, hlen, List.length_replicate]; omega) ?_))
    rw [wr_succ (by omega), rd_nat, Int.toNat_natCast]
    have e := set_fill (l.take i) (l.getD i 0) 0 n
    rw [hlen, take_getD l 0 i (by omega)] at e
    rw [e]
    exact ih (i + 1) (by omega)
theorem toByteS (l : List Int) (hl : l.length ≤ 140737488355328) : Ev (fun k => laws_toByteS.f k l) l := by
  unfold laws_toByteS.f
  refine ev_pos (by omega) (ev_pos (by omega) ?_)
  have := toByteS_l0 l (by omega) l.length 0 (by omega)
  simpa using this
theorem toByteSS_l0 (l : List (List Int)) (hl : l.length ≤ 9223372036854775806) (hs : ∀ x ∈ l, x.length ≤ 140737488355328) (n : Nat) : ∀ i : Nat, i + n = l.length →
    Ev (fun k => laws_toByteSS.l0 k l (l.take i ++ List.replicate n []) (i : Int)) l := by
  induction n with
  | zero =>
    intro i hi
    refine Ev.step (fun k => laws_toByteSS.l0.eq_2 ..) ?_
    refine ev_neg (by omega) (ev_ret ?_)
    rw [List.replicate_zero, List.append_nil, List.take_of_length_le (by omega)]
  | succ n ih =>
    intro i hi
    refine Ev.step (fun k => laws_toByteSS.l0.eq_2 ..) ?_
    have hlen : (l.take i).length = i := by rw [List.length_take]; omega
    refine ev_pos (by omega) (ev_pos (by omega) ?_)
    rw [rdB_nat]
    refine ev_bind (toByteS _ (hs _ (getD_mem (by omega)))) (ev_pos (by rw [List.length_append, hlen, List.length_replicate]; omega) ?_)
    rw [wr_succ (by omega), Int.toNat_natCast]
    have e := set_fill (l.take i) (l.getD i []) [] n
    rw [hlen, take_getD l [] i (by omega)] at e
    rw [e]
    exact ih (i + 1) (by omega)
theorem toByteSS (l : List (List Int)) (ht : tot l ≤ 10000000000000) : Ev (fun k => laws_toByteSS.f k l) l := by
  have h1 := tot_len l
  have h2 := tsum_le l
  unfold laws_toByteSS.f
  refine ev_pos (by omega) (ev_pos (by omega) ?_)
  have := toByteSS_l0 l (by omega) (fun x hx => by have := tsum_mem hx; omega) l.length 0 (by omega)
  simpa using this
theorem toIntS_l0 (l : List Int) (hl : l.length ≤ 9223372036854775806) (n : Nat) : ∀ i : Nat, i + n = l.length →
    Ev (fun k => laws_toIntS.l0 k l (l.take i ++ List.replicate n 0) (i : Int)) l := by
  induction n with
  | zero =>
    intro i hi
    refine Ev.step (fun k => laws_toIntS.l0.eq_2 ..) ?_
    refine ev_neg (by omega) (ev_ret ?_)
    rw [List.replicate_zero, List.append_nil, List.take_of_length_le (by omega)]
  | succ n ih =>
    intro i hi
    refine Ev.step (fun k => laws_toIntS.l0.eq_2 ..) ?_
    have hlen : (l.take i).length = i := by rw [List.length_take]; omega
    refine ev_pos (by omega) (ev_pos (by omega) (ev_pos (by rw [List.length_append, hlen, List.length_replicate]; omega) ?_))
    rw [wr_succ (by omega), rd_nat, Int.toNat_natCast]
    have e := set_fill (l.take i) (l.getD i 0) 0 n
    rw [hlen, take_getD l 0 i (by omega)] at e
    rw [e]
    exact ih (i + 1) (by omega)
theorem toIntS (l : List Int) (hl : l.length ≤ 17592186044416) : Ev (fun k => laws_toIntS.f k l) l := by
  unfold laws_toIntS.f
  refine ev_pos (by omega) (ev_pos (by omega) ?_)
  have := toIntS_l0 l (by omega) l.length 0 (by omega)
  simpa using this
theorem eqByteS_l0 (l : List Int) (hl : l.length ≤ 9223372036854775806) (n : Nat) : ∀ i : Nat, i + n = l.length →
    Ev (fun k => laws_eqByteS.l0 k l l (i : Int)) true := by
  induction n with
  | zero =>
    intro i hi
    refine Ev.step (fun k => laws_eqByteS.l0.eq_2 ..) ?_
    exact ev_neg (by omega) (ev_ret rfl)
  | succ n ih =>
    intro i hi
    refine Ev.step (fun k => laws_eqByteS.l0.eq_2 ..) ?_
    refine ev_pos (by omega) (ev_pos (by omega) (ev_pos (by omega) (ev_pos rfl ?_)))
    rw [wr_succ (by omega)]
    exact ih (i + 1) (by omega)
theorem eqByteS (l : List Int) (hl : l.length ≤ 140737488355328) : Ev (fun k => laws_eqByteS.f k l l) true := by
  unfold laws_eqByteS.f
  exact ev_pos rfl (eqByteS_l0 l (by omega) l.length 0 (by omega))
theorem eqByteSS_l0 (l : List (List Int)) (hl : l.length ≤ 9223372036854775806) (hs : ∀ x ∈ l, x.length ≤ 140737488355328) (n : Nat) : ∀ i : Nat, i + n = l.length →
    Ev (fun k => laws_eqByteSS.l0 k l l (i : Int)) true := by
  induction n with
  | zero =>
    intro i hi
    refine Ev.step (fun k => laws_eqByteSS.l0.eq_2 ..) ?_
    exact ev_neg (by omega) (ev_ret rfl)
  | succ n ih =>
    intro i hi
    refine Ev.step (fun k => laws_eqByteSS.l0.eq_2 ..) ?_
    refine ev_pos (by omega) (ev_pos (by omega) (ev_pos (by omega) ?_))
    rw [rdB_nat]
    refine ev_bind (eqByteS _ (hs _ (getD_mem (by omega)))) (ev_pos rfl ?_)
    rw [wr_succ (by omega)]
    exact ih (i + 1) (by omega)
theorem eqByteSS (l : List (List Int)) (ht : tot l ≤ 10000000000000) : Ev (fun k => laws_eqByteSS.f k l l) true := by
  have h1 := tot_len l
  have h2 := tsum_le l
  unfold laws_eqByteSS.f
  exact ev_pos rfl (eqByteSS_l0 l (by omega) (fun x hx => by have := tsum_mem hx; omega) l.length 0 (by omega))
theorem eqIntS_l0 (l : List Int) (hl : l.length ≤ 9223372036854775806) (n : Nat) : ∀ i : Nat, i + n = l.length →
    Ev (fun k => laws_eqIntS.l0 k l l (i : Int)) true := by
  induction n with
  | zero =>
    intro i hi
    refine Ev.step (fun k => laws_eqIntS.l0.eq_2 ..) ?_
    exact ev_neg (by omega) (ev_ret rfl)
  | succ n ih =>
    intro i hi
    refine Ev.step (fun k => laws_eqIntS.l0.eq_2 ..) ?_
    refine ev_pos (by omega) (ev_pos (by omega) (ev_pos (by omega) (ev_pos rfl ?_)))
    rw [wr_succ (by omega)]
    exact ih (i + 1) (by omega)
theorem eqIntS (l : List Int) (hl : l.length ≤ 140737488355328) : Ev (fun k => laws_eqIntS.f k l l) true := by
  unfold laws_eqIntS.f
  exact ev_pos rfl (eqIntS_l0 l (by omega) l.length 0 (by omega))
def marked (a : Int) : Nat → List Int
  | 0 => []
  | n + 1 => (a % 256) :: marked (a + 1) n
theorem marked_length (n : Nat) : ∀ a, (marked a n).length = n := by
  induction n with
  | zero => intro a; rfl
  | succ n ih => intro a; simp [marked, ih]
theorem marked_snoc (n : Nat) : ∀ a, marked a n ++ [(a + n) % 256] = marked a (n + 1) := by
  induction n with
  | zero => intro a; simp [marked]
  | succ n ih =>
    intro a
    have := ih (a + 1)
    simp only [marked, List.cons_append] at this ⊢
    rw [← this]
    congr 3
    omega
theorem marked_getD (n : Nat) : ∀ a i, i < n → (marked a n).getD i 0 = (a + i) % 256 := by
  induction n with
  | zero => intro a i h; omega
  | succ n ih =>
    intro a i h
    cases i with
    | zero => simp [marked]
    | succ i =>
      have := ih (a + 1) i (by omega)
      simp only [marked, List.getD_cons_succ] at this ⊢
      rw [this]
      congr 1
      omega
theorem markByteS_l0 (l : List Int) (a : Int) (h0 : 0 ≤ a) (ha : a + l.length ≤ 4611686018427387904) (n : Nat) : ∀ i : Nat, i + n = l.length →
    Ev (fun k => laws_markByteS.l0 k (marked a i ++ l.drop i) (a + i) (i : Int)) (a + l.length, marked a l.length) := by
  induction n with
  | zero =>
    intro i hi
    refine Ev.step (fun k => laws_markByteS.l0.eq_2 ..) ?_
    refine ev_neg (by rw [List.length_append, marked_length, List.length_drop]; omega) (ev_ret ?_)
    obtain rfl : i = l.length := by omega
    rw [List.drop_length, List.append_nil]
  | succ n ih =>
    intro i hi
    refine Ev.step (fun k => laws_markByteS.l0.eq_2 ..) ?_
    refine ev_pos (by rw [List.length_append, marked_length, List.length_drop]; omega) (ev_pos (by omega) ?_)
    rw [wr_succ (by omega), Int.toNat_natCast, wr (n := a + i + 1) (by omega) (by omega), drop_getD l 0 i (by omega),
      List.set_append_right _ _ (by rw [marked_length]; exact Nat.le_refl _), marked_length, Nat.sub_self, List.set_cons_zero]
    have := ih (i + 1) (by omega)
    rw [← marked_snoc, List.append_assoc] at this
    rw [show a + (i : Int) + 1 = a + ((i + 1 : Nat) : Int) by omega]
    exact this
theorem markByteS (l : List Int) (a : Int) (h0 : 0 ≤ a) (ha : a + l.length ≤ 4611686018427387904) :
    Ev (fun k => laws_markByteS.f k l a) (a + l.length, marked a l.length) := by
  unfold laws_markByteS.f
  have := markByteS_l0 l a h0 ha l.length 0 (by omega)
  simpa [marked] using this
theorem tsum_snoc (l : List (List Int)) (j : Nat) (h : j < l.length) : tsum (l.take (j + 1)) = tsum (l.take j) + (l.getD j []).length := by
  rw [← take_getD l [] j h, tsum_append]
  simp [tsum]
theorem tsum_take (l : List (List Int)) (j : Nat) : tsum (l.take j) ≤ tsum l := by
  have := tsum_append (l.take j) (l.drop j)
  rw [List.take_append_drop] at this
  omega
/-- Rows, marked one after the other. -/
def markedSS (a : Int) : List (List Int) → List (List Int)
  | [] => []
  | x :: l => marked a x.length :: markedSS (a + x.length) l
theorem markedSS_length (l : List (List Int)) : ∀ a, (markedSS a l).length = l.length := by
  induction l with
  | nil => intro a; rfl
  | cons x l ih => intro a; simp [markedSS, ih]
theorem markedSS_append (l m : List (List Int)) : ∀ a, markedSS a (l ++ m) = markedSS a l ++ markedSS (a + tsum l) m := by
  induction l with
  | nil => intro a; simp [markedSS, tsum]
  | cons x l ih =>
    intro a
    simp only [List.cons_append, markedSS, tsum, ih]
    congr 3
    omega
theorem markedSS_step (a : Int) (l : List (List Int)) (j : Nat) (h : j < l.length) : (markedSS a (l.take j) ++ l.drop j).set j (marked (a + tsum (l.take j)) (l.getD j []).length) = markedSS a (l.take (j + 1)) ++ l.drop (j + 1) := by
  have hl : (markedSS a (l.take j)).length = j := by rw [markedSS_length, List.length_take]; omega
  rw [dropB h, ← take_getD l [] j h, markedSS_append, List.set_append_right _ _ (by omega), hl, Nat.sub_self, List.set_cons_zero, List.append_assoc]
  rfl
theorem markedSS_at (a : Int) (l : List (List Int)) (j : Nat) (h : j < l.length) : (markedSS a (l.take j) ++ l.drop j).getD j [] = l.getD j [] := by
  have hl : (markedSS a (l.take j)).length = j := by rw [markedSS_length, List.length_take]; omega
  rw [List.getD_eq_getElem?_getD, List.getElem?_append_right (by omega), hl, Nat.sub_self, dropB h]
  rfl
def markedI (a : Int) : Nat → List Int
  | 0 => []
  | n + 1 => a :: markedI (a + 1) n
theorem markedI_length (n : Nat) : ∀ a, (markedI a n).length = n := by
  induction n with
  | zero => intro a; rfl
  | succ n ih => intro a; simp [markedI, ih]
theorem markedI_snoc (n : Nat) : ∀ a, markedI a n ++ [a + n] = markedI a (n + 1) := by
  induction n with
  | zero => intro a; simp [markedI]
  | succ n ih =>
    intro a
    have := ih (a + 1)
    simp only [markedI, List.cons_append] at this ⊢
    rw [← this]
    congr 3
    omega
theorem markedI_getD (n : Nat) : ∀ a i, i < n → (markedI a n).getD i 0 = a + i := by
  induction n with
  | zero => intro a i h; omega
  | succ n ih =>
    intro a i h
    cases i with
    | zero => simp [markedI]
    | succ i =>
      have := ih (a + 1) i (by omega)
      simp only [markedI, List.getD_cons_succ] at this ⊢
      rw [this]
      omega
theorem markIntS_l0 (l : List Int) (a : Int) (h0 : 0 ≤ a) (ha : a + l.length ≤ 4611686018427387904) (n : Nat) : ∀ i : Nat, i + n = l.length →
    Ev (fun k => laws_markIntS.l0 k (markedI a i ++ l.drop i) (a + i) (i : Int)) (a + l.length, markedI a l.length) := by
  induction n with
  | zero =>
    intro i hi
    refine Ev.step (fun k => laws_markIntS.l0.eq_2 ..) ?_
    refine ev_neg (by rw [List.length_append, markedI_length, List.length_drop]; omega) (ev_ret ?_)
    obtain rfl : i = l.length := by omega
    rw [List.drop_length, List.append_nil]
  | succ n ih =>
    intro i hi
    refine Ev.step (fun k => laws_markIntS.l0.eq_2 ..) ?_
    refine ev_pos (by rw [List.length_append, markedI_length, List.length_drop]; omega) (ev_pos (by omega) ?_)
    rw [wr_succ (by omega), Int.toNat_natCast, wr (n := a + i + 1) (by omega) (by omega), drop_getD l 0 i (by omega),
      List.set_append_right _ _ (by rw [markedI_length]; exact Nat.le_refl _), markedI_length, Nat.sub_self, List.set_cons_zero]
    have := ih (i + 1) (by omega)
    rw [← markedI_snoc, List.append_assoc] at this
    rw [show a + (i : Int) + 1 = a + ((i + 1 : Nat) : Int) by omega]
    exact this
theorem markIntS (l : List Int) (a : Int) (h0 : 0 ≤ a) (ha : a + l.length ≤ 4611686018427387904) :
    Ev (fun k => laws_markIntS.f k l a) (a + l.length, markedI a l.length) := by
  unfold laws_markIntS.f
  have := markIntS_l0 l a h0 ha l.length 0 (by omega)
  simpa [markedI] using this
theorem heldIntS_l0 (a : Int) (m : Nat) (h0 : 0 ≤ a) (ha : a + m ≤ 4611686018427387904) (n : Nat) : ∀ i : Nat, i + n = m →
    Ev (fun k => laws_heldIntS.l0 k (markedI a m) (a + i) (i : Int)) (a + m) := by
  induction n with
  | zero =>
    intro i hi
    refine Ev.step (fun k => laws_heldIntS.l0.eq_2 ..) ?_
    refine ev_neg (by rw [markedI_length]; omega) (ev_ret ?_)
    omega
  | succ n ih =>
    intro i hi
    refine Ev.step (fun k => laws_heldIntS.l0.eq_2 ..) ?_
    refine ev_pos (by rw [markedI_length]; omega) (ev_pos (by omega) (ev_pos (by rw [rd_nat, markedI_getD _ _ _ (by omega)]) ?_))
    rw [wr_succ (by omega), wr (n := a + i + 1) (by omega) (by omega), show a + (i : Int) + 1 = a + ((i + 1 : Nat) : Int) by omega]
    exact ih (i + 1) (by omega)
theorem heldIntS (a : Int) (m : Nat) (h0 : 0 ≤ a) (ha : a + m ≤ 4611686018427387904) :
    Ev (fun k => laws_heldIntS.f k (markedI a m) a) (a + m) := by
  unfold laws_heldIntS.f
  have := heldIntS_l0 a m h0 ha m 0 (by omega)
  simpa using this
theorem digest_a (a0 : Int) (l : List Int) (h1 : 2 ≤ a0 ∧ a0 ≤ 60) (h2 : l.length ≤ 4000) : impl_Squeeze.f a0 l 1 = some ([Dig.out a0 (Dig.rnds 6 (Dig.taken l))], true) := by
  unfold impl_Squeeze.f
  rw [if_pos h1, if_pos h2, if_pos (by decide)]
  generalize Dig.rnds 6 (Dig.taken l) = s
  simp only [Int.toNat_one, Dig.squeeze]
theorem digest_b (a0 : Int) (l : List Int) (h : ¬ ((2 ≤ a0 ∧ a0 ≤ 60) ∧ l.length ≤ 4000)) : impl_Squeeze.f a0 l 1 = some ([], false) := by
  unfold impl_Squeeze.f
  by_cases h1 : 2 ≤ a0 ∧ a0 ≤ 60
  · rw [if_pos h1, if_neg (fun h2 => h ⟨h1, h2⟩)]
  · rw [if_neg h1]
theorem digest_fin (x : Int) : ((some ([x], true) : Option (List Int × Bool)).bind fun bt => (if bt.2 = true then (if 0 < (bt.1.length : Int) then (some (rd bt.1 0)) else (none)) else (some (-1)))) = some x := by
  rw [Option.bind_some, if_pos rfl, if_pos (by simp)]
  rfl
theorem digest_non : ((some ([], false) : Option (List Int × Bool)).bind fun bt => (if bt.2 = true then (if 0 < (bt.1.length : Int) then (some (rd bt.1 0)) else (none)) else (some (-1)))) = some (-1) := by
  rw [Option.bind_some, if_neg (by simp)]
theorem impl_digest (a0 : Int) (l : List Int) : impl_Digest.f a0 l = some (Dig.digest a0 l) := by
  unfold impl_Digest.f
  by_cases h1 : 2 ≤ a0 ∧ a0 ≤ 60
  · by_cases h2 : l.length ≤ 4000
    · have e : Dig.digest a0 l = Dig.out a0 (Dig.rnds 6 (Dig.taken l)) := by
        unfold Dig.digest
        rw [if_pos h1, if_pos h2]
      rw [digest_a a0 l h1 h2, e]
      exact digest_fin _
    · have e : Dig.digest a0 l = -1 := by
        unfold Dig.digest
        rw [if_pos h1, if_neg h2]
      rw [digest_b a0 l (fun h => h2 h.2), e]
      exact digest_non
  · have e : Dig.digest a0 l = -1 := by
      unfold Dig.digest
      rw [if_neg h1]
    rw [digest_b a0 l (fun h => h1 h.1), e]
    exact digest_non

theorem spec_turn13 (x : Int) : spec_l1Turn.f x 13 = some (Dig.r13 x) := by
  have e : wrap64 (64 - 13) = 51 := by unfold wrap64; decide
  unfold spec_l1Turn.f
  rw [e, if_pos (by decide), if_pos (by decide)]
  have e1 : shl .u64 x 13 = IntKind.u64.wrap (x * 8192) := by
    unfold shl
    rw [show (2 : Int) ^ min (13 : Int).toNat IntKind.u64.bits = 8192 by decide]
  have e2 : shr .u64 x 51 = x / 2251799813685248 := by
    unfold shr
    rw [show (2 : Int) ^ min (51 : Int).toNat IntKind.u64.bits = 2251799813685248 by decide]
  rw [e1, e2]
  rfl
theorem spec_turn29 (x : Int) : spec_l1Turn.f x 29 = some (Dig.r29 x) := by
  have e : wrap64 (64 - 29) = 35 := by unfold wrap64; decide
  unfold spec_l1Turn.f
  rw [e, if_pos (by decide), if_pos (by decide)]
  have e1 : shl .u64 x 29 = IntKind.u64.wrap (x * 536870912) := by
    unfold shl
    rw [show (2 : Int) ^ min (29 : Int).toNat IntKind.u64.bits = 536870912 by decide]
  have e2 : shr .u64 x 35 = x / 34359738368 := by
    unfold shr
    rw [show (2 : Int) ^ min (35 : Int).toNat IntKind.u64.bits = 34359738368 by decide]
  rw [e1, e2]
  rfl
theorem spec_turn41 (x : Int) : spec_l1Turn.f x 41 = some (Dig.r41 x) := by
  have e : wrap64 (64 - 41) = 23 := by unfold wrap64; decide
  unfold spec_l1Turn.f
  rw [e, if_pos (by decide), if_pos (by decide)]
  have e1 : shl .u64 x 41 = IntKind.u64.wrap (x * 2199023255552) := by
    unfold shl
    rw [show (2 : Int) ^ min (41 : Int).toNat IntKind.u64.bits = 2199023255552 by decide]
  have e2 : shr .u64 x 23 = x / 8388608 := by
    unfold shr
    rw [show (2 : Int) ^ min (23 : Int).toNat IntKind.u64.bits = 8388608 by decide]
  rw [e1, e2]
  rfl
theorem spec_round (a b c : Int) : spec_l1Round.f a b c = some (Dig.rnd (a, b, c)) := by
  unfold spec_l1Round.f
  simp only [spec_turn13, spec_turn29, spec_turn41, Option.bind_some, Dig.rnd0_left, Dig.rnd1_left, Dig.rnd2_left]
  rfl
theorem spec_out_l0 (bits : Int) (hb : 0 ≤ bits) (m : Nat) (hm : m ≤ 1000) (n : Nat) : ∀ (i : Nat) (a b c : Int), i + n = m →
    Ev (fun k => spec_l1Out.l0 k bits (m : Int) (i : Int) a b c) (Dig.out bits (Dig.rnds n (a, b, c))) := by
  induction n with
  | zero =>
    intro i a b c hi
    refine Ev.step (fun k => spec_l1Out.l0.eq_2 ..) ?_
    exact ev_neg (by omega) (ev_pos hb (ev_ret rfl))
  | succ n ih =>
    intro i a b c hi
    refine Ev.step (fun k => spec_l1Out.l0.eq_2 ..) ?_
    refine ev_pos (by omega) (ev_pure (spec_round a b c) ?_)
    rw [wr_succ (by omega)]
    exact ih (i + 1) _ _ _ (by omega)
theorem spec_out {bits : Int} (hb : 0 ≤ bits) (a b c : Int) (m : Nat) (hm : m ≤ 1000) : Ev (fun k => spec_l1Out.f k bits a b c (m : Int)) (Dig.out bits (Dig.rnds m (a, b, c))) := by
  unfold spec_l1Out.f
  exact spec_out_l0 bits hb m hm m 0 a b c (Nat.zero_add _)
theorem spec_digest_l0 {bits : Int} (hb : 0 ≤ bits) (l : List Int) (hl : l.length ≤ 4000) (n : Nat) : ∀ (i : Nat) (a b c : Int), i + n = l.length → Dig.takes (l.take i) (1, 2, 3) = (a, b, c) →
    Ev (fun k => spec_Digest.l0 k bits l (i : Int) a b c) (Dig.out bits (Dig.rnds 6 (Dig.taken l))) := by
  induction n with
  | zero =>
    intro i a b c hi hs
    refine Ev.step (fun k => spec_Digest.l0.eq_2 ..) ?_
    rw [List.take_of_length_le (by omega)] at hs
    refine ev_neg (by omega) ?_
    have e : Dig.taken l = (Go.bits .xor .u64 a (IntKind.u64.wrap (l.length : Int)), b, c) := by
      unfold Dig.taken
      rw [hs]
      rfl
    refine ev_bind (a := Dig.out bits (Dig.rnds 6 (Dig.taken l))) ?_ (ev_ret rfl)
    rw [e]
    exact spec_out hb _ _ _ 6 (by decide)
  | succ n ih =>
    intro i a b c hi hs
    refine Ev.step (fun k => spec_Digest.l0.eq_2 ..) ?_
    refine ev_pos (by omega) (ev_pos (by omega) (ev_pure (spec_round _ _ _) (ev_pure (spec_round _ _ _) ?_)))
    rw [wr_succ (by omega)]
    refine ih (i + 1) _ _ _ (by omega) ?_
    have et : l.take (i + 1) = l.take i ++ [rd l (i : Int)] := by
      rw [rd_nat, take_getD l 0 i (by omega)]
    rw [et, Dig.takes_snoc, hs]
    rfl
theorem spec_digest (a0 : Int) (l : List Int) : Ev (fun k => spec_Digest.f k a0 l) (Dig.digest a0 l) := by
  unfold spec_Digest.f Dig.digest
  refine ev_pure (a := decide (2 ≤ a0 ∧ a0 ≤ 60)) (by unfold spec_l1In.f; by_cases h : a0 ≥ 2 <;> simp [h]) ?_
  by_cases h1 : 2 ≤ a0 ∧ a0 ≤ 60
  · rw [if_pos h1]
    refine ev_pos (by simp [h1]) ?_
    refine Ev.step (fun k => spec_Digest.j0.eq_2 ..) ?_
    by_cases h2 : l.length ≤ 4000
    · rw [if_pos h2]
      refine ev_neg (by simp; omega) ?_
      exact spec_digest_l0 (by omega) l h2 l.length 0 1 2 3 (Nat.zero_add _) rfl
    · rw [if_neg h2]
      exact ev_pos (by simp; omega) (ev_ret rfl)
  · rw [if_neg h1]
    refine ev_neg (by simp; omega) ?_
    refine Ev.step (fun k => spec_Digest.j0.eq_2 ..) ?_
    exact ev_pos rfl (ev_ret rfl)
/-- The last n bytes of a number, the highest first. -/
def be : Nat → Nat → List Int
  | 0, _ => []
  | n + 1, x => be n (x / 256) ++ [((x % 256 : Nat) : Int)]
theorem be_length (n : Nat) : ∀ x, (be n x).length = n := by
  induction n with
  | zero => intro x; rfl
  | succ n ih => intro x; simp [be, ih]
/-- The eight bytes of a number, nothing below 0. -/
def eightOf (x : Int) : List Int := if x < 0 then [] else be 8 x.toNat
theorem impl_high_l0 (n : Nat) : ∀ (x : Nat) (t : List Int), n ≤ 8 → t.length = 8 - n →
    Ev (fun k => impl_high.l0 k (x : Int) (List.replicate n 0 ++ t) ((n : Int) - 1)) (be n x ++ t) := by
  induction n with
  | zero =>
    intro x t _ _
    refine Ev.step (fun k => impl_high.l0.eq_2 ..) ?_
    exact ev_neg (by omega) (ev_ret rfl)
  | succ n ih =>
    intro x t hn ht
    refine Ev.step (fun k => impl_high.l0.eq_2 ..) ?_
    refine ev_pos (by omega) (ev_pos (by omega) (ev_pos (by rw [List.length_append, List.length_replicate, ht]; omega) ?_))
    have e1 : wrap64 (((n + 1 : Nat) : Int) - 1 - 1) = (n : Int) - 1 := by rw [wr (by omega) (by omega)]; omega
    have e2 : (((n + 1 : Nat) : Int) - 1).toNat = n := by omega
    have e3 : (x : Int) / 256 = ((x / 256 : Nat) : Int) := by omega
    have e4 : (x : Int) % 256 = ((x % 256 : Nat) : Int) := by omega
    rw [e1, e2, e3, e4]
    have e5 : (List.replicate (n + 1) (0 : Int) ++ t).set n ((x % 256 : Nat) : Int) = List.replicate n 0 ++ (((x % 256 : Nat) : Int) :: t) := by
      rw [List.replicate_succ', List.append_assoc, List.set_append_right _ _ (by rw [List.length_replicate]; exact Nat.le_refl _), List.length_replicate, Nat.sub_self]
      rfl
    rw [e5]
    have := ih (x / 256) (((x % 256 : Nat) : Int) :: t) (by omega) (by rw [List.length_cons, ht]; omega)
    simp only [be, List.append_assoc, List.singleton_append]
    exact this
theorem impl_eight {x : Int} (hx : x ≤ 9223372036854775807) : Ev (fun k => impl_Eight.f k x) (eightOf x) := by
  unfold impl_Eight.f eightOf
  by_cases h : x < 0
  · rw [if_pos h]
    exact ev_pos h (ev_ret rfl)
  · rw [if_neg h]
    refine ev_neg h (ev_bind (a := be 8 x.toNat) ?_ (ev_ret rfl))
    unfold impl_high.f
    refine ev_pos (by decide) (ev_pos (by decide) ?_)
    have := impl_high_l0 8 x.toNat [] (by decide) rfl
    rw [Int.toNat_of_nonneg (by omega)] at this
    simpa [wrap64] using this
theorem spec_eight_l0 (x : Nat) (hx : x ≤ 9223372036854775807) (n : Nat) : ∀ (i : Nat), i + n = 8 →
    Ev (fun k => spec_Eight.l0 k (x : Int) (be i (x / 256 ^ n)) ((n : Int) - 1)) (be 8 x) := by
  induction n with
  | zero =>
    intro i hi
    refine Ev.step (fun k => spec_Eight.l0.eq_2 ..) ?_
    obtain rfl : i = 8 := by omega
    refine ev_neg (by omega) (ev_ret ?_)
    rw [Nat.pow_zero, Nat.div_one]
  | succ n ih =>
    intro i hi
    refine Ev.step (fun k => spec_Eight.l0.eq_2 ..) ?_
    have e1 : wrap64 (8 * (((n + 1 : Nat) : Int) - 1)) = ((8 * n : Nat) : Int) := by rw [wr (by omega) (by omega)]; omega
    have e2 : wrap64 (((n + 1 : Nat) : Int) - 1 - 1) = (n : Int) - 1 := by rw [wr (by omega) (by omega)]; omega
    have e3 : shr .i64 (x : Int) ((8 * n : Nat) : Int) = ((x / 256 ^ n : Nat) : Int) := by
      unfold shr
      have e : (256 : Nat) ^ n = 2 ^ (8 * n) := by rw [show (256 : Nat) = 2 ^ 8 from rfl, ← Nat.pow_mul]
      rw [Int.toNat_natCast, Nat.min_eq_left (show 8 * n ≤ IntKind.i64.bits by show 8 * n ≤ 64; omega), e]
      simp
    have e4 : ((x / 256 ^ n : Nat) : Int) % 256 = ((x / 256 ^ n % 256 : Nat) : Int) := by omega
    rw [e1, e2]
    refine ev_pos (by omega) (ev_pos (by omega) (ev_pos (by rw [be_length]; omega) ?_))
    rw [e3, e4]
    have := ih (i + 1) (by omega)
    have e5 : be (i + 1) (x / 256 ^ n) = be i (x / 256 ^ (n + 1)) ++ [((x / 256 ^ n % 256 : Nat) : Int)] := by
      rw [Nat.pow_succ, ← Nat.div_div_eq_div_mul]
      rfl
    rw [e5] at this
    exact this
theorem spec_eight {x : Int} (hx : x ≤ 9223372036854775807) : Ev (fun k => spec_Eight.f k x) (eightOf x) := by
  unfold spec_Eight.f eightOf
  refine ev_some ?_
  by_cases h : x < 0
  · rw [if_pos h]
    exact ev_pos h (ev_ret rfl)
  · rw [if_neg h]
    refine ev_neg h ?_
    have := spec_eight_l0 x.toNat (by omega) 8 0 rfl
    rw [Int.toNat_of_nonneg (by omega)] at this
    exact this
theorem impl_leafin {l : List Int} (hl : l.length ≤ 140737488355000) : impl_leafInput.f l = some (0 :: l) := by
  unfold impl_leafInput.f
  rw [Option.bind_some, if_pos (by simp only [List.length_singleton]; omega)]
  rfl
theorem impl_leaf (a : Int) {l : List Int} (hl : l.length ≤ 140737488355000) : impl_LeafOf.f a l = some (Dig.digest a (0 :: l)) := by
  unfold impl_LeafOf.f
  rw [impl_leafin hl, Option.bind_some, impl_digest, Option.bind_some]
theorem spec_leafin {l : List Int} (hl : l.length ≤ 140737488355000) : spec_l2Leaf.f l = some (0 :: l) := by
  unfold spec_l2Leaf.f
  rw [Option.bind_some, if_pos (by simp only [List.length_singleton]; omega)]
  rfl
theorem spec_leaf (a : Int) {l : List Int} (hl : l.length ≤ 140737488355000) : Ev (fun k => spec_LeafOf.f k a l) (Dig.digest a (0 :: l)) := by
  unfold spec_LeafOf.f
  exact ev_pure (spec_leafin hl) (ev_bind (spec_digest a (0 :: l)) (ev_ret rfl))
theorem shl_one {b : Int} (h : 2 ≤ b ∧ b ≤ 60) : shl .i64 1 b = 2 ^ b.toNat ∧ (4 : Int) ≤ 2 ^ b.toNat ∧ (2 : Int) ^ b.toNat ≤ 1152921504606846976 := by
  have h1 := Dig.two_pow_le b.toNat (by omega)
  have e60 : (2 : Nat) ^ 60 = 1152921504606846976 := by decide
  have ec : (2 : Int) ^ b.toNat = ((2 ^ b.toNat : Nat) : Int) := by simp
  have h2 : 2 ^ 2 ≤ 2 ^ b.toNat := Nat.pow_le_pow_right (by decide) (by omega)
  unfold shl
  rw [Nat.min_eq_left (show b.toNat ≤ IntKind.i64.bits by show b.toNat ≤ 64; omega), IntKind.wrap_i64, ec]
  omega
/-- A number that is a digest of so many bits. -/
def okd (b x : Int) : Prop := (2 ≤ b ∧ b ≤ 60) ∧ 0 ≤ x ∧ x < 2 ^ b.toNat
instance (b x : Int) : Decidable (okd b x) := by unfold okd; infer_instance
theorem okd_le {b x : Int} (h : okd b x) : 0 ≤ x ∧ x ≤ 9223372036854775807 := by
  have := (shl_one h.1).2.2
  have := h.2
  omega
theorem impl_in_eq (a b c : Int) : impl_in.f a b c = some (decide (b ≤ a ∧ a ≤ c)) := by
  unfold impl_in.f
  by_cases h : a ≥ b <;> simp [h]
theorem impl_bits_eq (a : Int) : impl_bitsOk.f a = some (decide (2 ≤ a ∧ a ≤ 60)) := by
  unfold impl_bitsOk.f
  rw [impl_in_eq, Option.bind_some]
theorem impl_isdig (b x : Int) : impl_isDigest.f b x = some (decide (okd b x)) := by
  unfold impl_isDigest.f
  rw [impl_bits_eq, Option.bind_some]
  by_cases h : 2 ≤ b ∧ b ≤ 60
  · obtain ⟨h1, h2, h3⟩ := shl_one h
    rw [if_pos (by simp [h]), if_pos (by omega), h1, wr (by omega) (by omega), impl_in_eq, Option.bind_some]
    congr 1
    apply decide_eq_decide.2
    unfold okd
    omega
  · rw [if_neg (by simp [h])]
    congr 1
    exact (decide_eq_false (fun k => h k.1)).symm
theorem spec_in_eq (a b c : Int) : spec_l1In.f a b c = some (decide (b ≤ a ∧ a ≤ c)) := by
  unfold spec_l1In.f
  by_cases h : a ≥ b <;> simp [h]
theorem spec_isdig (b x : Int) : spec_l2Digest.f b x = some (decide (okd b x)) := by
  unfold spec_l2Digest.f
  rw [spec_in_eq, Option.bind_some]
  by_cases h : 2 ≤ b ∧ b ≤ 60
  · obtain ⟨h1, h2, h3⟩ := shl_one h
    rw [if_pos (by simp [h]), if_pos (by omega), h1, wr (by omega) (by omega), spec_in_eq, Option.bind_some]
    congr 1
    apply decide_eq_decide.2
    unfold okd
    omega
  · rw [if_neg (by simp [h])]
    congr 1
    exact (decide_eq_false (fun k => h k.1)).symm
theorem eightOf_le (x : Int) : (eightOf x).length ≤ 8 := by
  unfold eightOf; split
  · simp
  · rw [be_length]; omega
/-- What a node's digest is taken of. -/
def nodeIn (x y : Int) : List Int := 1 :: (eightOf x ++ eightOf y)
theorem nodeIn_le (x y : Int) : (nodeIn x y).length ≤ 17 := by
  have := eightOf_le x
  have := eightOf_le y
  unfold nodeIn
  simp only [List.length_cons, List.length_append]
  omega
theorem impl_nodein {x y : Int} (hx : x ≤ 9223372036854775807) (hy : y ≤ 9223372036854775807) : Ev (fun k => impl_nodeInput.f k x y) (nodeIn x y) := by
  unfold impl_nodeInput.f
  have h1 := eightOf_le x
  have h2 := eightOf_le y
  refine ev_bind (impl_eight hx) (ev_bind (impl_eight hy) (ev_pure (a := nodeIn x y) ?_ (ev_ret rfl)))
  unfold slices_Concat_byte_byte.f nodeIn
  generalize eightOf x = p at h1 ⊢
  generalize eightOf y = q at h2 ⊢
  have e : [[1], p, q].flatten = 1 :: (p ++ q) := by simp
  rw [e, if_pos (by simp only [List.length_cons, List.length_append]; omega)]
/-- A node's digest. -/
def node (b x y : Int) : Int := if okd b x ∧ okd b y then Dig.digest b (nodeIn x y) else -1
theorem impl_node (b x y : Int) : Ev (fun k => impl_NodeOf.f k b x y) (node b x y) := by
  unfold impl_NodeOf.f node
  refine ev_pure (impl_isdig b x) ?_
  by_cases h1 : okd b x
  · refine ev_pos (decide_eq_true h1) (ev_pure (impl_isdig b y) (Ev.step (fun k => impl_NodeOf.j0.eq_2 ..) ?_))
    by_cases h2 : okd b y
    · rw [if_pos ⟨h1, h2⟩]
      exact ev_neg (by simp [h2]) (ev_bind (impl_nodein (okd_le h1).2 (okd_le h2).2) (ev_pure (impl_digest b (nodeIn x y)) (ev_ret rfl)))
    · rw [if_neg (fun h => h2 h.2)]
      exact ev_pos (by simp [h2]) (ev_ret rfl)
  · rw [if_neg (fun h => h1 h.1)]
    exact ev_neg (by simp [h1]) (Ev.step (fun k => impl_NodeOf.j0.eq_2 ..) (ev_pos rfl (ev_ret rfl)))
theorem spec_nodein {x y : Int} (hx : x ≤ 9223372036854775807) (hy : y ≤ 9223372036854775807) : Ev (fun k => spec_l2Node.f k x y) (nodeIn x y) := by
  unfold spec_l2Node.f nodeIn
  have h1 := eightOf_le x
  have h2 := eightOf_le y
  refine ev_some (ev_bind (spec_eight hx) (ev_pos (by simp only [List.length_singleton]; omega) (ev_some (ev_bind (spec_eight hy) (ev_pos (by simp only [List.length_append, List.length_singleton]; omega) (ev_ret ?_))))))
  simp
theorem spec_node (b x y : Int) : Ev (fun k => spec_NodeOf.f k b x y) (node b x y) := by
  unfold spec_NodeOf.f node
  refine ev_pure (spec_isdig b x) ?_
  by_cases h1 : okd b x
  · refine ev_pos (decide_eq_true h1) (ev_pure (spec_isdig b y) (Ev.step (fun k => spec_NodeOf.j0.eq_2 ..) ?_))
    by_cases h2 : okd b y
    · rw [if_pos ⟨h1, h2⟩]
      exact ev_neg (by simp [h2]) (ev_bind (spec_nodein (okd_le h1).2 (okd_le h2).2) (ev_bind (spec_digest b (nodeIn x y)) (ev_ret rfl)))
    · rw [if_neg (fun h => h2 h.2)]
      exact ev_pos (by simp [h2]) (ev_ret rfl)
  · rw [if_neg (fun h => h1 h.1)]
    exact ev_neg (by simp [h1]) (Ev.step (fun k => spec_NodeOf.j0.eq_2 ..) (ev_pos rfl (ev_ret rfl)))
/-- What a top's digest is taken of. -/
def topIn (many : Nat) (x : Int) : List Int := 2 :: (many : Int) :: eightOf x
theorem topIn_le (many : Nat) (x : Int) : (topIn many x).length ≤ 10 := by
  have := eightOf_le x
  unfold topIn
  simp only [List.length_cons]
  omega
theorem node_okd {b : Int} (hb : 2 ≤ b ∧ b ≤ 60) (x y : Int) : okd b (Dig.digest b (nodeIn x y)) :=
  ⟨hb, Dig.digest_range hb.1 hb.2 (by have := nodeIn_le x y; omega)⟩
theorem drop_one {m : List Int} {i : Nat} {x : Int} {t : List Int} (h : m.drop i = x :: t) : i < m.length ∧ rd m (i : Int) = x ∧ m.drop (i + 1) = t := by
  have hl : i < m.length := by
    have := congrArg List.length h
    simp only [List.length_drop, List.length_cons] at this
    omega
  have h2 := drop_getD m 0 i hl
  rw [h] at h2
  injection h2 with h3 h4
  exact ⟨hl, by rw [rd_nat]; exact h3.symm, h4.symm⟩
/-- The level above. -/
def abv (b : Int) : List Int → List Int
  | x :: y :: l => node b x y :: abv b l
  | [x] => [x]
  | [] => []
theorem abv_length (b : Int) : ∀ l : List Int, (abv b l).length = (l.length + 1) / 2
  | [] => rfl
  | [x] => by simp [abv]
  | x :: y :: l => by
    have := abv_length b l
    simp only [abv, List.length_cons]
    omega
theorem abv_okd {b : Int} (hb : 2 ≤ b ∧ b ≤ 60) : ∀ l : List Int, (∀ x ∈ l, okd b x) → ∀ x ∈ abv b l, okd b x
  | [], _ => fun x hx => by cases hx
  | [y], h => fun x hx => h x hx
  | y :: z :: l, h => fun x hx => by
    simp only [abv, List.mem_cons] at hx
    rcases hx with rfl | hx
    · unfold node
      rw [if_pos ⟨h y (by simp), h z (by simp)⟩]
      exact node_okd hb _ _
    · exact abv_okd hb l (fun w hw => h w (by simp [hw])) x hx
/-- All levels of a tree, the leaves' first. -/
def lvs (b : Int) : Nat → List Int → List (List Int)
  | 0, l => [l]
  | n + 1, l => if l.length = 1 then [l] else l :: lvs b n (abv b l)
/-- The one number of the last level. -/
def apex (b : Int) : Nat → List Int → Int
  | 0, l => rd l 0
  | n + 1, l => if l.length = 1 then rd l 0 else apex b n (abv b l)
theorem one_of {l : List Int} (h : l.length = 1) : l = [rd l 0] := by
  match l, h with
  | [x], _ => rfl
theorem lvs_last (b : Int) (n : Nat) : ∀ l : List Int, 1 ≤ l.length → l.length ≤ n + 1 → ∃ pre, lvs b n l = pre ++ [[apex b n l]] ∧ pre.length ≤ n := by
  induction n with
  | zero =>
    intro l h1 h2
    refine ⟨[], ?_, Nat.le_refl _⟩
    unfold lvs apex
    rw [List.nil_append, ← one_of (by omega)]
  | succ n ih =>
    intro l h1 h2
    unfold lvs apex
    by_cases h : l.length = 1
    · rw [if_pos h, if_pos h]
      exact ⟨[], by rw [List.nil_append, ← one_of h], Nat.zero_le _⟩
    · rw [if_neg h, if_neg h]
      have hl := abv_length b l
      obtain ⟨pre, e, hp⟩ := ih (abv b l) (by omega) (by omega)
      exact ⟨l :: pre, by rw [e, List.cons_append], by simp only [List.length_cons]; omega⟩
theorem apex_okd {b : Int} (hb : 2 ≤ b ∧ b ≤ 60) (n : Nat) : ∀ l : List Int, 1 ≤ l.length → l.length ≤ n + 1 → (∀ x ∈ l, okd b x) → okd b (apex b n l) := by
  have h0 : ∀ l : List Int, 1 ≤ l.length → (∀ x ∈ l, okd b x) → okd b (rd l 0) := by
    intro l h1 h
    match l, h1 with
    | x :: l, _ => exact h x List.mem_cons_self
  induction n with
  | zero => intro l h1 _ h; exact h0 l h1 h
  | succ n ih =>
    intro l h1 h2 h
    unfold apex
    split
    · exact h0 l h1 h
    · have hl := abv_length b l
      exact ih (abv b l) (by omega) (by omega) (abv_okd hb l h)
/-- The leaves' digests. -/
def leafs (b : Int) (l : List (List Int)) : List Int := l.map fun x => Dig.digest b (0 :: x)
theorem leafs_length (b : Int) (l : List (List Int)) : (leafs b l).length = l.length := by simp [leafs]
theorem leafs_okd {b : Int} (hb : 2 ≤ b ∧ b ≤ 60) {l : List (List Int)} (h : ∀ x ∈ l, x.length < 4000) : ∀ x ∈ leafs b l, okd b x := by
  intro x hx
  obtain ⟨y, hy, rfl⟩ := List.mem_map.1 hx
  have := h y hy
  exact ⟨hb, Dig.digest_range hb.1 hb.2 (by simp only [List.length_cons]; omega)⟩
/-- Leaves that are such of a tree. -/
def lok (b : Int) (l : List (List Int)) : Prop := ((2 ≤ b ∧ b ≤ 60) ∧ 1 ≤ l.length ∧ l.length ≤ 16) ∧ ∀ x ∈ l, x.length < 4000
instance (b : Int) (l : List (List Int)) : Decidable (lok b l) := by unfold lok; infer_instance
theorem impl_lok (b : Int) (l : List (List Int)) : impl_leavesOk.f b l = some (decide (lok b l)) := by
  have h : impl_leavesOk.f b l = some (decide ((2 ≤ b ∧ b ≤ 60) ∧ 1 ≤ l.length ∧ l.length ≤ 16) && l.all fun x => decide (x.length < 4000)) := rfl
  rw [h]
  congr 1
  rw [Bool.eq_iff_iff, Bool.and_eq_true, decide_eq_true_eq, List.all_eq_true, decide_eq_true_eq]
  unfold lok
  simp only [decide_eq_true_eq]
theorem snoc_take (f : List Int → Int) (l : List (List Int)) (i : Nat) (h : i < l.length) : (l.map f).take i ++ [f (l.getD i [])] = (l.map f).take (i + 1) := by
  rw [List.take_succ_eq_append_getElem (by simpa using h), List.getElem_map, List.getD_eq_getElem?_getD, List.getElem?_eq_getElem h]
  rfl
theorem lv_l2 (b : Int) (m : List Int) (out : List (List Int)) (hm : m.length ≤ 16) (res : List (List Int)) : ∀ (t : List Int) (i : Nat) (acc : List Int), m.drop i = t → acc.length + t.length ≤ 100 → i ≤ 100 →
    Ev (fun k => impl_levels.l1 k b (acc ++ abv b t) out) res → Ev (fun k => impl_levels.l2 k b m out acc (i : Int)) res
  | [], i, acc, hd, ha, hi, hk => by
    have hl : m.length ≤ i := List.drop_eq_nil_iff.1 hd
    refine Ev.step (fun k => impl_levels.l2.eq_2 ..) (ev_neg (by omega) ?_)
    rw [abv, List.append_nil] at hk
    exact hk
  | [x], i, acc, hd, ha, hi, hk => by
    obtain ⟨h1, h2, h3⟩ := drop_one hd
    have hl : m.length ≤ i + 1 := List.drop_eq_nil_iff.1 h3
    simp only [List.length_cons, List.length_nil] at ha
    refine Ev.step (fun k => impl_levels.l2.eq_2 ..) (ev_pos (by omega) (ev_neg (by rw [wr_succ (by omega)]; omega) (ev_pos (by omega) (ev_pos (by omega) ?_))))
    rw [h2, wr (n := (i : Int) + 2) (by omega) (by omega)]
    exact lv_l2 b m out hm res [] (i + 2) (acc ++ [x]) (List.drop_eq_nil_iff.2 (by omega)) (by simp only [List.length_append, List.length_singleton, List.length_nil]; omega) (by omega) (by rw [abv, List.append_nil]; exact hk)
  | x :: y :: t, i, acc, hd, ha, hi, hk => by
    obtain ⟨h1, h2, h3⟩ := drop_one hd
    obtain ⟨h4, h5, h6⟩ := drop_one h3
    simp only [List.length_cons] at ha
    refine Ev.step (fun k => impl_levels.l2.eq_2 ..) (ev_pos (by omega) (ev_pos (by rw [wr_succ (by omega)]; omega) (ev_pos (by omega) (ev_pos (by rw [wr_succ (by omega)]; omega) ?_))))
    rw [h2, wr_succ (n := i) (by omega), h5, wr (n := (i : Int) + 2) (by omega) (by omega)]
    refine ev_bind (impl_node b x y) (ev_pos (by omega) ?_)
    refine lv_l2 b m out hm res t (i + 2) (acc ++ [node b x y]) h6 (by simp only [List.length_append, List.length_singleton]; omega) (by omega) ?_
    rw [List.append_assoc]
    exact hk
theorem lv_l1 (b : Int) (n : Nat) : ∀ (m : List Int) (out : List (List Int)), 1 ≤ m.length → m.length ≤ n + 1 → m.length ≤ 16 → out.length + n ≤ 1000 → Ev (fun k => impl_levels.l1 k b m out) (out ++ lvs b n m) := by
  induction n with
  | zero =>
    intro m out h1 h2 h3 h4
    refine Ev.step (fun k => impl_levels.l1.eq_2 ..) (ev_pos (by omega) (ev_some (ev_pos (by omega) (ev_ret ?_))))
    unfold lvs
    rfl
  | succ n ih =>
    intro m out h1 h2 h3 h4
    refine Ev.step (fun k => impl_levels.l1.eq_2 ..) (ev_pos (by omega) (ev_some ?_))
    unfold lvs
    by_cases h : m.length = 1
    · rw [if_pos h]
      exact ev_pos (by omega) (ev_ret rfl)
    · rw [if_neg h]
      have hl := abv_length b m
      refine ev_neg (by omega) (lv_l2 b m (out ++ [m]) h3 _ m 0 [] rfl (by simp only [List.length_nil]; omega) (by omega) ?_)
      have := ih (abv b m) (out ++ [m]) (by omega) (by omega) (by omega) (by simp only [List.length_append, List.length_singleton]; omega)
      rw [List.append_assoc] at this
      exact this
theorem lv_l0 (b : Int) (l : List (List Int)) (h1 : 1 ≤ l.length) (h2 : l.length ≤ 16) (hs : ∀ x ∈ l, x.length < 4000) (n : Nat) : ∀ i : Nat, i + n = l.length →
    Ev (fun k => impl_levels.l0 k b ((leafs b l).take i) [] l (l.length : Int) (i : Int)) (lvs b 15 (leafs b l)) := by
  have hll := leafs_length b l
  induction n with
  | zero =>
    intro i hi
    refine Ev.step (fun k => impl_levels.l0.eq_2 ..) (ev_neg (by omega) ?_)
    rw [List.take_of_length_le (by omega)]
    exact lv_l1 b 15 (leafs b l) [] (by omega) (by omega) (by omega) (by decide)
  | succ n ih =>
    intro i hi
    have hx : (l.getD i []).length < 4000 := by
      rw [List.getD_eq_getElem?_getD, List.getElem?_eq_getElem (by omega)]
      exact hs _ (List.getElem_mem _)
    refine Ev.step (fun k => impl_levels.l0.eq_2 ..) (ev_pos (by omega) (ev_pos (by omega) (ev_pos (by omega) ?_)))
    have er : rd_L1 l (i : Int) = l.getD i [] := by unfold rd_L1; rw [Int.toNat_natCast]
    rw [er]
    refine ev_pure (impl_leaf b (by omega)) (ev_pos (by rw [List.length_take]; omega) ?_)
    have es : (leafs b l).take i ++ [Dig.digest b (0 :: l.getD i [])] = (leafs b l).take (i + 1) := snoc_take (fun x => Dig.digest b (0 :: x)) l i (by omega)
    rw [wr_succ (by omega), es]
    exact ih (i + 1) (by omega)
theorem impl_lvs (b : Int) (l : List (List Int)) (h1 : 1 ≤ l.length) (h2 : l.length ≤ 16) (hs : ∀ x ∈ l, x.length < 4000) : Ev (fun k => impl_levels.f k b l) (lvs b 15 (leafs b l)) := by
  unfold impl_levels.f
  exact lv_l0 b l h1 h2 hs l.length 0 (by omega)
/-- The top's input of leaves. -/
def topOfL (b : Int) (l : List (List Int)) : List Int := topIn l.length (apex b 15 (leafs b l))
theorem lok_apex {b : Int} {l : List (List Int)} (h : lok b l) : okd b (apex b 15 (leafs b l)) := by
  have := leafs_length b l
  exact apex_okd h.1.1 15 (leafs b l) (by have := h.1.2; omega) (by have := h.1.2; omega) (leafs_okd h.1.1 h.2)
theorem last_lvs (b : Int) (l : List (List Int)) (h1 : 1 ≤ l.length) (h2 : l.length ≤ 16) : ∃ pre, lvs b 15 (leafs b l) = pre ++ [[apex b 15 (leafs b l)]] ∧ pre.length ≤ 15 := by
  have := leafs_length b l
  exact lvs_last b 15 (leafs b l) (by omega) (by omega)
theorem rdI_last (pre : List (List Int)) (x : List Int) (h : pre.length ≤ 15) : wrap64 (((pre ++ [x]).length : Int) - 1) = (pre.length : Int) ∧ rd_L3 (pre ++ [x]) (pre.length : Int) = x := by
  refine ⟨?_, ?_⟩
  · rw [List.length_append, List.length_singleton, wr (by omega) (by omega)]
    omega
  · unfold rd_L3
    rw [Int.toNat_natCast, List.getD_eq_getElem?_getD, List.getElem?_append_right (Nat.le_refl _), Nat.sub_self]
    rfl
/-- The place beside. -/
def beside (a : Nat) : Nat := if a % 2 = 0 then a + 1 else a - 1
theorem half_nat (a : Nat) (h : a ≤ 1000) : wrap64 (Int.tdiv (a : Int) 2) = ((a / 2 : Nat) : Int) := by
  rw [Int.tdiv_eq_ediv_of_nonneg (by omega), wr (by omega) (by omega)]
  omega
theorem odd_nat (a : Nat) : Int.tmod (a : Int) 2 = ((a % 2 : Nat) : Int) := by
  rw [Int.tmod_eq_emod_of_nonneg (by omega)]
  omega
theorem xor_one : ∀ a : Fin 16, Go.bits .xor .i64 ((a.val : Nat) : Int) 1 = ((beside a.val : Nat) : Int) := by decide
theorem beside_eq (a : Nat) (h : a ≤ 100) : wrap64 ((wrap64 ((a : Int) + 1)) - (wrap64 (2 * (Int.tmod (a : Int) 2)))) = ((beside a : Nat) : Int) := by
  rw [odd_nat, wr (n := (a : Int) + 1) (by omega) (by omega), wr (n := 2 * ((a % 2 : Nat) : Int)) (by omega) (by omega), wr (by omega) (by omega)]
  unfold beside
  split <;> omega
theorem slv_l2 (b : Int) (m : List Int) (out : List (List Int)) (hm : m.length ≤ 16) (ho : out.length ≤ 1000) (res : List (List Int)) : ∀ (t : List Int) (i : Nat) (acc : List Int), m.drop i = t → acc.length + t.length ≤ 100 → i ≤ 100 →
    Ev (fun k => spec_l2Levels.l1 k b (acc ++ abv b t) (out ++ [acc ++ abv b t])) res → Ev (fun k => spec_l2Levels.l2 k b m out acc (i : Int)) res
  | [], i, acc, hd, ha, hi, hk => by
    have hl : m.length ≤ i := List.drop_eq_nil_iff.1 hd
    refine Ev.step (fun k => spec_l2Levels.l2.eq_2 ..) (ev_neg (by omega) (ev_pos (by omega) ?_))
    rw [abv, List.append_nil] at hk
    exact hk
  | [x], i, acc, hd, ha, hi, hk => by
    obtain ⟨h1, h2, h3⟩ := drop_one hd
    have hl : m.length ≤ i + 1 := List.drop_eq_nil_iff.1 h3
    simp only [List.length_cons, List.length_nil] at ha
    refine Ev.step (fun k => spec_l2Levels.l2.eq_2 ..) (ev_pos (by omega) (ev_neg (by rw [wr_succ (by omega)]; omega) (ev_pos (by omega) (ev_pos (by omega) ?_))))
    rw [h2, wr (n := (i : Int) + 2) (by omega) (by omega)]
    exact slv_l2 b m out hm ho res [] (i + 2) (acc ++ [x]) (List.drop_eq_nil_iff.2 (by omega)) (by simp only [List.length_append, List.length_singleton, List.length_nil]; omega) (by omega) (by rw [abv, List.append_nil]; exact hk)
  | x :: y :: t, i, acc, hd, ha, hi, hk => by
    obtain ⟨h1, h2, h3⟩ := drop_one hd
    obtain ⟨h4, h5, h6⟩ := drop_one h3
    simp only [List.length_cons] at ha
    refine Ev.step (fun k => spec_l2Levels.l2.eq_2 ..) (ev_pos (by omega) (ev_pos (by rw [wr_succ (by omega)]; omega) (ev_pos (by omega) (ev_pos (by rw [wr_succ (by omega)]; omega) ?_))))
    rw [h2, wr_succ (n := i) (by omega), h5, wr (n := (i : Int) + 2) (by omega) (by omega)]
    refine ev_bind (spec_node b x y) (ev_pos (by omega) ?_)
    refine slv_l2 b m out hm ho res t (i + 2) (acc ++ [node b x y]) h6 (by simp only [List.length_append, List.length_singleton]; omega) (by omega) ?_
    rw [List.append_assoc]
    exact hk
theorem slv_l1 (b : Int) (n : Nat) : ∀ (m : List Int) (out : List (List Int)), 1 ≤ m.length → m.length ≤ n + 1 → m.length ≤ 16 → out.length + n ≤ 900 → Ev (fun k => spec_l2Levels.l1 k b m (out ++ [m])) (out ++ lvs b n m) := by
  induction n with
  | zero =>
    intro m out h1 h2 h3 h4
    refine Ev.step (fun k => spec_l2Levels.l1.eq_2 ..) (ev_neg (by omega) (ev_ret ?_))
    unfold lvs
    rfl
  | succ n ih =>
    intro m out h1 h2 h3 h4
    refine Ev.step (fun k => spec_l2Levels.l1.eq_2 ..) ?_
    unfold lvs
    by_cases h : m.length = 1
    · rw [if_pos h]
      exact ev_neg (by omega) (ev_ret rfl)
    · rw [if_neg h]
      have hl := abv_length b m
      refine ev_pos (by omega) (slv_l2 b m (out ++ [m]) h3 (by simp only [List.length_append, List.length_singleton]; omega) _ m 0 [] rfl (by simp only [List.length_nil]; omega) (by omega) ?_)
      have := ih (abv b m) (out ++ [m]) (by omega) (by omega) (by omega) (by simp only [List.length_append, List.length_singleton]; omega)
      rw [List.append_assoc, List.append_assoc] at this
      rw [List.nil_append, List.append_assoc]
      exact this
theorem slv_l0 (b : Int) (l : List (List Int)) (h1 : 1 ≤ l.length) (h2 : l.length ≤ 16) (hs : ∀ x ∈ l, x.length < 4000) (n : Nat) : ∀ i : Nat, i + n = l.length →
    Ev (fun k => spec_l2Levels.l0 k b l ((leafs b l).take i) (i : Int)) (lvs b 15 (leafs b l)) := by
  have hll := leafs_length b l
  induction n with
  | zero =>
    intro i hi
    refine Ev.step (fun k => spec_l2Levels.l0.eq_2 ..) (ev_neg (by omega) ?_)
    rw [List.take_of_length_le (by omega)]
    exact slv_l1 b 15 (leafs b l) [] (by omega) (by omega) (by omega) (by decide)
  | succ n ih =>
    intro i hi
    have hx : (l.getD i []).length < 4000 := by
      rw [List.getD_eq_getElem?_getD, List.getElem?_eq_getElem (by omega)]
      exact hs _ (List.getElem_mem _)
    refine Ev.step (fun k => spec_l2Levels.l0.eq_2 ..) (ev_pos (by omega) (ev_pos (by omega) ?_))
    have er : rd_L1 l (i : Int) = l.getD i [] := by unfold rd_L1; rw [Int.toNat_natCast]
    rw [er]
    refine ev_bind (spec_leaf b (by omega)) (ev_pos (by rw [List.length_take]; omega) ?_)
    have es : (leafs b l).take i ++ [Dig.digest b (0 :: l.getD i [])] = (leafs b l).take (i + 1) := snoc_take (fun x => Dig.digest b (0 :: x)) l i (by omega)
    rw [wr_succ (by omega), es]
    exact ih (i + 1) (by omega)
theorem spec_lvs (b : Int) (l : List (List Int)) (h1 : 1 ≤ l.length) (h2 : l.length ≤ 16) (hs : ∀ x ∈ l, x.length < 4000) : Ev (fun k => spec_l2Levels.f k b l) (lvs b 15 (leafs b l)) := by
  unfold spec_l2Levels.f
  exact slv_l0 b l h1 h2 hs l.length 0 (by omega)
theorem spec_lok_l0 (b : Int) (l : List (List Int)) (hl : l.length ≤ 1048576) (n : Nat) : ∀ i : Nat, i + n = l.length → (∀ x ∈ l.take i, x.length < 4000) → Ev (fun k => spec_l2Leaves.l0 k b l (i : Int)) (decide (lok b l)) := by
  induction n with
  | zero =>
    intro i hi hs
    rw [List.take_of_length_le (by omega)] at hs
    refine Ev.step (fun k => spec_l2Leaves.l0.eq_2 ..) (ev_neg (by omega) (ev_pure (spec_in_eq _ _ _) ?_))
    by_cases h1 : 2 ≤ b ∧ b ≤ 60
    · refine ev_pos (decide_eq_true h1) (ev_pure (spec_in_eq _ _ _) (ev_ret ?_))
      apply decide_eq_decide.2
      unfold lok
      constructor
      · intro h; exact ⟨⟨h1, by omega, by omega⟩, hs⟩
      · intro h; have := h.1.2; omega
    · refine ev_neg (by simp only [decide_eq_true_eq]; exact h1) (ev_ret ?_)
      exact (decide_eq_false (fun h => h1 h.1.1)).symm
  | succ n ih =>
    intro i hi hs
    have er : rd_L1 l (i : Int) = l.getD i [] := by unfold rd_L1; rw [Int.toNat_natCast]
    refine Ev.step (fun k => spec_l2Leaves.l0.eq_2 ..) (ev_pos (by omega) (ev_pos (by omega) ?_))
    rw [er]
    have hm : l.getD i [] ∈ l := by
      rw [List.getD_eq_getElem?_getD, List.getElem?_eq_getElem (by omega)]
      exact List.getElem_mem _
    by_cases hx : (l.getD i []).length < 4000
    · refine ev_neg (by omega) ?_
      rw [wr_succ (by omega)]
      refine ih (i + 1) (by omega) (fun x hx' => ?_)
      rw [← take_getD l [] i (by omega)] at hx'
      rcases List.mem_append.1 hx' with h | h
      · exact hs x h
      · rw [List.mem_singleton.1 h]; exact hx
    · refine ev_pos (by omega) (ev_ret ?_)
      exact (decide_eq_false (fun h => hx (h.2 _ hm))).symm
theorem spec_lok (b : Int) (l : List (List Int)) (hl : l.length ≤ 1048576) : Ev (fun k => spec_l2Leaves.f k b l) (decide (lok b l)) := by
  unfold spec_l2Leaves.f
  exact spec_lok_l0 b l hl l.length 0 (by omega) (fun x hx => by cases hx)
/-- Ascending places, each behind p and below n. -/
def plc (n : Int) : Int → List Int → Bool
  | p, x :: t => (decide (0 ≤ x) && decide (x ≤ n - 1)) && (decide (p < x) && plc n x t)
  | _, [] => true
def plcs (n : Int) (l : List Int) : Bool := plc n (-1) l && decide (0 < l.length)
theorem in_val (a b c : Int) : impl_in.f a b c = some (decide (b ≤ a) && decide (a ≤ c)) := by
  unfold impl_in.f
  by_cases h : a ≥ b <;> simp [h]
theorem sin_val (a b c : Int) : spec_l1In.f a b c = some (decide (b ≤ a) && decide (a ≤ c)) := by
  unfold spec_l1In.f
  by_cases h : a ≥ b <;> simp [h]
theorem last_at {l : List Int} {i : Nat} {x : Int} {t : List Int} (h : l.drop i = x :: t) : rd l (i : Int) = x ∧ i < l.length ∧ l.drop (i + 1) = t := by
  obtain ⟨h1, h2, h3⟩ := drop_one h
  exact ⟨h2, h1, h3⟩
theorem impl_plc_l0 (n : Int) (hn : 0 ≤ n ∧ n ≤ 1000000) (l : List Int) (hl : l.length ≤ 1048576) : ∀ (t : List Int) (i : Nat) (p : Int), l.drop i = t → (i = 0 ∧ p = -1 ∨ 0 < i ∧ p = rd l ((i - 1 : Nat) : Int)) →
    Ev (fun k => impl_placesOk.l0 k l n l (l.length : Int) (i : Int)) (plc n p t && decide (0 < l.length))
  | [], i, p, hd, hp => by
    have h : l.length ≤ i := List.drop_eq_nil_iff.1 hd
    refine Ev.step (fun k => impl_placesOk.l0.eq_2 ..) (ev_neg (by omega) (ev_ret ?_))
    simp [plc]
  | x :: t, i, p, hd, hp => by
    obtain ⟨h1, h2, h3⟩ := last_at hd
    have ih := impl_plc_l0 n hn l hl t (i + 1) x h3 (.inr ⟨by omega, by rw [show i + 1 - 1 = i by omega]; exact h1.symm⟩)
    have ew : wrap64 (n - 1) = n - 1 := wr (by omega) (by omega)
    refine Ev.step (fun k => impl_placesOk.l0.eq_2 ..) (ev_pos (by omega) (ev_pos (by omega) (ev_pos (by omega) (ev_pure (in_val _ _ _) ?_))))
    rw [h1, ew, wr_succ (n := i) (by omega)]
    unfold plc
    by_cases hx : (decide (0 ≤ x) && decide (x ≤ n - 1)) = true
    · rw [hx, Bool.true_and]
      have hx0 : 0 ≤ x := by simp only [Bool.and_eq_true, decide_eq_true_eq] at hx; exact hx.1
      refine ev_pos rfl ?_
      rcases hp with ⟨rfl, rfl⟩ | ⟨hi, rfl⟩
      · have e : decide ((-1 : Int) < x) = true := decide_eq_true (by omega)
        rw [e, Bool.true_and]
        exact ev_neg (by omega) ih
      · have ei : wrap64 ((i : Int) - 1) = ((i - 1 : Nat) : Int) := by rw [wr (by omega) (by omega)]; omega
        refine ev_pos (by omega) ?_
        rw [ei]
        refine ev_pos (by omega) (ev_pos (by omega) ?_)
        generalize rd l ((i - 1 : Nat) : Int) = q
        by_cases hq : q < x
        · rw [decide_eq_true hq, Bool.true_and]
          exact ev_neg (by omega) ih
        · rw [decide_eq_false hq, Bool.false_and, Bool.false_and]
          exact ev_pos (by omega) (ev_ret rfl)
    · simp only [Bool.not_eq_true] at hx
      rw [hx, Bool.false_and, Bool.false_and]
      exact ev_neg (by decide) (ev_ret rfl)
theorem impl_plc (n : Int) (hn : 0 ≤ n ∧ n ≤ 1000000) (l : List Int) (hl : l.length ≤ 1048576) : Ev (fun k => impl_placesOk.f k l n) (plcs n l) := by
  unfold impl_placesOk.f plcs
  exact impl_plc_l0 n hn l hl l 0 (-1) rfl (.inl ⟨rfl, rfl⟩)
theorem spec_plc_l0 (n : Int) (hn : 0 ≤ n ∧ n ≤ 1000000) (l : List Int) (hl : l.length ≤ 1048576) : ∀ (t : List Int) (i : Nat) (p : Int), l.drop i = t → (i = 0 ∧ p = -1 ∨ 0 < i ∧ p = rd l ((i - 1 : Nat) : Int)) →
    Ev (fun k => spec_l2Places.l0 k n l (i : Int)) (plc n p t && decide (0 < l.length))
  | [], i, p, hd, hp => by
    have h : l.length ≤ i := List.drop_eq_nil_iff.1 hd
    refine Ev.step (fun k => spec_l2Places.l0.eq_2 ..) (ev_neg (by omega) (ev_ret ?_))
    simp [plc]
  | x :: t, i, p, hd, hp => by
    obtain ⟨h1, h2, h3⟩ := last_at hd
    have ih := spec_plc_l0 n hn l hl t (i + 1) x h3 (.inr ⟨by omega, by rw [show i + 1 - 1 = i by omega]; exact h1.symm⟩)
    have ew : wrap64 (n - 1) = n - 1 := wr (by omega) (by omega)
    refine Ev.step (fun k => spec_l2Places.l0.eq_2 ..) (ev_pos (by omega) (ev_pos (by omega) (ev_pure (sin_val _ _ _) ?_)))
    rw [h1, ew, wr_succ (n := i) (by omega)]
    unfold plc
    by_cases hx : (decide (0 ≤ x) && decide (x ≤ n - 1)) = true
    · rw [hx, Bool.true_and]
      have hx0 : 0 ≤ x := by simp only [Bool.and_eq_true, decide_eq_true_eq] at hx; exact hx.1
      refine ev_pos rfl ?_
      rcases hp with ⟨rfl, rfl⟩ | ⟨hi, rfl⟩
      · have e : decide ((-1 : Int) < x) = true := decide_eq_true (by omega)
        rw [e, Bool.true_and]
        exact ev_neg (by omega) ih
      · have ei : wrap64 ((i : Int) - 1) = ((i - 1 : Nat) : Int) := by rw [wr (by omega) (by omega)]; omega
        refine ev_pos (by omega) ?_
        rw [ei]
        refine ev_pos (by omega) (ev_pos (by omega) ?_)
        generalize rd l ((i - 1 : Nat) : Int) = q
        by_cases hq : q < x
        · rw [decide_eq_true hq, Bool.true_and]
          exact ev_neg (by omega) ih
        · rw [decide_eq_false hq, Bool.false_and, Bool.false_and]
          exact ev_pos (by omega) (ev_ret rfl)
    · simp only [Bool.not_eq_true] at hx
      rw [hx, Bool.false_and, Bool.false_and]
      exact ev_neg (by decide) (ev_ret rfl)
theorem spec_plc (n : Int) (hn : 0 ≤ n ∧ n ≤ 1000000) (l : List Int) (hl : l.length ≤ 1048576) : Ev (fun k => spec_l2Places.f k n l) (plcs n l) := by
  unfold spec_l2Places.f plcs
  exact spec_plc_l0 n hn l hl l 0 (-1) rfl (.inl ⟨rfl, rfl⟩)
/-- Places that are such: ascending natural numbers below n. -/
def Asc (n : Nat) (m : List Nat) : Prop := m.Pairwise (· < ·) ∧ ∀ x ∈ m, x < n
theorem plc_nat (n : Nat) : ∀ (l : List Int) (p : Int), plc (n : Int) p l = true → ∃ m, l = I m ∧ Asc n m ∧ ∀ x ∈ m, p < (x : Int)
  | [], p, _ => ⟨[], rfl, ⟨.nil, fun x hx => by cases hx⟩, fun x hx => by cases hx⟩
  | x :: t, p, h => by
    unfold plc at h
    simp only [Bool.and_eq_true, decide_eq_true_eq] at h
    obtain ⟨⟨h0, h1⟩, h2, h3⟩ := h
    obtain ⟨m, rfl, ⟨ha, hb⟩, hc⟩ := plc_nat n t x h3
    obtain ⟨y, rfl⟩ := Int.eq_ofNat_of_zero_le h0
    refine ⟨y :: m, rfl, ⟨List.pairwise_cons.2 ⟨fun z hz => by have := hc z hz; omega, ha⟩, fun z hz => ?_⟩, fun z hz => ?_⟩
    · rcases List.mem_cons.1 hz with rfl | hz
      · omega
      · exact hb z hz
    · rcases List.mem_cons.1 hz with rfl | hz
      · exact h2
      · have := hc z hz; omega
theorem asc_ext : ∀ (a b : List Nat), a.Pairwise (· < ·) → b.Pairwise (· < ·) → (∀ x, x ∈ a ↔ x ∈ b) → a = b
  | [], [], _, _, _ => rfl
  | [], y :: b, _, _, h => absurd ((h y).2 List.mem_cons_self) (by simp)
  | x :: a, [], _, _, h => absurd ((h x).1 List.mem_cons_self) (by simp)
  | x :: a, y :: b, ha, hb, h => by
    obtain ⟨ha1, ha2⟩ := List.pairwise_cons.1 ha
    obtain ⟨hb1, hb2⟩ := List.pairwise_cons.1 hb
    have e : x = y := by
      rcases List.mem_cons.1 ((h x).1 List.mem_cons_self) with e | e
      · exact e
      · rcases List.mem_cons.1 ((h y).2 List.mem_cons_self) with e2 | e2
        · exact e2.symm
        · have := hb1 x e; have := ha1 y e2; omega
    subst e
    have e2 : a = b := asc_ext a b ha2 hb2 (fun z => ⟨fun hz => by
      rcases List.mem_cons.1 ((h z).1 (List.mem_cons_of_mem _ hz)) with e | e
      · have := ha1 z hz; omega
      · exact e, fun hz => by
      rcases List.mem_cons.1 ((h z).2 (List.mem_cons_of_mem _ hz)) with e | e
      · have := hb1 z hz; omega
      · exact e⟩)
    rw [e2]
theorem asc_range {n : Nat} {m : List Nat} (h : Asc n m) : m = (List.range n).filter (fun x => decide (x ∈ m)) :=
  asc_ext _ _ h.1 (List.Pairwise.filter _ List.pairwise_lt_range) (fun x => by
    rw [List.mem_filter, List.mem_range, decide_eq_true_eq]
    exact ⟨fun hx => ⟨h.2 x hx, hx⟩, fun hx => hx.2⟩)
theorem asc_length {n : Nat} {m : List Nat} (h : Asc n m) : m.length ≤ n := by
  rw [asc_range h]
  have := List.length_filter_le (fun x => decide (x ∈ m)) (List.range n)
  rw [List.length_range] at this
  exact this
/-- Of each run the first, of natural numbers. -/
def compN : List Nat → List Nat
  | x :: y :: l => if x = y then compN (y :: l) else x :: compN (y :: l)
  | l => l
theorem comp_I : ∀ m : List Nat, compact (I m) = I (compN m)
  | [] => rfl
  | [x] => rfl
  | x :: y :: m => by
    have ih := comp_I (y :: m)
    show compact ((x : Int) :: (y : Int) :: I m) = _
    have ih' : compact ((y : Int) :: I m) = I (compN (y :: m)) := ih
    unfold compact compN
    by_cases h : x = y
    · rw [if_pos (by rw [h]), if_pos h]; exact ih'
    · rw [if_neg (show ¬ ((x : Int) = (y : Int)) by omega), if_neg h, ih']; rfl
theorem compN_mem : ∀ (m : List Nat) (z : Nat), z ∈ compN m ↔ z ∈ m
  | [], z => Iff.rfl
  | [x], z => Iff.rfl
  | x :: y :: m, z => by
    have ih := compN_mem (y :: m) z
    unfold compN
    by_cases h : x = y
    · rw [if_pos h, ih, h]
      simp
    · rw [if_neg h, List.mem_cons, ih, List.mem_cons (a := z) (b := x)]
theorem compN_asc : ∀ m : List Nat, m.Pairwise (· ≤ ·) → (compN m).Pairwise (· < ·)
  | [], _ => .nil
  | [x], _ => List.pairwise_singleton _ _
  | x :: y :: m, h => by
    obtain ⟨h1, h2⟩ := List.pairwise_cons.1 h
    have ih := compN_asc (y :: m) h2
    unfold compN
    by_cases e : x = y
    · rw [if_pos e]; exact ih
    · rw [if_neg e]
      refine List.pairwise_cons.2 ⟨fun z hz => ?_, ih⟩
      have hz := (compN_mem (y :: m) z).1 hz
      have hxy := h1 y List.mem_cons_self
      rcases List.mem_cons.1 hz with rfl | hz
      · omega
      · have := (List.pairwise_cons.1 h2).1 z hz
        omega
/-- The places above. -/
def up1 (m : List Nat) : List Nat := compN (m.map (· / 2))
theorem up1_mem (m : List Nat) (z : Nat) : z ∈ up1 m ↔ ∃ x ∈ m, x / 2 = z := by unfold up1; rw [compN_mem, List.mem_map]
theorem up1_asc {n : Nat} {m : List Nat} (h : Asc n m) : Asc ((n + 1) / 2) (up1 m) := by
  refine ⟨compN_asc _ ?_, fun z hz => ?_⟩
  · rw [List.pairwise_map]
    exact h.1.imp (fun hxy => Nat.div_le_div_right (Nat.le_of_lt hxy))
  · obtain ⟨x, hx, rfl⟩ := (up1_mem m z).1 hz
    have := h.2 x hx
    omega
theorem half_I (x : Nat) (h : x ≤ 1000) : half (x : Int) = ((x / 2 : Nat) : Int) := by
  unfold half
  exact half_nat x h
theorem map_half : ∀ m : List Nat, (∀ x ∈ m, x ≤ 1000) → (I m).map half = I (m.map (· / 2))
  | [], _ => rfl
  | x :: m, h => by
    have ih := map_half m (fun z hz => h z (List.mem_cons_of_mem _ hz))
    have e : I (x :: m) = (x : Int) :: I m := rfl
    have e2 : I ((x :: m).map (· / 2)) = ((x / 2 : Nat) : Int) :: I (m.map (· / 2)) := rfl
    rw [e, e2, List.map_cons, ih, half_I x (h x List.mem_cons_self)]
theorem above_I (m : List Nat) (hm : ∀ x ∈ m, x ≤ 1000) (hl : m.length ≤ 1000) : impl_above.f (I m) = some (I (up1 m)) := by
  unfold impl_above.f
  rw [if_pos (show (I m).length ≤ 1000000 by rw [I_length]; omega)]
  have e := map_half m hm
  unfold up1
  rw [e, comp_I]
/-- What a place adds to the path. -/
def emit (l : List Int) (m : List Nat) (x : Nat) : List Int := if beside x < l.length ∧ ¬ beside x ∈ m then [rd l (beside x : Int)] else []
/-- What a level adds. -/
def outs (l : List Int) (m : List Nat) : List Int := m.flatMap (emit l m)
/-- What all levels but the last add. -/
def mpo (b : Int) : Nat → List Int → List Nat → List Int
  | 0, _, _ => []
  | n + 1, l, m => if l.length = 1 then [] else outs l m ++ mpo b n (abv b l) (up1 m)
/-- What two places side by side add. -/
def pairO (l : List Int) (m : List Nat) (q : Nat) : List Int := (if 2 * q ∈ m ∧ ¬ 2 * q + 1 ∈ m ∧ 2 * q + 1 < l.length then [rd l ((2 * q + 1 : Nat) : Int)] else []) ++ (if 2 * q + 1 ∈ m ∧ ¬ 2 * q ∈ m then [rd l ((2 * q : Nat) : Int)] else [])
theorem flat_filter {α : Type} (p : Nat → Bool) (f : Nat → List α) : ∀ l : List Nat, (l.filter p).flatMap f = l.flatMap (fun x => if p x = true then f x else [])
  | [] => rfl
  | x :: l => by
    have ih := flat_filter p f l
    by_cases h : p x = true
    · rw [List.filter_cons_of_pos h, List.flatMap_cons, List.flatMap_cons, ih, if_pos h]
    · rw [List.filter_cons_of_neg h, List.flatMap_cons, ih, if_neg h, List.nil_append]
theorem flat_two {α : Type} (g : Nat → List α) : ∀ N : Nat, (List.range (2 * N)).flatMap g = (List.range N).flatMap (fun q => g (2 * q) ++ g (2 * q + 1))
  | 0 => rfl
  | N + 1 => by
    rw [show 2 * (N + 1) = 2 * N + 1 + 1 by omega, List.range_succ, List.range_succ, List.range_succ, List.flatMap_append, List.flatMap_append, List.flatMap_append, flat_two g N]
    simp
theorem outs_eq {l : List Int} {m : List Nat} (h : Asc l.length m) : outs l m = (List.range ((l.length + 1) / 2)).flatMap (pairO l m) := by
  have e0 : outs l m = (List.range l.length).flatMap (fun x => if x ∈ m then emit l m x else []) := by
    have := asc_range h
    have h2 : outs l m = ((List.range l.length).filter (fun x => decide (x ∈ m))).flatMap (emit l m) := by
      unfold outs
      exact congrArg (fun z => List.flatMap (emit l m) z) this
    rw [h2, flat_filter]
    simp only [decide_eq_true_eq]
  have e1 : (List.range (2 * ((l.length + 1) / 2))).flatMap (fun x => if x ∈ m then emit l m x else []) = (List.range l.length).flatMap (fun x => if x ∈ m then emit l m x else []) := by
    by_cases hp : l.length % 2 = 0
    · rw [show 2 * ((l.length + 1) / 2) = l.length by omega]
    · rw [show 2 * ((l.length + 1) / 2) = l.length + 1 by omega, List.range_succ, List.flatMap_append]
      have : ¬ l.length ∈ m := fun hx => Nat.lt_irrefl _ (h.2 _ hx)
      simp [this]
  rw [e0, ← e1, flat_two]
  congr 1
  funext q
  unfold pairO emit
  have b0 : beside (2 * q) = 2 * q + 1 := by unfold beside; rw [if_pos (by omega)]
  have b1 : beside (2 * q + 1) = 2 * q := by unfold beside; rw [if_neg (by omega)]; omega
  rw [b0, b1]
  by_cases ha : 2 * q ∈ m
  · by_cases hb : 2 * q + 1 ∈ m
    · simp [ha, hb]
    · simp [ha, hb]
  · by_cases hb : 2 * q + 1 ∈ m
    · have := h.2 _ hb
      have hl : 2 * q < l.length := by omega
      simp [ha, hb, hl]
    · simp [ha, hb]
theorem up_eq {n : Nat} {m : List Nat} (h : Asc n m) : up1 m = (List.range ((n + 1) / 2)).filter (fun q => decide (2 * q ∈ m ∨ 2 * q + 1 ∈ m)) := by
  refine asc_ext _ _ (up1_asc h).1 (List.Pairwise.filter _ List.pairwise_lt_range) (fun z => ?_)
  rw [up1_mem, List.mem_filter, List.mem_range, decide_eq_true_eq]
  constructor
  · rintro ⟨x, hx, rfl⟩
    have := h.2 x hx
    refine ⟨by omega, ?_⟩
    by_cases hp : x % 2 = 0
    · left; rw [show 2 * (x / 2) = x by omega]; exact hx
    · right; rw [show 2 * (x / 2) + 1 = x by omega]; exact hx
  · rintro ⟨_, hx | hx⟩
    · exact ⟨_, hx, by omega⟩
    · exact ⟨_, hx, by omega⟩
theorem I_mem {m : List Nat} {x : Nat} : (x : Int) ∈ I m ↔ x ∈ m := by
  unfold I
  rw [List.mem_map]
  exact ⟨fun ⟨y, hy, e⟩ => by have := Int.ofNat.inj e; subst this; exact hy, fun h => ⟨x, h, rfl⟩⟩
theorem drop_I {m : List Nat} {i : Nat} (h : i < m.length) : m.drop i = m.getD i 0 :: m.drop (i + 1) := by
  rw [List.getD_eq_getElem?_getD, List.getElem?_eq_getElem h]
  exact List.drop_eq_getElem_cons h
theorem index_l0 (m : List Nat) (hm : m.length ≤ 1000) (x : Nat) (n : Nat) : ∀ i : Nat, i + n = m.length → ∃ r : Int, Ev (fun k => slices_Index_int_int.l0 k (I m) (x : Int) (m.length : Int) (i : Int)) r ∧ decide (r ≥ 0) = decide (x ∈ m.drop i) := by
  induction n with
  | zero =>
    intro i hi
    rw [List.drop_eq_nil_of_le (by omega)]
    exact ⟨-1, Ev.step (fun k => slices_Index_int_int.l0.eq_2 ..) (ev_neg (by omega) (ev_ret rfl)), by simp⟩
  | succ n ih =>
    intro i hi
    obtain ⟨r, e, hr⟩ := ih (i + 1) (by omega)
    have hl := I_length m
    rw [drop_I (m := m) (i := i) (by omega)]
    by_cases h : x = m.getD i 0
    · refine ⟨(i : Int), Ev.step (fun k => slices_Index_int_int.l0.eq_2 ..) (ev_pos (by omega) (ev_pos (by omega) (ev_pos (by omega) (ev_pos (by rw [rd_I]; exact congrArg Int.ofNat h) (ev_ret rfl))))), ?_⟩
      rw [decide_eq_true (by omega), decide_eq_true (by rw [h]; exact List.mem_cons_self)]
    · refine ⟨r, Ev.step (fun k => slices_Index_int_int.l0.eq_2 ..) (ev_pos (by omega) (ev_pos (by omega) (ev_pos (by omega) (ev_neg (by rw [rd_I]; exact fun e => h (Int.ofNat.inj e)) ?_)))), ?_⟩
      · rw [wr_succ (by omega)]; exact e
      · rw [hr]; exact decide_eq_decide.2 ⟨fun z => List.mem_cons_of_mem _ z, fun z => (List.mem_cons.1 z).resolve_left h⟩
theorem impl_has (m : List Nat) (hm : m.length ≤ 1000) (x : Nat) : Ev (fun k => slices_Contains_int_int.f k (I m) (x : Int)) (decide (x ∈ m)) := by
  obtain ⟨r, e, hr⟩ := index_l0 m hm x m.length 0 (by omega)
  unfold slices_Contains_int_int.f slices_Index_int_int.f
  rw [I_length]
  refine ev_bind e (ev_ret ?_)
  rw [hr]
  rfl
theorem has_l0 (m : List Nat) (hm : m.length ≤ 1000) (x : Nat) (n : Nat) : ∀ i : Nat, i + n = m.length → ∃ r : Int, Ev (fun k => spec_l2Has.l0 k (I m) (x : Int) (i : Int)) r ∧ decide (r ≥ 0) = decide (x ∈ m.drop i) := by
  induction n with
  | zero =>
    intro i hi
    rw [List.drop_eq_nil_of_le (by omega)]
    have hl := I_length m
    exact ⟨-1, Ev.step (fun k => spec_l2Has.l0.eq_2 ..) (ev_neg (by omega) (ev_ret rfl)), by simp⟩
  | succ n ih =>
    intro i hi
    obtain ⟨r, e, hr⟩ := ih (i + 1) (by omega)
    have hl := I_length m
    rw [drop_I (m := m) (i := i) (by omega)]
    by_cases h : x = m.getD i 0
    · refine ⟨(i : Int), Ev.step (fun k => spec_l2Has.l0.eq_2 ..) (ev_pos (by omega) (ev_pos (by omega) (ev_pos (by rw [rd_I]; exact congrArg Int.ofNat h.symm) (ev_ret rfl)))), ?_⟩
      rw [decide_eq_true (by omega), decide_eq_true (by rw [h]; exact List.mem_cons_self)]
    · refine ⟨r, Ev.step (fun k => spec_l2Has.l0.eq_2 ..) (ev_pos (by omega) (ev_pos (by omega) (ev_neg (by rw [rd_I]; exact fun e => h (Int.ofNat.inj e).symm) ?_))), ?_⟩
      · rw [wr_succ (by omega)]; exact e
      · rw [hr]; exact decide_eq_decide.2 ⟨fun z => List.mem_cons_of_mem _ z, fun z => (List.mem_cons.1 z).resolve_left h⟩
theorem spec_has (m : List Nat) (hm : m.length ≤ 1000) (x : Nat) : ∃ r : Int, Ev (fun k => spec_l2Has.f k (I m) (x : Int)) r ∧ decide (r ≥ 0) = decide (x ∈ m) := by
  obtain ⟨r, e, hr⟩ := has_l0 m hm x m.length 0 (by omega)
  exact ⟨r, by unfold spec_l2Has.f; exact e, hr⟩
theorem pairO_le (l : List Int) (m : List Nat) (q : Nat) : (pairO l m q).length ≤ 1 := by
  unfold pairO
  by_cases ha : 2 * q ∈ m
  · by_cases hb : 2 * q + 1 ∈ m
    · simp [ha, hb]
    · by_cases hl : 2 * q + 1 < l.length <;> simp [ha, hb, hl]
  · by_cases hb : 2 * q + 1 ∈ m <;> simp [ha, hb]
theorem pairs_le (l : List Int) (m : List Nat) : ∀ q : Nat, ((List.range q).flatMap (pairO l m)).length ≤ q
  | 0 => Nat.le_refl _
  | q + 1 => by
    have ih := pairs_le l m q
    have := pairO_le l m q
    rw [List.range_succ, List.flatMap_append, List.length_append]
    simp only [List.flatMap_cons, List.flatMap_nil, List.append_nil]
    omega
theorem filt_le (p : Nat → Bool) (q : Nat) : ((List.range q).filter p).length ≤ q := by
  have := List.length_filter_le p (List.range q)
  rw [List.length_range] at this
  exact this
theorem halfq (q : Nat) (h : q ≤ 500) : wrap64 (Int.tdiv (2 * (q : Int)) 2) = (q : Int) := by
  have := half_nat (2 * q) (by omega)
  rw [show ((2 * q : Nat) : Int) = 2 * (q : Int) by omega] at this
  rw [this]
  omega
/-- One level as the reference goes through it. -/
theorem spec_lv {L : List (List Int)} {i : Nat} {l : List Int} {m : List Nat} {o : List Int} {R : List Int × Bool} (hi : i < L.length) (hL : L.length ≤ 100) (hl : rd_L3 L (i : Int) = l) (hn : l.length ≤ 16) (hm : m.length ≤ 1000) (ho : o.length ≤ 10000)
    (hfin : Ev (fun k => spec_ManyPath.l0 k (I ((List.range ((l.length + 1) / 2)).filter (fun q => decide (2 * q ∈ m ∨ 2 * q + 1 ∈ m)))) (o ++ (List.range ((l.length + 1) / 2)).flatMap (pairO l m)) L (wrap64 ((i : Int) + 1))) R) (r : Nat) : ∀ q : Nat, q + r = (l.length + 1) / 2 →
    Ev (fun k => spec_ManyPath.l1 k (I m) (o ++ (List.range q).flatMap (pairO l m)) L (i : Int) (I ((List.range q).filter (fun q => decide (2 * q ∈ m ∨ 2 * q + 1 ∈ m)))) (2 * (q : Int))) R := by
  induction r with
  | zero =>
    intro q hq
    have e : q = (l.length + 1) / 2 := by omega
    subst e
    refine Ev.step (fun k => spec_ManyPath.l1.eq_2 ..) (ev_pos (by omega) (ev_pos (by omega) (ev_neg ?_ hfin)))
    rw [hl]
    omega
  | succ r ih =>
    intro q hq
    have h1 := ih (q + 1) (by omega)
    rw [List.range_succ, List.filter_append, List.flatMap_append, I_append] at h1
    have e2 : Unit → wrap64 (2 * (q : Int) + 2) = 2 * ((q + 1 : Nat) : Int) := fun _ => by rw [wr (by omega) (by omega)]; omega
    have e1 : Unit → wrap64 (2 * (q : Int) + 1) = ((2 * q + 1 : Nat) : Int) := fun _ => by rw [wr (by omega) (by omega)]; omega
    have e0 : 2 * (q : Int) = ((2 * q : Nat) : Int) := by omega
    obtain ⟨r1, v1, w1⟩ := spec_has m hm (2 * q)
    obtain ⟨r2, v2, w2⟩ := spec_has m hm (2 * q + 1)
    have hx : (I ((List.range q).filter (fun q => decide (2 * q ∈ m ∨ 2 * q + 1 ∈ m)))).length ≤ q := by rw [I_length]; exact filt_le _ q
    have hy : (o ++ (List.range q).flatMap (pairO l m)).length ≤ 10000 + q := by rw [List.length_append]; have := pairs_le l m q; omega
    have hwq : Unit → wrap64 (Int.tdiv (2 * (q : Int)) 2) = (q : Int) := fun _ => halfq q (by omega)
    have hsing : (List.flatMap (pairO l m) [q]) = pairO l m q := by simp
    rw [hsing, ← List.append_assoc] at h1
    refine Ev.step (fun k => spec_ManyPath.l1.eq_2 ..) (ev_pos (by omega) (ev_pos (by omega) (ev_pos (by rw [hl]; omega) ?_)))
    rw [(e1 ())]
    have v1' : Ev (fun k => spec_l2Has.f k (I m) (2 * (q : Int))) r1 := by rw [e0]; exact v1
    refine ev_bind v1' (ev_bind v2 ?_)
    rw [w1, w2]
    generalize I ((List.range q).filter (fun q => decide (2 * q ∈ m ∨ 2 * q + 1 ∈ m))) = nx at hx h1 ⊢
    generalize o ++ (List.range q).flatMap (pairO l m) = oo at hy h1 ⊢
    by_cases hA : 2 * q ∈ m
    · have g1 : r1 ≥ 0 := by rw [decide_eq_true hA] at w1; exact of_decide_eq_true w1
      refine ev_pos g1 (Ev.step (fun k => spec_ManyPath.j3.eq_2 ..) (ev_pos rfl (ev_pos (by omega) (Ev.step (fun k => spec_ManyPath.j4.eq_2 ..) (ev_pos (decide_eq_true hA) ?_)))))
      rw [(hwq ())]
      have hf : List.filter (fun q => decide (2 * q ∈ m ∨ 2 * q + 1 ∈ m)) [q] = [q] := by simp [hA]
      rw [hf] at h1
      by_cases hB : 2 * q + 1 ∈ m
      · have hp : pairO l m q = [] := by unfold pairO; simp [hA, hB]
        rw [hp, List.append_nil] at h1
        refine ev_pos (decide_eq_true hB) (Ev.step (fun k => spec_ManyPath.j5.eq_2 ..) (ev_neg (by simp) (ev_pos (decide_eq_true hB) (ev_pos (decide_eq_true hA) ?_))))
        rw [(e2 ())]
        exact h1
      · refine ev_neg (by simpa using hB) (ev_pos (by omega) (ev_pos (by omega) ?_))
        rw [hl, (e1 ())]
        by_cases hlt : 2 * q + 1 < l.length
        · have hp : pairO l m q = [rd l ((2 * q + 1 : Nat) : Int)] := by unfold pairO; simp [hA, hB, hlt]
          rw [hp] at h1
          refine Ev.step (fun k => spec_ManyPath.j5.eq_2 ..) (ev_pos (decide_eq_true (by omega)) (ev_pos (by omega) (ev_pos (by omega) ?_)))
          rw [(e1 ()), hl]
          refine ev_pos (by omega) (ev_pos (by omega) (ev_pos (by omega) (ev_some (ev_neg (by simpa using hB) ?_))))
          rw [(e2 ())]
          exact h1
        · have hp : pairO l m q = [] := by unfold pairO; simp [hA, hB, hlt]
          rw [hp, List.append_nil] at h1
          refine Ev.step (fun k => spec_ManyPath.j5.eq_2 ..) (ev_neg (by simp only [decide_eq_true_eq]; omega) (ev_neg (by simpa using hB) ?_))
          rw [(e2 ())]
          exact h1
    · have g1 : ¬ r1 ≥ 0 := by rw [decide_eq_false hA] at w1; exact of_decide_eq_false w1
      refine ev_neg g1 ?_
      by_cases hB : 2 * q + 1 ∈ m
      · have hf : List.filter (fun q => decide (2 * q ∈ m ∨ 2 * q + 1 ∈ m)) [q] = [q] := by simp [hB]
        have hp : pairO l m q = [rd l ((2 * q : Nat) : Int)] := by unfold pairO; simp [hA, hB]
        rw [hf, hp] at h1
        refine Ev.step (fun k => spec_ManyPath.j3.eq_2 ..) (ev_pos (decide_eq_true hB) (ev_pos (by omega) (Ev.step (fun k => spec_ManyPath.j4.eq_2 ..) (ev_neg (by simpa using hA) (Ev.step (fun k => spec_ManyPath.j5.eq_2 ..) (ev_neg (by simp) (ev_pos (decide_eq_true hB) (ev_neg (by simpa using hA) (ev_pos (by omega) (ev_pos (by omega) (ev_pos (by omega) ?_)))))))))))
        rw [hl, (hwq ()), (e2 ())]
        refine ev_pos (by omega) (ev_pos (by omega) ?_)
        rw [e0]
        exact h1
      · have hf : List.filter (fun q => decide (2 * q ∈ m ∨ 2 * q + 1 ∈ m)) [q] = [] := by simp [hA, hB]
        have hp : pairO l m q = [] := by unfold pairO; simp [hA, hB]
        rw [hf, hp, List.append_nil, I_nil, List.append_nil] at h1
        refine Ev.step (fun k => spec_ManyPath.j3.eq_2 ..) (ev_neg (by simpa using hB) (Ev.step (fun k => spec_ManyPath.j4.eq_2 ..) (ev_neg (by simpa using hA) (Ev.step (fun k => spec_ManyPath.j5.eq_2 ..) (ev_neg (by simp) (ev_neg (by simpa using hB) ?_))))))
        rw [(e2 ())]
        exact h1
theorem lvs_pos (b : Int) (n : Nat) (l : List Int) : 1 ≤ (lvs b n l).length := by
  cases n with
  | zero => exact Nat.le_refl _
  | succ n => unfold lvs; split <;> simp
theorem at_drop {L : List (List Int)} {i : Nat} {l : List Int} {t : List (List Int)} (h : L.drop i = l :: t) : i < L.length ∧ rd_L3 L (i : Int) = l ∧ L.length = i + 1 + t.length ∧ L.drop (i + 1) = t := by
  have hl : i < L.length := by
    have := congrArg List.length h
    simp only [List.length_drop, List.length_cons] at this
    omega
  have hn := congrArg List.length h
  simp only [List.length_drop, List.length_cons] at hn
  refine ⟨hl, ?_, by omega, ?_⟩
  · unfold rd_L3
    rw [Int.toNat_natCast, List.getD_eq_getElem?_getD, List.getElem?_eq_getElem hl]
    rw [List.drop_eq_getElem_cons hl] at h
    injection h
  · rw [List.drop_eq_getElem_cons hl] at h
    injection h
theorem outs_le {l : List Int} {m : List Nat} (h : Asc l.length m) : (outs l m).length ≤ (l.length + 1) / 2 := by
  rw [outs_eq h]
  exact pairs_le l m _
theorem spec_mp (b : Int) (L : List (List Int)) (hL : L.length ≤ 100) (n : Nat) : ∀ (i : Nat) (l : List Int) (m : List Nat) (o : List Int), L.drop i = lvs b n l → 1 ≤ l.length → l.length ≤ n + 1 → l.length ≤ 16 → Asc l.length m → o.length + 16 * n ≤ 1000 →
    Ev (fun k => spec_ManyPath.l0 k (I m) o L (i : Int)) (o ++ mpo b n l m, true) := by
  have last : ∀ (i : Nat) (l : List Int) (m : List Nat) (o : List Int), L.drop i = [l] → Ev (fun k => spec_ManyPath.l0 k (I m) o L (i : Int)) (o, true) := by
    intro i l m o hd
    obtain ⟨h1, _, h3, _⟩ := at_drop hd
    simp only [List.length_nil] at h3
    exact Ev.step (fun k => spec_ManyPath.l0.eq_2 ..) (ev_neg (by rw [wr_succ (by omega)]; omega) (ev_ret rfl))
  induction n with
  | zero =>
    intro i l m o hd _ _ _ _ _
    have := last i l m o hd
    unfold mpo
    rw [List.append_nil]
    exact this
  | succ n ih =>
    intro i l m o hd h1 h2 h16 ha ho
    unfold lvs at hd
    unfold mpo
    by_cases h : l.length = 1
    · rw [if_pos h] at hd
      rw [if_pos h, List.append_nil]
      exact last i l m o hd
    · rw [if_neg h] at hd
      rw [if_neg h]
      obtain ⟨g1, g2, g3, g4⟩ := at_drop hd
      have hp := lvs_pos b n (abv b l)
      have hab := abv_length b l
      have hm := asc_length ha
      have ih2 := ih (i + 1) (abv b l) (up1 m) (o ++ outs l m) g4 (by omega) (by omega) (by omega) (by rw [hab]; exact up1_asc ha) (by rw [List.length_append]; have := outs_le ha; omega)
      rw [List.append_assoc, up_eq ha, outs_eq ha] at ih2
      refine Ev.step (fun k => spec_ManyPath.l0.eq_2 ..) (ev_pos (by rw [wr_succ (by omega)]; omega) ?_)
      have := spec_lv (L := L) (i := i) (l := l) (m := m) (o := o) (R := (o ++ ((List.range ((l.length + 1) / 2)).flatMap (pairO l m) ++ mpo b n (abv b l) ((List.range ((l.length + 1) / 2)).filter (fun q => decide (2 * q ∈ m ∨ 2 * q + 1 ∈ m)))), true)) g1 hL g2 h16 (by omega) (by omega) (by rw [wr_succ (by omega)]; exact ih2) ((l.length + 1) / 2) 0 (Nat.zero_add _)
      rw [outs_eq ha, up_eq ha]
      simpa [I_nil] using this
theorem impl_lv {L : List (List Int)} {i : Nat} {l : List Int} {m : List Nat} {o : List Int} {R : List Int × Bool} {z : Int} (hn : l.length ≤ 16) (ha : Asc l.length m) (ho : o.length ≤ 10000)
    (hfin : Ev (fun k => impl_ManyPath.l0 k (I (up1 m)) (o ++ outs l m) L z (wrap64 ((i : Int) + 1))) R) (r : Nat) : ∀ j : Nat, j + r = m.length →
    Ev (fun k => impl_ManyPath.l1 k (I m) (o ++ (m.take j).flatMap (emit l m)) l L z (i : Int) (I m) (m.length : Int) (j : Int)) R := by
  have hm := asc_length ha
  have hI := I_length m
  have hel : ∀ x, (emit l m x).length ≤ 1 := by intro x; unfold emit; split <;> simp
  have hfl : ∀ t : List Nat, (t.flatMap (emit l m)).length ≤ t.length := by
    intro t
    induction t with
    | nil => exact Nat.le_refl _
    | cons x t ih => rw [List.flatMap_cons, List.length_append, List.length_cons]; have := hel x; omega
  induction r with
  | zero =>
    intro j hj
    refine Ev.step (fun k => impl_ManyPath.l1.eq_2 ..) (ev_neg (by omega) (ev_pure (above_I m (fun x hx => by have := ha.2 x hx; omega) (by omega)) ?_))
    rw [List.take_of_length_le (by omega)]
    exact hfin
  | succ r ih =>
    intro j hj
    have h1 := ih (j + 1) (by omega)
    have et : m.take (j + 1) = m.take j ++ [m.getD j 0] := by
      rw [List.take_succ_eq_append_getElem (by omega), List.getD_eq_getElem?_getD, List.getElem?_eq_getElem (by omega)]; rfl
    rw [et, List.flatMap_append, ← List.append_assoc] at h1
    have hxm : m.getD j 0 ∈ m := by rw [List.getD_eq_getElem?_getD, List.getElem?_eq_getElem (by omega)]; exact List.getElem_mem _
    have hx := ha.2 _ hxm
    have hlen : (o ++ (m.take j).flatMap (emit l m)).length ≤ 10000 + 16 := by
      rw [List.length_append]
      have := hfl (m.take j)
      rw [List.length_take] at this
      omega
    have hrd : rd (I m) (j : Int) = ((m.getD j 0 : Nat) : Int) := rd_I m j
    have hsing : List.flatMap (emit l m) [m.getD j 0] = emit l m (m.getD j 0) := by simp
    rw [hsing] at h1
    generalize m.getD j 0 = x at hx hxm hrd h1
    have hxor : Go.bits .xor .i64 (x : Int) 1 = ((beside x : Nat) : Int) := xor_one ⟨x, by omega⟩
    generalize o ++ (m.take j).flatMap (emit l m) = oo at hlen h1 ⊢
    refine Ev.step (fun k => impl_ManyPath.l1.eq_2 ..) (ev_pos (by omega) (ev_pos (by omega) (ev_pos (by omega) ?_)))
    rw [hrd, hxor, wr_succ (by omega)]
    by_cases hb : beside x < l.length
    · refine ev_pos (by omega) (ev_bind (impl_has m (by omega) (beside x)) ?_)
      by_cases hc : beside x ∈ m
      · have he : emit l m x = [] := by unfold emit; rw [if_neg (fun h => h.2 hc)]
        rw [he, List.append_nil] at h1
        exact ev_pos (decide_eq_true hc) h1
      · have he : emit l m x = [rd l (beside x : Int)] := by unfold emit; rw [if_pos ⟨hb, hc⟩]
        rw [he] at h1
        exact ev_neg (by simpa using hc) (ev_pos (by omega) (ev_pos (by omega) h1))
    · have he : emit l m x = [] := by unfold emit; rw [if_neg (fun h => hb h.1)]
      rw [he, List.append_nil] at h1
      exact ev_neg (by omega) h1
theorem outs_one {l : List Int} {m : List Nat} (h : l.length = 1) (ha : Asc l.length m) : outs l m = [] := by
  unfold outs
  rw [List.flatMap_eq_nil_iff]
  intro x hx
  have := ha.2 x hx
  have e : x = 0 := by omega
  subst e
  unfold emit beside
  rw [if_neg (by simp; omega)]
theorem impl_mp (b : Int) (L : List (List Int)) (hL : L.length ≤ 100) (n : Nat) : ∀ (i : Nat) (l : List Int) (m : List Nat) (o : List Int), L.drop i = lvs b n l → 1 ≤ l.length → l.length ≤ n + 1 → l.length ≤ 16 → Asc l.length m → o.length + 16 * n ≤ 1000 →
    Ev (fun k => impl_ManyPath.l0 k (I m) o L (L.length : Int) (i : Int)) (o ++ mpo b n l m, true) := by
  have last : ∀ (i : Nat) (l : List Int) (m : List Nat) (o : List Int), L.drop i = [l] → l.length = 1 → Asc l.length m → o.length ≤ 1000 → Ev (fun k => impl_ManyPath.l0 k (I m) o L (L.length : Int) (i : Int)) (o, true) := by
    intro i l m o hd h1 ha ho
    obtain ⟨g1, g2, g3, _⟩ := at_drop hd
    simp only [List.length_nil] at g3
    have fin : Ev (fun k => impl_ManyPath.l0 k (I (up1 m)) (o ++ outs l m) L (L.length : Int) (wrap64 ((i : Int) + 1))) (o, true) := by
      rw [outs_one h1 ha, List.append_nil, wr_succ (by omega)]
      exact Ev.step (fun k => impl_ManyPath.l0.eq_2 ..) (ev_neg (by omega) (ev_ret rfl))
    have := impl_lv (L := L) (i := i) (l := l) (m := m) (o := o) (z := (L.length : Int)) (by omega) ha (by omega) fin m.length 0 (Nat.zero_add _)
    refine Ev.step (fun k => impl_ManyPath.l0.eq_2 ..) (ev_pos (by omega) (ev_pos (by omega) (ev_pos (by omega) ?_)))
    rw [g2, I_length]
    simpa using this
  induction n with
  | zero =>
    intro i l m o hd h1 h2 _ ha ho
    have := last i l m o hd (by omega) ha (by omega)
    unfold mpo
    rw [List.append_nil]
    exact this
  | succ n ih =>
    intro i l m o hd h1 h2 h16 ha ho
    unfold lvs at hd
    unfold mpo
    by_cases h : l.length = 1
    · rw [if_pos h] at hd
      rw [if_pos h, List.append_nil]
      exact last i l m o hd h ha (by omega)
    · rw [if_neg h] at hd
      rw [if_neg h]
      obtain ⟨g1, g2, g3, g4⟩ := at_drop hd
      have hab := abv_length b l
      have ih2 := ih (i + 1) (abv b l) (up1 m) (o ++ outs l m) g4 (by omega) (by omega) (by omega) (by rw [hab]; exact up1_asc ha) (by rw [List.length_append]; have := outs_le ha; omega)
      rw [List.append_assoc] at ih2
      have := impl_lv (L := L) (i := i) (l := l) (m := m) (o := o) (z := (L.length : Int)) h16 ha (by omega) (by rw [wr_succ (by omega)]; exact ih2) m.length 0 (Nat.zero_add _)
      refine Ev.step (fun k => impl_ManyPath.l0.eq_2 ..) (ev_pos (by omega) (ev_pos (by omega) (ev_pos (by omega) ?_)))
      rw [g2, I_length]
      simpa using this
theorem mpo_le (b : Int) (n : Nat) : ∀ (l : List Int) (m : List Nat), Asc l.length m → l.length ≤ 16 → (mpo b n l m).length ≤ 16 * n := by
  induction n with
  | zero => intro l m _ _; exact Nat.le_refl _
  | succ n ih =>
    intro l m ha h16
    unfold mpo
    split
    · exact Nat.zero_le _
    · have hab := abv_length b l
      have := ih (abv b l) (up1 m) (by rw [hab]; exact up1_asc ha) (by omega)
      have := outs_le ha
      rw [List.length_append]
      omega
theorem lvs_len (b : Int) (n : Nat) : ∀ l : List Int, (lvs b n l).length ≤ n + 1 := by
  induction n with
  | zero => intro l; exact Nat.le_refl _
  | succ n ih =>
    intro l
    unfold lvs
    split
    · simp
    · have := ih (abv b l)
      simp only [List.length_cons]
      omega
/-- What ManyPath answers. -/
def manyOf (b : Int) (l : List (List Int)) (a : List Int) : List Int × Bool := if lok b l then if plcs (l.length : Int) a = true then (mpo b 15 (leafs b l) (a.map Int.toNat), true) else ([], false) else ([], false)
theorem plcs_nat {n : Nat} {a : List Int} (h : plcs (n : Int) a = true) : ∃ m, a = I m ∧ Asc n m := by
  unfold plcs at h
  rw [Bool.and_eq_true] at h
  obtain ⟨m, e, h2, _⟩ := plc_nat n a (-1) h.1
  exact ⟨m, e, h2⟩
theorem toNat_I (m : List Nat) : (I m).map Int.toNat = m := by
  unfold I
  rw [List.map_map]
  exact (List.map_congr_left (fun x _ => Int.toNat_natCast x)).trans (List.map_id m)
theorem spec_many (b : Int) (l : List (List Int)) (a : List Int) (hl : l.length ≤ 1048576) (ha : a.length ≤ 1048576) : Ev (fun k => spec_ManyPath.f k b l a) (manyOf b l a) := by
  unfold spec_ManyPath.f manyOf
  refine ev_some (ev_bind (spec_lok b l hl) ?_)
  by_cases h : lok b l
  · rw [if_pos h]
    obtain ⟨⟨hb, h1, h16⟩, hs⟩ := h
    refine ev_pos (decide_eq_true ⟨⟨hb, h1, h16⟩, hs⟩) (ev_bind (spec_plc (l.length : Int) ⟨by omega, by omega⟩ a ha) (Ev.step (fun k => spec_ManyPath.j0.eq_2 ..) ?_))
    by_cases hp : plcs (l.length : Int) a = true
    · rw [if_pos hp]
      obtain ⟨m, rfl, hm⟩ := plcs_nat hp
      have hll := leafs_length b l
      rw [hp, toNat_I]
      exact ev_neg (by decide) (ev_bind (spec_lvs b l h1 h16 hs) (spec_mp b _ (Nat.le_trans (lvs_len b 15 _) (by decide)) 15 0 (leafs b l) m [] rfl (by omega) (by omega) (by omega) (by rw [hll]; exact hm) (by simp)))
    · rw [if_neg hp]
      simp only [Bool.not_eq_true] at hp
      rw [hp]
      exact ev_pos rfl (ev_ret rfl)
  · rw [if_neg h]
    exact ev_neg (by simpa using h) (Ev.step (fun k => spec_ManyPath.j0.eq_2 ..) (ev_pos rfl (ev_ret rfl)))
theorem impl_many (b : Int) (l : List (List Int)) (a : List Int) (hl : l.length ≤ 1048576) (ha : a.length ≤ 1048576) : Ev (fun k => impl_ManyPath.f k b l a) (manyOf b l a) := by
  unfold impl_ManyPath.f manyOf
  refine ev_pure (impl_lok b l) ?_
  by_cases h : lok b l
  · rw [if_pos h]
    obtain ⟨⟨hb, h1, h16⟩, hs⟩ := h
    refine ev_pos (decide_eq_true ⟨⟨hb, h1, h16⟩, hs⟩) (ev_bind (impl_plc (l.length : Int) ⟨by omega, by omega⟩ a ha) (Ev.step (fun k => impl_ManyPath.j0.eq_2 ..) ?_))
    by_cases hp : plcs (l.length : Int) a = true
    · rw [if_pos hp]
      obtain ⟨m, rfl, hm⟩ := plcs_nat hp
      have hll := leafs_length b l
      rw [hp, toNat_I]
      exact ev_neg (by decide) (ev_bind (impl_lvs b l h1 h16 hs) (impl_mp b _ (Nat.le_trans (lvs_len b 15 _) (by decide)) 15 0 (leafs b l) m [] rfl (by omega) (by omega) (by omega) (by rw [hll]; exact hm) (by simp)))
    · rw [if_neg hp]
      simp only [Bool.not_eq_true] at hp
      rw [hp]
      exact ev_pos rfl (ev_ret rfl)
  · rw [if_neg h]
    exact ev_neg (by simpa using h) (Ev.step (fun k => impl_ManyPath.j0.eq_2 ..) (ev_pos rfl (ev_ret rfl)))
theorem manyOf_le (b : Int) (l : List (List Int)) (a : List Int) : (manyOf b l a).1.length ≤ 1000000000000 := by
  unfold manyOf
  split
  · rename_i h
    split
    · rename_i hp
      obtain ⟨m, rfl, hm⟩ := plcs_nat hp
      have hll := leafs_length b l
      have := mpo_le b 15 (leafs b l) m (by rw [hll]; exact hm) (by have := h.1.2.2; omega)
      rw [toNat_I]
      simp only
      omega
    · exact Nat.zero_le _
  · exact Nat.zero_le _
theorem FnExactManyPath (b : Int) (l : List (List Int)) (a : List Int) (_ : (Lit.int .i64 b).wf = true) (_ : l.length ≤ maxLen ∧ ∀ v0 ∈ l, (v0.length ≤ maxLen ∧ ∀ v1 ∈ v0, (Lit.int .u8 v1).wf = true)) (_ : a.length ≤ maxLen ∧ ∀ v0 ∈ a, (Lit.int .i64 v0).wf = true) (ha : a.length ≤ 1048576) (ht : tot l ≤ 1048576) :
    ∃ (r1 : List Int) (r2 : Bool), (∃ k, spec_ManyPath.f k b l a = some (r1, r2)) ∧ (∃ k, impl_ManyPath.f k b l a = some (r1, r2)) ∧ r1.length ≤ 1000000000000 :=
  ⟨_, _, (spec_many b l a (Nat.le_trans (tot_len l) ht) ha).rounds, (impl_many b l a (Nat.le_trans (tot_len l) ht) ha).rounds, manyOf_le b l a⟩

end Go.Proofs.Ytaacidhgnappdaa.Pure
