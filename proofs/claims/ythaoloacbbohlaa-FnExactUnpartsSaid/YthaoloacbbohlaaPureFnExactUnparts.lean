/- Unparts answers as the reference's Unparts, at all texts of at most 2^20 bytes, in memory of its own, and leaves the text as it was. -/
import Derived.Test.YthaoloacbbohlaaPFnExactUnpartsx
import Derived.Test.YthaoloacbbohlaaKit
namespace Go.Proofs.Ythaoloacbbohlaa.Pure
open Go.RowKit Go.Proofs.Ythaoloacbbohlaa Go.Proofs.Ythaoloacbbohlaa.PFnExactUnparts Go.Proofs.YthaoloacbbohlaaW.PrintWords Go.Proofs.YthaoloacbbohlaaW.PrintLast Go.Proofs.YthaoloacbbohlaaW.PrintMore Go.Proofs.Ythaoloacbbohlaa.K
set_option linter.unusedVariables false

/-- What is left of a behind a taking of t; -1: t was too much. -/
def left (a : Int) (t : Nat) : Int := if a - (t : Int) < 0 then -1 else a - (t : Int)
theorem left_ok {a : Int} {t : Nat} (h : ¬ left a t < 0) : left a t = a - (t : Int) := by
  unfold left at h ⊢
  split
  · rename_i h2
    rw [if_pos h2] at h
    omega
  · rfl
theorem left_neg {a : Int} {t : Nat} (h : a - (t : Int) < 0) : left a t = -1 := if_pos h
theorem left_pos {a : Int} {t : Nat} (h : ¬ a - (t : Int) < 0) : left a t = a - (t : Int) := if_neg h
theorem len_max {n : Nat} (h : n ≤ maxLen) : n ≤ 9223372036854775807 := by unfold maxLen at h; omega
/-- The bytes of all texts together. -/
def tsum : List (List Int) → Nat
  | [] => 0
  | x :: l => x.length + tsum l
/-- .. and the texts. -/
def tot (l : List (List Int)) : Nat := l.length + tsum l
theorem tsum_le (l : List (List Int)) : tsum l ≤ tot l := Nat.le_add_left _ _
theorem tot_len (l : List (List Int)) : l.length ≤ tot l := Nat.le_add_right _ _
theorem tsum_mem {l : List (List Int)} {x : List Int} (h : x ∈ l) : x.length ≤ tsum l := by
  induction l with
  | nil => cases h
  | cons y l ih =>
    rcases List.mem_cons.1 h with rfl | h
    · unfold tsum; omega
    · have := ih h; unfold tsum; omega
theorem tsum_append (l m : List (List Int)) : tsum (l ++ m) = tsum l + tsum m := by
  induction l with
  | nil => simp [tsum]
  | cons x l ih => simp only [List.cons_append, tsum, ih]; omega
theorem rdB_nat (l : List (List Int)) (i : Nat) : rd_L1 l (i : Int) = l.getD i [] := by unfold rd_L1; rw [Int.toNat_natCast]
theorem getD_mem {l : List (List Int)} {i : Nat} (h : i < l.length) : l.getD i [] ∈ l := by
  rw [List.getD_eq_getElem?_getD, List.getElem?_eq_getElem h]
  exact List.getElem_mem h
theorem dropB {l : List (List Int)} {i : Nat} (h : i < l.length) : l.drop i = l.getD i [] :: l.drop (i + 1) := drop_getD l [] i h
theorem toByteS_l0 (l : List Int) (hl : l.length ≤ 9223372036854775806) (n : Nat) : ∀ i : Nat, i + n = l.length →
    Ev (fun k => laws_toByteS.l0 k l (l.take i ++ List.replicate n 0) (i : Int)) l := by
  induction n with
  | zero =>
    intro i hi
    refine Ev.step (fun k => laws_toByteS.l0.eq_2 ..) ?_
    refine ev_neg (by omega) (ev_ret ?_)
    rw [List.replicate_zero, List.append_nil, List.take_of_length_le (by omega)]
  | succ n ih =>
    intro i hi
    refine Ev.step (fun k => laws_toByteS.l0.eq_2 ..) ?_
    have hlen : (l.take i).length = i := by rw [List.length_take]; omega
    refine ev_pos (by omega) (ev_pos (by omega) (ev_pos (by rw [List.length_append, hlen, List.length_replicate]; omega) ?_))
    rw [wr_succ (by omega), rd_nat, Int.toNat_natCast]
    have e := set_fill (l.take i) (l.getD i 0) 0 n
    rw [hlen, take_getD l 0 i (by omega)] at e
    rw [e]
    exact ih (i + 1) (by omega)
theorem toByteS (l : List Int) (hl : l.length ≤ 140737488355328) : Ev (fun k => laws_toByteS.f k l) l := by
  unfold laws_toByteS.f
  refine ev_pos (by omega) (ev_pos (by omega) ?_)
  have := toByteS_l0 l (by omega) l.length 0 (by omega)
  simpa using this
theorem toByteSS_l0 (l : List (List Int)) (hl : l.length ≤ 9223372036854775806) (hs : ∀ x ∈ l, x.length ≤ 140737488355328) (n : Nat) : ∀ i : Nat, i + n = l.length →
    Ev (fun k => laws_toByteSS.l0 k l (l.take i ++ List.replicate n []) (i : Int)) l := by
  induction n with
  | zero =>
    intro i hi
    refine Ev.step (fun k => laws_toByteSS.l0.eq_2 ..) ?_
    refine ev_neg (by omega) (ev_ret ?_)
    rw [List.replicate_zero, List.append_nil, List.take_of_length_le (by omega)]
  | succ n ih =>
    intro i hi
    refine Ev.step (fun k => laws_toByteSS.l0.eq_2 ..) ?_
    have hlen : (l.take i).length = i := by rw [List.length_take]; omega
    refine ev_pos (by omega) (ev_pos (by omega) ?_)
    rw [rdB_nat]
    refine ev_bind (toByteS _ (hs _ (getD_mem (by omega)))) (ev_pos (by rw [List.length_append, hlen, List.length_replicate]; omega) ?_)
    rw [wr_succ (by omega), Int.toNat_natCast]
    have e := set_fill (l.take i) (l.getD i []) [] n
    rw [hlen, take_getD l [] i (by omega)] at e
    rw [e]
    exact ih (i + 1) (by omega)
theorem toByteSS (l : List (List Int)) (ht : tot l ≤ 10000000000000) : Ev (fun k => laws_toByteSS.f k l) l := by
  have h1 := tot_len l
  have h2 := tsum_le l
  unfold laws_toByteSS.f
  refine ev_pos (by omega) (ev_pos (by omega) ?_)
  have := toByteSS_l0 l (by omega) (fun x hx => by have := tsum_mem hx; omega) l.length 0 (by omega)
  simpa using this
theorem eqByteS_l0 (l : List Int) (hl : l.length ≤ 9223372036854775806) (n : Nat) : ∀ i : Nat, i + n = l.length →
    Ev (fun k => laws_eqByteS.l0 k l l (i : Int)) true := by
  induction n with
  | zero =>
    intro i hi
    refine Ev.step (fun k => laws_eqByteS.l0.eq_2 ..) ?_
    exact ev_neg (by omega) (ev_ret rfl)
  | succ n ih =>
    intro i hi
    refine Ev.step (fun k => laws_eqByteS.l0.eq_2 ..) ?_
    refine ev_pos (by omega) (ev_pos (by omega) (ev_pos (by omega) (ev_pos rfl ?_)))
    rw [wr_succ (by omega)]
    exact ih (i + 1) (by omega)
theorem eqByteS (l : List Int) (hl : l.length ≤ 140737488355328) : Ev (fun k => laws_eqByteS.f k l l) true := by
  unfold laws_eqByteS.f
  exact ev_pos rfl (eqByteS_l0 l (by omega) l.length 0 (by omega))
theorem eqByteSS_l0 (l : List (List Int)) (hl : l.length ≤ 9223372036854775806) (hs : ∀ x ∈ l, x.length ≤ 140737488355328) (n : Nat) : ∀ i : Nat, i + n = l.length →
    Ev (fun k => laws_eqByteSS.l0 k l l (i : Int)) true := by
  induction n with
  | zero =>
    intro i hi
    refine Ev.step (fun k => laws_eqByteSS.l0.eq_2 ..) ?_
    exact ev_neg (by omega) (ev_ret rfl)
  | succ n ih =>
    intro i hi
    refine Ev.step (fun k => laws_eqByteSS.l0.eq_2 ..) ?_
    refine ev_pos (by omega) (ev_pos (by omega) (ev_pos (by omega) ?_))
    rw [rdB_nat]
    refine ev_bind (eqByteS _ (hs _ (getD_mem (by omega)))) (ev_pos rfl ?_)
    rw [wr_succ (by omega)]
    exact ih (i + 1) (by omega)
theorem eqByteSS (l : List (List Int)) (ht : tot l ≤ 10000000000000) : Ev (fun k => laws_eqByteSS.f k l l) true := by
  have h1 := tot_len l
  have h2 := tsum_le l
  unfold laws_eqByteSS.f
  exact ev_pos rfl (eqByteSS_l0 l (by omega) (fun x hx => by have := tsum_mem hx; omega) l.length 0 (by omega))
def marked (a : Int) : Nat → List Int
  | 0 => []
  | n + 1 => (a % 256) :: marked (a + 1) n
theorem marked_length (n : Nat) : ∀ a, (marked a n).length = n := by
  induction n with
  | zero => intro a; rfl
  | succ n ih => intro a; simp [marked, ih]
theorem marked_snoc (n : Nat) : ∀ a, marked a n ++ [(a + n) % 256] = marked a (n + 1) := by
  induction n with
  | zero => intro a; simp [marked]
  | succ n ih =>
    intro a
    have := ih (a + 1)
    simp only [marked, List.cons_append] at this ⊢
    rw [← this]
    congr 3
    omega
theorem marked_getD (n : Nat) : ∀ a i, i < n → (marked a n).getD i 0 = (a + i) % 256 := by
  induction n with
  | zero => intro a i h; omega
  | succ n ih =>
    intro a i h
    cases i with
    | zero => simp [marked]
    | succ i =>
      have := ih (a + 1) i (by omega)
      simp only [marked, List.getD_cons_succ] at this ⊢
      rw [this]
      congr 1
      omega
theorem markByteS_l0 (l : List Int) (a : Int) (h0 : 0 ≤ a) (ha : a + l.length ≤ 4611686018427387904) (n : Nat) : ∀ i : Nat, i + n = l.length →
    Ev (fun k => laws_markByteS.l0 k (marked a i ++ l.drop i) (a + i) (i : Int)) (a + l.length, marked a l.length) := by
  induction n with
  | zero =>
    intro i hi
    refine Ev.step (fun k => laws_markByteS.l0.eq_2 ..) ?_
    refine ev_neg (by rw [List.length_append, marked_length, List.length_drop]; omega) (ev_ret ?_)
    obtain rfl : i = l.length := by omega
    rw [List.drop_length, List.append_nil]
  | succ n ih =>
    intro i hi
    refine Ev.step (fun k => laws_markByteS.l0.eq_2 ..) ?_
    refine ev_pos (by rw [List.length_append, marked_length, List.length_drop]; omega) (ev_pos (by omega) ?_)
    rw [wr_succ (by omega), Int.toNat_natCast, wr (n := a + i + 1) (by omega) (by omega), drop_getD l 0 i (by omega),
      List.set_append_right _ _ (by rw [marked_length]; exact Nat.le_refl _), marked_length, Nat.sub_self, List.set_cons_zero]
    have := ih (i + 1) (by omega)
    rw [← marked_snoc, List.append_assoc] at this
    rw [show a + (i : Int) + 1 = a + ((i + 1 : Nat) : Int) by omega]
    exact this
theorem markByteS (l : List Int) (a : Int) (h0 : 0 ≤ a) (ha : a + l.length ≤ 4611686018427387904) :
    Ev (fun k => laws_markByteS.f k l a) (a + l.length, marked a l.length) := by
  unfold laws_markByteS.f
  have := markByteS_l0 l a h0 ha l.length 0 (by omega)
  simpa [marked] using this
theorem tsum_snoc (l : List (List Int)) (j : Nat) (h : j < l.length) : tsum (l.take (j + 1)) = tsum (l.take j) + (l.getD j []).length := by
  rw [← take_getD l [] j h, tsum_append]
  simp [tsum]
theorem tsum_take (l : List (List Int)) (j : Nat) : tsum (l.take j) ≤ tsum l := by
  have := tsum_append (l.take j) (l.drop j)
  rw [List.take_append_drop] at this
  omega
/-- Rows, marked one after the other. -/
def markedSS (a : Int) : List (List Int) → List (List Int)
  | [] => []
  | x :: l => marked a x.length :: markedSS (a + x.length) l
theorem markedSS_length (l : List (List Int)) : ∀ a, (markedSS a l).length = l.length := by
  induction l with
  | nil => intro a; rfl
  | cons x l ih => intro a; simp [markedSS, ih]
theorem markedSS_append (l m : List (List Int)) : ∀ a, markedSS a (l ++ m) = markedSS a l ++ markedSS (a + tsum l) m := by
  induction l with
  | nil => intro a; simp [markedSS, tsum]
  | cons x l ih =>
    intro a
    simp only [List.cons_append, markedSS, tsum, ih]
    congr 3
    omega
theorem markedSS_step (a : Int) (l : List (List Int)) (j : Nat) (h : j < l.length) : (markedSS a (l.take j) ++ l.drop j).set j (marked (a + tsum (l.take j)) (l.getD j []).length) = markedSS a (l.take (j + 1)) ++ l.drop (j + 1) := by
  have hl : (markedSS a (l.take j)).length = j := by rw [markedSS_length, List.length_take]; omega
  rw [dropB h, ← take_getD l [] j h, markedSS_append, List.set_append_right _ _ (by omega), hl, Nat.sub_self, List.set_cons_zero, List.append_assoc]
  rfl
theorem markedSS_at (a : Int) (l : List (List Int)) (j : Nat) (h : j < l.length) : (markedSS a (l.take j) ++ l.drop j).getD j [] = l.getD j [] := by
  have hl : (markedSS a (l.take j)).length = j := by rw [markedSS_length, List.length_take]; omega
  rw [List.getD_eq_getElem?_getD, List.getElem?_append_right (by omega), hl, Nat.sub_self, dropB h]
  rfl
theorem heldByteS_l0 (a : Int) (m : Nat) (h0 : 0 ≤ a) (ha : a + m ≤ 4611686018427387904) (n : Nat) : ∀ i : Nat, i + n = m →
    Ev (fun k => laws_heldByteS.l0 k (marked a m) (a + i) (i : Int)) (a + m) := by
  induction n with
  | zero =>
    intro i hi
    refine Ev.step (fun k => laws_heldByteS.l0.eq_2 ..) ?_
    refine ev_neg (by rw [marked_length]; omega) (ev_ret ?_)
    omega
  | succ n ih =>
    intro i hi
    refine Ev.step (fun k => laws_heldByteS.l0.eq_2 ..) ?_
    refine ev_pos (by rw [marked_length]; omega) (ev_pos (by omega) (ev_pos (by rw [rd_nat, marked_getD _ _ _ (by omega)]) ?_))
    rw [wr_succ (by omega), wr (n := a + i + 1) (by omega) (by omega), show a + (i : Int) + 1 = a + ((i + 1 : Nat) : Int) by omega]
    exact ih (i + 1) (by omega)
theorem heldByteS (a : Int) (m : Nat) (h0 : 0 ≤ a) (ha : a + m ≤ 4611686018427387904) :
    Ev (fun k => laws_heldByteS.f k (marked a m) a) (a + m) := by
  unfold laws_heldByteS.f
  have := heldByteS_l0 a m h0 ha m 0 (by omega)
  simpa using this
theorem markedSS_getD (a : Int) (l : List (List Int)) (i : Nat) (h : i < l.length) : (markedSS a l).getD i [] = marked (a + tsum (l.take i)) (l.getD i []).length := by
  have e : markedSS a l = markedSS a (l.take i) ++ markedSS (a + tsum (l.take i)) (l.getD i [] :: l.drop (i + 1)) := by
    rw [← markedSS_append, ← dropB h, List.take_append_drop]
  have hl : (markedSS a (l.take i)).length = i := by rw [markedSS_length, List.length_take]; omega
  rw [e, List.getD_eq_getElem?_getD, List.getElem?_append_right (by omega), hl, Nat.sub_self]
  rfl
theorem heldByteSS_l0 (a : Int) (l : List (List Int)) (h0 : 0 ≤ a) (ha : a + tsum l ≤ 4611686018427387904) (hl : l.length ≤ 4611686018427387904) (n : Nat) : ∀ i : Nat, i + n = l.length →
    Ev (fun k => laws_heldByteSS.l0 k (markedSS a l) (a + tsum (l.take i)) (i : Int)) (a + tsum l) := by
  induction n with
  | zero =>
    intro i hi
    rw [show l.take i = l from List.take_of_length_le (by omega)]
    exact Ev.step (fun k => laws_heldByteSS.l0.eq_2 ..) (ev_neg (by rw [markedSS_length]; omega) (ev_ret rfl))
  | succ n ih =>
    intro i hi
    have hn := ih (i + 1) (by omega)
    have ht := tsum_take l (i + 1)
    rw [tsum_snoc l i (by omega)] at hn ht
    refine Ev.step (fun k => laws_heldByteSS.l0.eq_2 ..) (ev_pos (by rw [markedSS_length]; omega) (ev_pos (by omega) ?_))
    rw [rdB_nat, markedSS_getD a l i (by omega), wr_succ (by omega)]
    refine ev_bind (heldByteS (a + tsum (l.take i)) (l.getD i []).length (by omega) (by omega)) (ev_neg (by omega) ?_)
    rw [show a + (tsum (l.take i) : Int) + ((l.getD i []).length : Int) = a + ((tsum (l.take i) + (l.getD i []).length : Nat) : Int) by omega]
    exact hn
theorem heldByteSS (a : Int) (l : List (List Int)) (h0 : 0 ≤ a) (ha : a + tsum l ≤ 4611686018427387904) (hl : l.length ≤ 4611686018427387904) : Ev (fun k => laws_heldByteSS.f k (markedSS a l) a) (a + tsum l) := by
  unfold laws_heldByteSS.f
  have := heldByteSS_l0 a l h0 ha hl l.length 0 (by omega)
  simpa [tsum] using this
theorem wf_bytes {l : List Int} (h : ∀ x ∈ l, (Lit.int .u8 x).wf = true) : ∀ x ∈ l, 0 ≤ x ∧ x < 256 := by
  intro x hx
  obtain ⟨n, rfl, hn⟩ := byte_of (h x hx)
  omega
/-- What two bytes say, the higher first. -/
def hd2 (r : List Int) : Nat := (r.getD 0 0 * 256 + r.getD 1 0).toNat
/-- So many parts, read off. -/
def unp : Nat → List Int → List (List Int) → List (List Int) × Bool
  | 0, r, o => if r.length = 0 then (o, true) else ([], false)
  | n + 1, r, o => if r.length < 2 then ([], false) else if hd2 r > 60000 then ([], false) else if hd2 r > r.length - 2 then ([], false) else unp n ((r.drop 2).drop (hd2 r)) (o ++ [(r.drop 2).take (hd2 r)])
def unparts (b : List Int) : List (List Int) × Bool := if b.length = 0 ∨ b.getD 0 0 > 60 then ([], false) else unp (b.getD 0 0).toNat (b.drop 1) []
theorem unp_le (n : Nat) : ∀ (r : List Int) (o : List (List Int)), tot (unp n r o).1 ≤ tot o + r.length + n := by
  induction n with
  | zero =>
    intro r o
    unfold unp
    split
    · show tot o ≤ _
      omega
    · exact Nat.zero_le _
  | succ n ih =>
    intro r o
    unfold unp
    split
    · exact Nat.zero_le _
    · split
      · exact Nat.zero_le _
      · split
        · exact Nat.zero_le _
        · have h := ih ((r.drop 2).drop (hd2 r)) (o ++ [(r.drop 2).take (hd2 r)])
          have e : tot (o ++ [(r.drop 2).take (hd2 r)]) = tot o + 1 + ((r.drop 2).take (hd2 r)).length := by
            unfold tot
            rw [tsum_append, List.length_append]
            simp only [tsum, List.length_singleton]
            omega
          rw [e] at h
          simp only [List.length_take, List.length_drop] at h
          omega
theorem unparts_le (b : List Int) (hb : b.length ≤ 1048576) : tot (unparts b).1 ≤ 1000000000000 := by
  unfold unparts
  split
  · exact Nat.zero_le _
  · rename_i h
    have := unp_le (b.getD 0 0).toNat (b.drop 1) []
    have e : tot ([] : List (List Int)) = 0 := rfl
    simp only [List.length_drop, e] at this
    omega
theorem byte_at {b : List Int} (h : ∀ z ∈ b, 0 ≤ z ∧ z < 256) (i : Nat) : 0 ≤ b.getD i 0 ∧ b.getD i 0 < 256 := by
  rw [List.getD_eq_getElem?_getD]
  by_cases hi : i < b.length
  · rw [List.getElem?_eq_getElem hi]
    exact h _ (List.getElem_mem hi)
  · rw [List.getElem?_eq_none (by omega)]
    decide
theorem or_hd {x y : Int} (hx : 0 ≤ x ∧ x < 256) (hy : 0 ≤ y ∧ y < 256) : Go.bits .or .i64 (wrap64 ((wrap64 x) * 256)) (wrap64 y) = ((x * 256 + y).toNat : Int) := by
  obtain ⟨a, rfl⟩ := Int.eq_ofNat_of_zero_le hx.1
  obtain ⟨c, rfl⟩ := Int.eq_ofNat_of_zero_le hy.1
  have e1 : wrap64 ((wrap64 (a : Int)) * 256) = ((2 ^ 8 * a : Nat) : Int) := by rw [wr (n := (a : Int)) (by omega) (by omega), wr (by omega) (by omega)]; omega
  rw [e1, wr (n := (c : Int)) (by omega) (by omega), or64 (by omega) (by omega), ← Nat.two_pow_add_eq_or_of_lt (by omega)]
  omega
theorem add_hd {x y : Int} (hx : 0 ≤ x ∧ x < 256) (hy : 0 ≤ y ∧ y < 256) : wrap64 (wrap64 (wrap64 x * 256) + wrap64 y) = ((x * 256 + y).toNat : Int) := by
  rw [wr (n := x) (by omega) (by omega), wr (n := y) (by omega) (by omega), wr (n := x * 256) (by omega) (by omega), wr (by omega) (by omega)]
  omega
theorem impl_un_l0 (c : Nat) (hc : c ≤ 60) (n : Nat) : ∀ (j : Nat) (r : List Int) (o : List (List Int)), j + n = c → o.length = j → r.length ≤ 1048576 → (∀ z ∈ r, 0 ≤ z ∧ z < 256) →
    Ev (fun k => impl_Unparts.l0 k o r (c : Int) (j : Int)) (unp n r o) := by
  induction n with
  | zero =>
    intro j r o hj ho hr hb
    refine Ev.step (fun k => impl_Unparts.l0.eq_2 ..) (ev_neg (by omega) ?_)
    unfold unp
    by_cases h : r.length = 0
    · rw [if_pos h]
      exact ev_neg (by omega) (ev_ret rfl)
    · rw [if_neg h]
      exact ev_pos (by omega) (ev_ret rfl)
  | succ n ih =>
    intro j r o hj ho hr hb
    refine Ev.step (fun k => impl_Unparts.l0.eq_2 ..) (ev_pos (by omega) ?_)
    unfold unp
    by_cases h : r.length < 2
    · rw [if_pos h]
      exact ev_pos (by omega) (ev_ret rfl)
    · rw [if_neg h]
      have hh : Go.bits .or .i64 (wrap64 ((wrap64 (rd r 0)) * 256)) (wrap64 (rd r 1)) = (hd2 r : Int) := or_hd (byte_at hb 0) (byte_at hb 1)
      refine ev_neg (by omega) (ev_pos (by omega) (ev_pos (by omega) (ev_pos (by omega) (ev_some ?_))))
      rw [hh]
      generalize hd2 r = d
      have hl : (r.drop 2).length = r.length - 2 := List.length_drop ..
      by_cases h1 : d > 60000
      · rw [if_pos h1]
        exact ev_pos (by omega) (ev_ret rfl)
      · rw [if_neg h1]
        refine ev_neg (by omega) ?_
        by_cases h2 : d > r.length - 2
        · rw [if_pos h2]
          exact ev_pos (by omega) (ev_ret rfl)
        · rw [if_neg h2]
          refine ev_neg (by omega) (ev_pos (by omega) (ev_pos (by omega) ?_))
          rw [Int.toNat_natCast]
          refine ev_pure (a := (r.drop 2).take d) ?_ (ev_pos (by omega) ?_)
          · unfold bytes_Clone.f
            rw [if_pos (by rw [List.length_take]; omega)]
          · rw [show ((j : Int) + 1) % 256 = ((j + 1 : Nat) : Int) by omega]
            exact ih (j + 1) _ _ (by omega) (by rw [List.length_append, List.length_singleton]; omega) (by rw [List.length_drop]; omega) (fun z hz => hb z (List.mem_of_mem_drop (List.mem_of_mem_drop hz)))
theorem impl_unparts (b : List Int) (hl : b.length ≤ 1048576) (hb : ∀ z ∈ b, 0 ≤ z ∧ z < 256) : Ev (fun k => impl_Unparts.f k b) (unparts b) := by
  unfold impl_Unparts.f unparts
  by_cases h : b.length = 0
  · rw [if_pos (.inl h)]
    exact ev_pos (by omega) (Ev.step (fun k => impl_Unparts.j0.eq_2 ..) (ev_pos rfl (ev_ret rfl)))
  · refine ev_neg (by omega) (ev_pos (by omega) ?_)
    have h0 := byte_at hb 0
    have e : rd b 0 = b.getD 0 0 := rfl
    rw [e, wr (by omega) (by omega)]
    by_cases h1 : b.getD 0 0 > 60
    · rw [if_pos (.inr h1)]
      exact Ev.step (fun k => impl_Unparts.j0.eq_2 ..) (ev_pos (decide_eq_true h1) (ev_ret rfl))
    · rw [if_neg (fun h2 => h2.elim h h1)]
      refine Ev.step (fun k => impl_Unparts.j0.eq_2 ..) (ev_neg (by simp only [decide_eq_true_eq]; exact h1) (ev_pos (by omega) (ev_pos (by omega) ?_)))
      rw [e]
      obtain ⟨c, hc⟩ := Int.eq_ofNat_of_zero_le h0.1
      rw [hc] at h1 ⊢
      rw [Int.toNat_natCast]
      exact impl_un_l0 c (by omega) c 0 _ _ (by omega) rfl (by rw [List.length_drop]; omega) (fun z hz => hb z (List.mem_of_mem_drop hz))
theorem spec_b {p : List Int} (hp : p.length ≤ 1048576) : spec_l1Bytes.f p = some p := by
  unfold spec_l1Bytes.f
  rw [Option.bind_some, if_pos (by simp only [List.length_nil]; omega), List.nil_append]
theorem getD_drop0 (b : List Int) (i j : Nat) : (b.drop i).getD j 0 = b.getD (i + j) 0 := by
  rw [List.getD_eq_getElem?_getD, List.getElem?_drop, List.getD_eq_getElem?_getD]
theorem spec_un_l0 (b : List Int) (c : Nat) (hc : c ≤ 60) (h0 : b.getD 0 0 = (c : Int)) (h1 : 0 < b.length) (hl : b.length ≤ 1048576) (hb : ∀ z ∈ b, 0 ≤ z ∧ z < 256) (n : Nat) : ∀ (j t : Nat) (o : List (List Int)), j + n = c → o.length = j → t ≤ b.length →
    Ev (fun k => spec_Unparts.l0 k b o (t : Int) (j : Int)) (unp n (b.drop t) o) := by
  have e0 : wrap64 (rd b 0) = (c : Int) := by
    have e : rd b 0 = b.getD 0 0 := rfl
    rw [e, h0, wrn (by omega)]
  induction n with
  | zero =>
    intro j t o hj ho ht
    refine Ev.step (fun k => spec_Unparts.l0.eq_2 ..) (ev_pos (by omega) ?_)
    rw [e0]
    refine ev_neg (by omega) ?_
    unfold unp
    rw [List.length_drop]
    by_cases h : b.length - t = 0
    · rw [if_pos h]
      exact ev_pos (by omega) (ev_ret rfl)
    · rw [if_neg h]
      exact ev_neg (by omega) (ev_ret rfl)
  | succ n ih =>
    intro j t o hj ho ht
    refine Ev.step (fun k => spec_Unparts.l0.eq_2 ..) (ev_pos (by omega) ?_)
    rw [e0]
    refine ev_pos (by omega) ?_
    unfold unp
    have e2 : wrap64 ((t : Int) + 2) = ((t + 2 : Nat) : Int) := wr (by omega) (by omega)
    have e1 : wrap64 ((t : Int) + 1) = ((t + 1 : Nat) : Int) := wr_succ (by omega)
    rw [List.length_drop, e2, e1]
    by_cases h : b.length - t < 2
    · rw [if_pos h]
      exact ev_pos (by omega) (ev_ret rfl)
    · rw [if_neg h]
      have hh : wrap64 (wrap64 (wrap64 (rd b (t : Int)) * 256) + wrap64 (rd b ((t + 1 : Nat) : Int))) = (hd2 (b.drop t) : Int) := by
        unfold hd2
        rw [rd_nat, rd_nat, getD_drop0, getD_drop0]
        exact add_hd (byte_at hb t) (byte_at hb (t + 1))
      rw [hh]
      clear hh
      refine ev_neg (by omega) (ev_pos (by omega) (ev_pos (by omega) (ev_pos (by omega) (ev_pos (by omega) ?_))))
      rw [show (b.drop t).drop 2 = b.drop (t + 2) from List.drop_drop ..]
      generalize hd2 (b.drop t) = d
      by_cases h2 : d > 60000
      · rw [if_pos h2]
        exact ev_pos (by omega) (ev_ret rfl)
      · rw [if_neg h2]
        have e3 : wrap64 (((t + 2 : Nat) : Int) + (d : Int)) = ((t + 2 + d : Nat) : Int) := by rw [wr (by omega) (by omega)]; omega
        rw [e3]
        clear e3 e2 e1
        refine ev_neg (by omega) ?_
        by_cases h3 : d > b.length - t - 2
        · rw [if_pos h3]
          exact ev_pos (by omega) (ev_ret rfl)
        · rw [if_neg h3]
          refine ev_neg (by omega) (ev_pos (by omega) (ev_pos (by omega) (ev_pos (by omega) ?_)))
          rw [Int.toNat_natCast, Int.toNat_natCast, List.drop_take, show t + 2 + d - (t + 2) = d by omega]
          refine ev_pure (spec_b (by rw [List.length_take, List.length_drop]; omega)) (ev_pos (by omega) ?_)
          rw [wr_succ (by omega), List.drop_drop]
          refine ih (j + 1) (t + 2 + d) _ (by omega) ?_ (by omega)
          rw [List.length_append, List.length_singleton, ho]
theorem spec_unparts (b : List Int) (hl : b.length ≤ 1048576) (hb : ∀ z ∈ b, 0 ≤ z ∧ z < 256) : Ev (fun k => spec_Unparts.f k b) (unparts b) := by
  unfold spec_Unparts.f unparts
  refine ev_some ?_
  by_cases h : b.length = 0
  · rw [if_pos (.inl h)]
    exact ev_pos (by omega) (Ev.step (fun k => spec_Unparts.j0.eq_2 ..) (ev_pos rfl (ev_ret rfl)))
  · refine ev_neg (by omega) (ev_pos (by omega) ?_)
    have h0 := byte_at hb 0
    have e : rd b 0 = b.getD 0 0 := rfl
    rw [e]
    by_cases h1 : b.getD 0 0 > 60
    · rw [if_pos (.inr h1)]
      exact Ev.step (fun k => spec_Unparts.j0.eq_2 ..) (ev_pos (decide_eq_true h1) (ev_ret rfl))
    · rw [if_neg (fun h2 => h2.elim h h1)]
      refine Ev.step (fun k => spec_Unparts.j0.eq_2 ..) (ev_neg (by simp only [decide_eq_true_eq]; exact h1) ?_)
      obtain ⟨c, hc⟩ := Int.eq_ofNat_of_zero_le h0.1
      rw [hc] at h1 ⊢
      rw [Int.toNat_natCast]
      exact spec_un_l0 b c (by omega) hc (by omega) hl hb c 0 1 _ (by omega) rfl (by omega)
theorem FnExactUnparts (x : List Int) (hx : x.length ≤ maxLen ∧ ∀ v0 ∈ x, (Lit.int .u8 v0).wf = true) (h : x.length ≤ 1048576) :
    ∃ (r1 : List (List Int)) (r2 : Bool), (∃ k, spec_Unparts.f k x = some (r1, r2)) ∧ (∃ k, impl_Unparts.f k x = some (r1, r2)) ∧ tot r1 ≤ 1000000000000 :=
  ⟨_, _, (spec_unparts x h (wf_bytes hx.2)).rounds, (impl_unparts x h (wf_bytes hx.2)).rounds, unparts_le x h⟩

end Go.Proofs.Ythaoloacbbohlaa.Pure
