/- FindPair answers as the reference's FindPair, at all numbers and lists of texts (of at most 2^20 bytes and texts together), in memory of its own, and leaves the list as it was. -/
import Derived.Test.YtmcpnganobehaaaPFnExactFindPairx
import Derived.Test.YtmcpnganobehaaaKit
import Derived.Test.YtmcpnganobehaaaDig
namespace Go.Proofs.Ytmcpnganobehaaa.Pure
open Go.RowKit Go.Proofs.Ytmcpnganobehaaa Go.Proofs.Ytmcpnganobehaaa.PFnExactFindPair Go.Proofs.YtmcpnganobehaaaW.PrintWords Go.Proofs.YtmcpnganobehaaaW.PrintLast Go.Proofs.YtmcpnganobehaaaW.PrintMore Go.Proofs.Ytmcpnganobehaaa.K
set_option linter.unusedVariables false

/-- What is left of a behind a taking of t; -1: t was too much. -/
def left (a : Int) (t : Nat) : Int := if a - (t : Int) < 0 then -1 else a - (t : Int)
theorem left_ok {a : Int} {t : Nat} (h : ¬ left a t < 0) : left a t = a - (t : Int) := by
  unfold left at h ⊢
  split
  · rename_i h2
    rw [if_pos h2] at h
    omega
  · rfl
theorem left_neg {a : Int} {t : Nat} (h : a - (t : Int) < 0) : left a t = -1 := if_pos h
theorem left_pos {a : Int} {t : Nat} (h : ¬ a - (t : Int) < 0) : left a t = a - (t : Int) := if_neg h
theorem len_max {n : Nat} (h : n ≤ maxLen) : n ≤ 9223372036854775807 := by unfold maxLen at h; omega
/-- The bytes of all texts together. -/
def tsum : List (List Int) → Nat
  | [] => 0
  | x :: l => x.length + tsum l
/-- .. and the texts. -/
def tot (l : List (List Int)) : Nat := l.length + tsum l
theorem tsum_le (l : List (List Int)) : tsum l ≤ tot l := Nat.le_add_left _ _
theorem tot_len (l : List (List Int)) : l.length ≤ tot l := Nat.le_add_right _ _
theorem tsum_mem {l : List (List Int)} {x : List Int} (h : x ∈ l) : x.length ≤ tsum l := by
  induction l with
  | nil => cases h
  | cons y l ih =>
    rcases List.mem_cons.1 h with rfl | h
    · unfold tsum; omega
    · have := ih h; unfold tsum; omega
theorem tsum_append (l m : List (List Int)) : tsum (l ++ m) = tsum l + tsum m := by
  induction l with
  | nil => simp [tsum]
  | cons x l ih => simp only [List.cons_append, tsum, ih]; omega
theorem rdB_nat (l : List (List Int)) (i : Nat) : rd_L1 l (i : Int) = l.getD i [] := by unfold rd_L1; rw [Int.toNat_natCast]
theorem getD_mem {l : List (List Int)} {i : Nat} (h : i < l.length) : l.getD i [] ∈ l := by
  rw [List.getD_eq_getElem?_getD, List.getElem?_eq_getElem h]
  exact List.getElem_mem h
theorem dropB {l : List (List Int)} {i : Nat} (h : i < l.length) : l.drop i = l.getD i [] :: l.drop (i + 1) := drop_getD l [] i h
theorem szByteS (l : List Int) (a : Int) (h0 : 0 ≤ a) (ha : a ≤ 1048576) (hl : l.length ≤ maxLen) : laws_szByteS.f l a = some (left a l.length) := by
  have hm := len_max hl
  unfold laws_szByteS.f
  rw [wr (n := a - (l.length : Int)) (by omega) (by omega)]
  by_cases h : a - (l.length : Int) < 0
  · rw [if_pos h, left_neg h]
  · rw [if_neg h, left_pos h]
theorem szByteSS_l0 (l : List (List Int)) (hl : l.length ≤ 1048576) (hs : ∀ v ∈ l, v.length ≤ maxLen) (n : Nat) : ∀ (i : Nat) (a : Int), i + n = l.length → 0 ≤ a → a ≤ 1048576 → Ev (fun k => laws_szByteSS.l0 k l a (i : Int)) (left a (tsum (l.drop i))) := by
  induction n with
  | zero =>
    intro i a hi h0 ha
    refine Ev.step (fun k => laws_szByteSS.l0.eq_2 ..) (ev_neg (by omega) (ev_ret ?_))
    rw [List.drop_eq_nil_of_le (by omega)]
    unfold left tsum
    rw [if_neg (by omega)]
    omega
  | succ n ih =>
    intro i a hi h0 ha
    have hlt : i < l.length := by omega
    refine Ev.step (fun k => laws_szByteSS.l0.eq_2 ..) (ev_pos (by omega) (ev_pos (by omega) ?_))
    rw [rdB_nat, dropB hlt]
    have hx := hs _ (getD_mem hlt)
    refine ev_pure (szByteS _ a h0 ha hx) ?_
    generalize l.getD i [] = x at hx
    by_cases h : a - (x.length : Int) < 0
    · rw [left_neg h]
      refine ev_pos (by decide) (ev_ret ?_)
      rw [left_neg]
      simp only [tsum]
      omega
    · rw [left_pos h, wr_succ (by omega)]
      refine ev_neg h (ev_eq (ih (i + 1) _ (by omega) (by omega) (by omega)) ?_)
      simp only [tsum]
      unfold left
      split <;> split <;> omega
theorem szByteSS (l : List (List Int)) (a : Int) (h0 : 0 ≤ a) (ha : a ≤ 1048576) (hl : l.length ≤ maxLen) (hs : ∀ v ∈ l, v.length ≤ maxLen) : Ev (fun k => laws_szByteSS.f k l a) (left a (tot l)) := by
  have hm := len_max hl
  unfold laws_szByteSS.f
  rw [wr (n := a - (l.length : Int)) (by omega) (by omega)]
  by_cases h : a - (l.length : Int) < 0
  · refine ev_pos h (ev_ret ?_)
    have := tot_len l
    rw [left_neg (by omega)]
  · refine ev_neg h (ev_eq (szByteSS_l0 l (by omega) hs l.length 0 _ (by omega) (by omega) (by omega)) ?_)
    rw [List.drop_zero]
    unfold left tot
    split <;> split <;> omega
theorem toByteS_l0 (l : List Int) (hl : l.length ≤ 9223372036854775806) (n : Nat) : ∀ i : Nat, i + n = l.length →
    Ev (fun k => laws_toByteS.l0 k l (l.take i ++ List.replicate n 0) (i : Int)) l := by
  induction n with
  | zero =>
    intro i hi
    refine Ev.step (fun k => laws_toByteS.l0.eq_2 ..) ?_
    refine ev_neg (by omega) (ev_ret ?_)
    rw [List.replicate_zero, List.append_nil, List.take_of_length_le (by omega)]
  | succ n ih =>
    intro i hi
    refine Ev.step (fun k => laws_toByteS.l0.eq_2 ..) ?_
    have hlen : (l.take i).length = i := by rw [List.length_take]; omega
    refine ev_pos (by omega) (ev_pos (by omega) (ev_pos (by rw [List.length_append, hlen, List.length_replicate]; omega) ?_))
    rw [wr_succ (by omega), rd_nat, Int.toNat_natCast]
    have e := set_fill (l.take i) (l.getD i 0) 0 n
    rw [hlen, take_getD l 0 i (by omega)] at e
    rw [e]
    exact ih (i + 1) (by omega)
theorem toByteS (l : List Int) (hl : l.length ≤ 140737488355328) : Ev (fun k => laws_toByteS.f k l) l := by
  unfold laws_toByteS.f
  refine ev_pos (by omega) (ev_pos (by omega) ?_)
  have := toByteS_l0 l (by omega) l.length 0 (by omega)
  simpa using this
theorem toByteSS_l0 (l : List (List Int)) (hl : l.length ≤ 9223372036854775806) (hs : ∀ x ∈ l, x.length ≤ 140737488355328) (n : Nat) : ∀ i : Nat, i + n = l.length →
    Ev (fun k => laws_toByteSS.l0 k l (l.take i ++ List.replicate n []) (i : Int)) l := by
  induction n with
  | zero =>
    intro i hi
    refine Ev.step (fun k => laws_toByteSS.l0.eq_2 ..) ?_
    refine ev_neg (by omega) (ev_ret ?_)
    rw [List.replicate_zero, List.append_nil, List.take_of_length_le (by omega)]
  | succ n ih =>
    intro i hi
    refine Ev.step (fun k => laws_toByteSS.l0.eq_2 ..) ?_
    have hlen : (l.take i).length = i := by rw [List.length_take]; omega
    refine ev_pos (by omega) (ev_pos (by omega) ?_)
    rw [rdB_nat]
    refine ev_bind (toByteS _ (hs _ (getD_mem (by omega)))) (ev_pos (by rw [List.length_append, hlen, List.length_replicate]; omega) ?_)
    rw [wr_succ (by omega), Int.toNat_natCast]
    have e := set_fill (l.take i) (l.getD i []) [] n
    rw [hlen, take_getD l [] i (by omega)] at e
    rw [e]
    exact ih (i + 1) (by omega)
theorem toByteSS (l : List (List Int)) (ht : tot l ≤ 10000000000000) : Ev (fun k => laws_toByteSS.f k l) l := by
  have h1 := tot_len l
  have h2 := tsum_le l
  unfold laws_toByteSS.f
  refine ev_pos (by omega) (ev_pos (by omega) ?_)
  have := toByteSS_l0 l (by omega) (fun x hx => by have := tsum_mem hx; omega) l.length 0 (by omega)
  simpa using this
theorem eqByteS_l0 (l : List Int) (hl : l.length ≤ 9223372036854775806) (n : Nat) : ∀ i : Nat, i + n = l.length →
    Ev (fun k => laws_eqByteS.l0 k l l (i : Int)) true := by
  induction n with
  | zero =>
    intro i hi
    refine Ev.step (fun k => laws_eqByteS.l0.eq_2 ..) ?_
    exact ev_neg (by omega) (ev_ret rfl)
  | succ n ih =>
    intro i hi
    refine Ev.step (fun k => laws_eqByteS.l0.eq_2 ..) ?_
    refine ev_pos (by omega) (ev_pos (by omega) (ev_pos (by omega) (ev_pos rfl ?_)))
    rw [wr_succ (by omega)]
    exact ih (i + 1) (by omega)
theorem eqByteS (l : List Int) (hl : l.length ≤ 140737488355328) : Ev (fun k => laws_eqByteS.f k l l) true := by
  unfold laws_eqByteS.f
  exact ev_pos rfl (eqByteS_l0 l (by omega) l.length 0 (by omega))
theorem eqByteSS_l0 (l : List (List Int)) (hl : l.length ≤ 9223372036854775806) (hs : ∀ x ∈ l, x.length ≤ 140737488355328) (n : Nat) : ∀ i : Nat, i + n = l.length →
    Ev (fun k => laws_eqByteSS.l0 k l l (i : Int)) true := by
  induction n with
  | zero =>
    intro i hi
    refine Ev.step (fun k => laws_eqByteSS.l0.eq_2 ..) ?_
    exact ev_neg (by omega) (ev_ret rfl)
  | succ n ih =>
    intro i hi
    refine Ev.step (fun k => laws_eqByteSS.l0.eq_2 ..) ?_
    refine ev_pos (by omega) (ev_pos (by omega) (ev_pos (by omega) ?_))
    rw [rdB_nat]
    refine ev_bind (eqByteS _ (hs _ (getD_mem (by omega)))) (ev_pos rfl ?_)
    rw [wr_succ (by omega)]
    exact ih (i + 1) (by omega)
theorem eqByteSS (l : List (List Int)) (ht : tot l ≤ 10000000000000) : Ev (fun k => laws_eqByteSS.f k l l) true := by
  have h1 := tot_len l
  have h2 := tsum_le l
  unfold laws_eqByteSS.f
  exact ev_pos rfl (eqByteSS_l0 l (by omega) (fun x hx => by have := tsum_mem hx; omega) l.length 0 (by omega))
def marked (a : Int) : Nat → List Int
  | 0 => []
  | n + 1 => (a % 256) :: marked (a + 1) n
theorem marked_length (n : Nat) : ∀ a, (marked a n).length = n := by
  induction n with
  | zero => intro a; rfl
  | succ n ih => intro a; simp [marked, ih]
theorem marked_snoc (n : Nat) : ∀ a, marked a n ++ [(a + n) % 256] = marked a (n + 1) := by
  induction n with
  | zero => intro a; simp [marked]
  | succ n ih =>
    intro a
    have := ih (a + 1)
    simp only [marked, List.cons_append] at this ⊢
    rw [← this]
    congr 3
    omega
theorem marked_getD (n : Nat) : ∀ a i, i < n → (marked a n).getD i 0 = (a + i) % 256 := by
  induction n with
  | zero => intro a i h; omega
  | succ n ih =>
    intro a i h
    cases i with
    | zero => simp [marked]
    | succ i =>
      have := ih (a + 1) i (by omega)
      simp only [marked, List.getD_cons_succ] at this ⊢
      rw [this]
      congr 1
      omega
theorem markByteS_l0 (l : List Int) (a : Int) (h0 : 0 ≤ a) (ha : a + l.length ≤ 4611686018427387904) (n : Nat) : ∀ i : Nat, i + n = l.length →
    Ev (fun k => laws_markByteS.l0 k (marked a i ++ l.drop i) (a + i) (i : Int)) (a + l.length, marked a l.length) := by
  induction n with
  | zero =>
    intro i hi
    refine Ev.step (fun k => laws_markByteS.l0.eq_2 ..) ?_
    refine ev_neg (by rw [List.length_append, marked_length, List.length_drop]; omega) (ev_ret ?_)
    obtain rfl : i = l.length := by omega
    rw [List.drop_length, List.append_nil]
  | succ n ih =>
    intro i hi
    refine Ev.step (fun k => laws_markByteS.l0.eq_2 ..) ?_
    refine ev_pos (by rw [List.length_append, marked_length, List.length_drop]; omega) (ev_pos (by omega) ?_)
    rw [wr_succ (by omega), Int.toNat_natCast, wr (n := a + i + 1) (by omega) (by omega), drop_getD l 0 i (by omega),
      List.set_append_right _ _ (by rw [marked_length]; exact Nat.le_refl _), marked_length, Nat.sub_self, List.set_cons_zero]
    have := ih (i + 1) (by omega)
    rw [← marked_snoc, List.append_assoc] at this
    rw [show a + (i : Int) + 1 = a + ((i + 1 : Nat) : Int) by omega]
    exact this
theorem markByteS (l : List Int) (a : Int) (h0 : 0 ≤ a) (ha : a + l.length ≤ 4611686018427387904) :
    Ev (fun k => laws_markByteS.f k l a) (a + l.length, marked a l.length) := by
  unfold laws_markByteS.f
  have := markByteS_l0 l a h0 ha l.length 0 (by omega)
  simpa [marked] using this
theorem tsum_snoc (l : List (List Int)) (j : Nat) (h : j < l.length) : tsum (l.take (j + 1)) = tsum (l.take j) + (l.getD j []).length := by
  rw [← take_getD l [] j h, tsum_append]
  simp [tsum]
theorem tsum_take (l : List (List Int)) (j : Nat) : tsum (l.take j) ≤ tsum l := by
  have := tsum_append (l.take j) (l.drop j)
  rw [List.take_append_drop] at this
  omega
/-- Rows, marked one after the other. -/
def markedSS (a : Int) : List (List Int) → List (List Int)
  | [] => []
  | x :: l => marked a x.length :: markedSS (a + x.length) l
theorem markedSS_length (l : List (List Int)) : ∀ a, (markedSS a l).length = l.length := by
  induction l with
  | nil => intro a; rfl
  | cons x l ih => intro a; simp [markedSS, ih]
theorem markedSS_append (l m : List (List Int)) : ∀ a, markedSS a (l ++ m) = markedSS a l ++ markedSS (a + tsum l) m := by
  induction l with
  | nil => intro a; simp [markedSS, tsum]
  | cons x l ih =>
    intro a
    simp only [List.cons_append, markedSS, tsum, ih]
    congr 3
    omega
theorem markedSS_step (a : Int) (l : List (List Int)) (j : Nat) (h : j < l.length) : (markedSS a (l.take j) ++ l.drop j).set j (marked (a + tsum (l.take j)) (l.getD j []).length) = markedSS a (l.take (j + 1)) ++ l.drop (j + 1) := by
  have hl : (markedSS a (l.take j)).length = j := by rw [markedSS_length, List.length_take]; omega
  rw [dropB h, ← take_getD l [] j h, markedSS_append, List.set_append_right _ _ (by omega), hl, Nat.sub_self, List.set_cons_zero, List.append_assoc]
  rfl
theorem markedSS_at (a : Int) (l : List (List Int)) (j : Nat) (h : j < l.length) : (markedSS a (l.take j) ++ l.drop j).getD j [] = l.getD j [] := by
  have hl : (markedSS a (l.take j)).length = j := by rw [markedSS_length, List.length_take]; omega
  rw [List.getD_eq_getElem?_getD, List.getElem?_append_right (by omega), hl, Nat.sub_self, dropB h]
  rfl
theorem heldByteS_l0 (a : Int) (m : Nat) (h0 : 0 ≤ a) (ha : a + m ≤ 4611686018427387904) (n : Nat) : ∀ i : Nat, i + n = m →
    Ev (fun k => laws_heldByteS.l0 k (marked a m) (a + i) (i : Int)) (a + m) := by
  induction n with
  | zero =>
    intro i hi
    refine Ev.step (fun k => laws_heldByteS.l0.eq_2 ..) ?_
    refine ev_neg (by rw [marked_length]; omega) (ev_ret ?_)
    omega
  | succ n ih =>
    intro i hi
    refine Ev.step (fun k => laws_heldByteS.l0.eq_2 ..) ?_
    refine ev_pos (by rw [marked_length]; omega) (ev_pos (by omega) (ev_pos (by rw [rd_nat, marked_getD _ _ _ (by omega)]) ?_))
    rw [wr_succ (by omega), wr (n := a + i + 1) (by omega) (by omega), show a + (i : Int) + 1 = a + ((i + 1 : Nat) : Int) by omega]
    exact ih (i + 1) (by omega)
theorem heldByteS (a : Int) (m : Nat) (h0 : 0 ≤ a) (ha : a + m ≤ 4611686018427387904) :
    Ev (fun k => laws_heldByteS.f k (marked a m) a) (a + m) := by
  unfold laws_heldByteS.f
  have := heldByteS_l0 a m h0 ha m 0 (by omega)
  simpa using this
theorem eqPair (p q : List Int) (hp : p.length ≤ 140737488355328) (hq : q.length ≤ 140737488355328) : Ev (fun k => laws_eqPair.f k p q p q) true := by
  unfold laws_eqPair.f
  exact ev_bind (eqByteS p hp) (ev_pos rfl (ev_bind (eqByteS q hq) (ev_pos rfl (ev_ret rfl))))
theorem markPair (p q : List Int) (hp : p.length ≤ 140737488355328) (hq : q.length ≤ 140737488355328) : Ev (fun k => laws_markPair.f k p q 1) (1 + (p.length : Int) + (q.length : Int), marked 1 p.length, marked (1 + p.length) q.length) := by
  unfold laws_markPair.f
  exact ev_bind (markByteS p 1 (by decide) (by omega)) (ev_bind (markByteS q (1 + p.length) (by omega) (by omega)) (ev_ret rfl))
theorem heldPair (m n : Nat) (hp : m ≤ 140737488355328) (hq : n ≤ 140737488355328) : Ev (fun k => laws_heldPair.f k (marked 1 m) (marked (1 + m) n) 1) (1 + (m : Int) + (n : Int)) := by
  unfold laws_heldPair.f
  exact ev_bind (heldByteS 1 m (by decide) (by omega)) (ev_neg (by omega) (ev_bind (heldByteS (1 + m) n (by omega) (by omega)) (ev_neg (by omega) (ev_ret rfl))))
theorem digest_a (a0 : Int) (l : List Int) (h1 : 2 ≤ a0 ∧ a0 ≤ 60) (h2 : l.length ≤ 4000) : impl_Squeeze.f a0 l 1 = some ([Dig.out a0 (Dig.rnds 6 (Dig.taken l))], true) := by
  unfold impl_Squeeze.f
  rw [if_pos h1, if_pos h2, if_pos (by decide)]
  generalize Dig.rnds 6 (Dig.taken l) = s
  simp only [Int.toNat_one, Dig.squeeze]
theorem digest_b (a0 : Int) (l : List Int) (h : ¬ ((2 ≤ a0 ∧ a0 ≤ 60) ∧ l.length ≤ 4000)) : impl_Squeeze.f a0 l 1 = some ([], false) := by
  unfold impl_Squeeze.f
  by_cases h1 : 2 ≤ a0 ∧ a0 ≤ 60
  · rw [if_pos h1, if_neg (fun h2 => h ⟨h1, h2⟩)]
  · rw [if_neg h1]
theorem digest_fin (x : Int) : ((some ([x], true) : Option (List Int × Bool)).bind fun bt => (if bt.2 = true then (if 0 < (bt.1.length : Int) then (some (rd bt.1 0)) else (none)) else (some (-1)))) = some x := by
  rw [Option.bind_some, if_pos rfl, if_pos (by simp)]
  rfl
theorem digest_non : ((some ([], false) : Option (List Int × Bool)).bind fun bt => (if bt.2 = true then (if 0 < (bt.1.length : Int) then (some (rd bt.1 0)) else (none)) else (some (-1)))) = some (-1) := by
  rw [Option.bind_some, if_neg (by simp)]
theorem impl_digest (a0 : Int) (l : List Int) : impl_Digest.f a0 l = some (Dig.digest a0 l) := by
  unfold impl_Digest.f
  by_cases h1 : 2 ≤ a0 ∧ a0 ≤ 60
  · by_cases h2 : l.length ≤ 4000
    · have e : Dig.digest a0 l = Dig.out a0 (Dig.rnds 6 (Dig.taken l)) := by
        unfold Dig.digest
        rw [if_pos h1, if_pos h2]
      rw [digest_a a0 l h1 h2, e]
      exact digest_fin _
    · have e : Dig.digest a0 l = -1 := by
        unfold Dig.digest
        rw [if_pos h1, if_neg h2]
      rw [digest_b a0 l (fun h => h2 h.2), e]
      exact digest_non
  · have e : Dig.digest a0 l = -1 := by
      unfold Dig.digest
      rw [if_neg h1]
    rw [digest_b a0 l (fun h => h1 h.1), e]
    exact digest_non

theorem spec_turn13 (x : Int) : spec_l1Turn.f x 13 = some (Dig.r13 x) := by
  have e : wrap64 (64 - 13) = 51 := by unfold wrap64; decide
  unfold spec_l1Turn.f
  rw [e, if_pos (by decide), if_pos (by decide)]
  have e1 : shl .u64 x 13 = IntKind.u64.wrap (x * 8192) := by
    unfold shl
    rw [show (2 : Int) ^ min (13 : Int).toNat IntKind.u64.bits = 8192 by decide]
  have e2 : shr .u64 x 51 = x / 2251799813685248 := by
    unfold shr
    rw [show (2 : Int) ^ min (51 : Int).toNat IntKind.u64.bits = 2251799813685248 by decide]
  rw [e1, e2]
  rfl
theorem spec_turn29 (x : Int) : spec_l1Turn.f x 29 = some (Dig.r29 x) := by
  have e : wrap64 (64 - 29) = 35 := by unfold wrap64; decide
  unfold spec_l1Turn.f
  rw [e, if_pos (by decide), if_pos (by decide)]
  have e1 : shl .u64 x 29 = IntKind.u64.wrap (x * 536870912) := by
    unfold shl
    rw [show (2 : Int) ^ min (29 : Int).toNat IntKind.u64.bits = 536870912 by decide]
  have e2 : shr .u64 x 35 = x / 34359738368 := by
    unfold shr
    rw [show (2 : Int) ^ min (35 : Int).toNat IntKind.u64.bits = 34359738368 by decide]
  rw [e1, e2]
  rfl
theorem spec_turn41 (x : Int) : spec_l1Turn.f x 41 = some (Dig.r41 x) := by
  have e : wrap64 (64 - 41) = 23 := by unfold wrap64; decide
  unfold spec_l1Turn.f
  rw [e, if_pos (by decide), if_pos (by decide)]
  have e1 : shl .u64 x 41 = IntKind.u64.wrap (x * 2199023255552) := by
    unfold shl
    rw [show (2 : Int) ^ min (41 : Int).toNat IntKind.u64.bits = 2199023255552 by decide]
  have e2 : shr .u64 x 23 = x / 8388608 := by
    unfold shr
    rw [show (2 : Int) ^ min (23 : Int).toNat IntKind.u64.bits = 8388608 by decide]
  rw [e1, e2]
  rfl
theorem spec_round (a b c : Int) : spec_l1Round.f a b c = some (Dig.rnd (a, b, c)) := by
  unfold spec_l1Round.f
  simp only [spec_turn13, spec_turn29, spec_turn41, Option.bind_some, Dig.rnd0_left, Dig.rnd1_left, Dig.rnd2_left]
  rfl
theorem spec_out_l0 (bits : Int) (hb : 0 ≤ bits) (m : Nat) (hm : m ≤ 1000) (n : Nat) : ∀ (i : Nat) (a b c : Int), i + n = m →
    Ev (fun k => spec_l1Out.l0 k bits (m : Int) (i : Int) a b c) (Dig.out bits (Dig.rnds n (a, b, c))) := by
  induction n with
  | zero =>
    intro i a b c hi
    refine Ev.step (fun k => spec_l1Out.l0.eq_2 ..) ?_
    exact ev_neg (by omega) (ev_pos hb (ev_ret rfl))
  | succ n ih =>
    intro i a b c hi
    refine Ev.step (fun k => spec_l1Out.l0.eq_2 ..) ?_
    refine ev_pos (by omega) (ev_pure (spec_round a b c) ?_)
    rw [wr_succ (by omega)]
    exact ih (i + 1) _ _ _ (by omega)
theorem spec_out {bits : Int} (hb : 0 ≤ bits) (a b c : Int) (m : Nat) (hm : m ≤ 1000) : Ev (fun k => spec_l1Out.f k bits a b c (m : Int)) (Dig.out bits (Dig.rnds m (a, b, c))) := by
  unfold spec_l1Out.f
  exact spec_out_l0 bits hb m hm m 0 a b c (Nat.zero_add _)
theorem spec_digest_l0 {bits : Int} (hb : 0 ≤ bits) (l : List Int) (hl : l.length ≤ 4000) (n : Nat) : ∀ (i : Nat) (a b c : Int), i + n = l.length → Dig.takes (l.take i) (1, 2, 3) = (a, b, c) →
    Ev (fun k => spec_Digest.l0 k bits l (i : Int) a b c) (Dig.out bits (Dig.rnds 6 (Dig.taken l))) := by
  induction n with
  | zero =>
    intro i a b c hi hs
    refine Ev.step (fun k => spec_Digest.l0.eq_2 ..) ?_
    rw [List.take_of_length_le (by omega)] at hs
    refine ev_neg (by omega) ?_
    have e : Dig.taken l = (Go.bits .xor .u64 a (IntKind.u64.wrap (l.length : Int)), b, c) := by
      unfold Dig.taken
      rw [hs]
      rfl
    refine ev_bind (a := Dig.out bits (Dig.rnds 6 (Dig.taken l))) ?_ (ev_ret rfl)
    rw [e]
    exact spec_out hb _ _ _ 6 (by decide)
  | succ n ih =>
    intro i a b c hi hs
    refine Ev.step (fun k => spec_Digest.l0.eq_2 ..) ?_
    refine ev_pos (by omega) (ev_pos (by omega) (ev_pure (spec_round _ _ _) (ev_pure (spec_round _ _ _) ?_)))
    rw [wr_succ (by omega)]
    refine ih (i + 1) _ _ _ (by omega) ?_
    have et : l.take (i + 1) = l.take i ++ [rd l (i : Int)] := by
      rw [rd_nat, take_getD l 0 i (by omega)]
    rw [et, Dig.takes_snoc, hs]
    rfl
theorem spec_digest (a0 : Int) (l : List Int) : Ev (fun k => spec_Digest.f k a0 l) (Dig.digest a0 l) := by
  unfold spec_Digest.f Dig.digest
  refine ev_pure (a := decide (2 ≤ a0 ∧ a0 ≤ 60)) (by unfold spec_l1In.f; by_cases h : a0 ≥ 2 <;> simp [h]) ?_
  by_cases h1 : 2 ≤ a0 ∧ a0 ≤ 60
  · rw [if_pos h1]
    refine ev_pos (by simp [h1]) ?_
    refine Ev.step (fun k => spec_Digest.j0.eq_2 ..) ?_
    by_cases h2 : l.length ≤ 4000
    · rw [if_pos h2]
      refine ev_neg (by simp; omega) ?_
      exact spec_digest_l0 (by omega) l h2 l.length 0 1 2 3 (Nat.zero_add _) rfl
    · rw [if_neg h2]
      exact ev_pos (by simp; omega) (ev_ret rfl)
  · rw [if_neg h1]
    refine ev_neg (by simp; omega) ?_
    refine Ev.step (fun k => spec_Digest.j0.eq_2 ..) ?_
    exact ev_pos rfl (ev_ret rfl)
/-- The two texts collide. -/
def coll (b : Int) (p q : List Int) : Bool := decide (0 ≤ Dig.digest b p) && (decide (Dig.digest b p = Dig.digest b q) && !((strOfNums p).toList == (strOfNums q).toList))
theorem spec_coll (b : Int) (p q : List Int) : Ev (fun k => spec_Collides.f k b p q) (coll b p q) := by
  unfold spec_Collides.f coll
  refine ev_bind (spec_digest b p) ?_
  have hq := spec_digest b q
  generalize Dig.digest b p = x
  generalize Dig.digest b q = y at hq ⊢
  by_cases h : x ≥ 0
  · refine ev_pos h (ev_bind hq ?_)
    by_cases he : x = y
    · refine ev_pos he (ev_pure (a := ((strOfNums p).toList == (strOfNums q).toList)) rfl (ev_ret ?_))
      subst he
      simp [h]
      try omega
    · exact ev_neg he (ev_ret (by simp [he]))
  · exact ev_neg h (ev_ret (by simp [h]; try omega))
theorem strs_map (l : List Int) : (strOfNums l).toList = l.map (fun n => UInt8.ofNat n.toNat) := ByteArray.toList_mk _
/-- As the two programs compare two texts. -/
def same (p q : List Int) : Bool := (strOfNums p).toList == (strOfNums q).toList
theorem same_self (p : List Int) : same p p = true := by simp [same]
theorem same_imp (p : List Int) : ∀ q : List Int, (∀ x ∈ p, 0 ≤ x ∧ x < 256) → (∀ x ∈ q, 0 ≤ x ∧ x < 256) → same p q = true → p = q := by
  induction p with
  | nil =>
    intro q _ _ h
    cases q with
    | nil => rfl
    | cons y q => simp [same, strs_map] at h
  | cons x p ih =>
    intro q hp hq h
    cases q with
    | nil => simp [same, strs_map] at h
    | cons y q =>
      unfold same at h
      rw [strs_map, strs_map, List.map_cons, List.map_cons, beq_iff_eq, List.cons.injEq] at h
      obtain ⟨h1, h2⟩ := h
      have hx := hp x List.mem_cons_self
      have hy := hq y List.mem_cons_self
      have e : x.toNat = y.toNat := by
        have := congrArg UInt8.toNat h1
        simp only [UInt8.toNat_ofNat'] at this
        omega
      have exy : x = y := by omega
      subst exy
      rw [ih q (fun z hz => hp z (List.mem_cons_of_mem _ hz)) (fun z hz => hq z (List.mem_cons_of_mem _ hz)) (by unfold same; rw [strs_map, strs_map, beq_iff_eq]; exact h2)]
/-- The first pair that collides; l behind p. -/
def findP (b : Int) : List (List Int) → List (List Int) → List Int × List Int × Bool
  | _, [] => ([], [], false)
  | p, x :: l => match p.find? (fun a => coll b a x) with | some a => (a, x, true) | none => findP b (p ++ [x]) l
theorem findP_mem (b : Int) (l : List (List Int)) : ∀ p, ((findP b p l).1 ∈ p ++ l ∨ (findP b p l).1 = []) ∧ ((findP b p l).2.1 ∈ p ++ l ∨ (findP b p l).2.1 = []) := by
  induction l with
  | nil => intro p; exact ⟨.inr rfl, .inr rfl⟩
  | cons x l ih =>
    intro p
    unfold findP
    cases h : p.find? (fun a => coll b a x) with
    | none =>
      have := ih (p ++ [x])
      rw [List.append_assoc] at this
      exact this
    | some a => exact ⟨.inl (List.mem_append_left _ (List.mem_of_find?_eq_some h)), .inl (List.mem_append_right _ List.mem_cons_self)⟩
def findPair (b : Int) (l : List (List Int)) : List Int × List Int × Bool := if l.length ≤ 100 then findP b [] l else ([], [], false)
theorem rdD (b : Int) (p : List (List Int)) {j : Nat} (h : j < p.length) : rd (p.map (Dig.digest b)) (j : Int) = Dig.digest b (p.getD j []) := by
  rw [rd_nat, List.getD_eq_getElem?_getD, List.getElem?_map, List.getD_eq_getElem?_getD, List.getElem?_eq_getElem h]
  rfl
theorem impl_fp_l1 (b : Int) (l p : List (List Int)) (x : List Int) (n i : Int) {R : List Int × List Int × Bool} (hp : p.length ≤ 100) (hb : ∀ u ∈ p, u.length ≤ 1048576) (hx : x.length ≤ 1048576) (h0 : Ev (fun k => impl_FindPair.l0 k b l (p.map (Dig.digest b) ++ [Dig.digest b x]) l n (wrap64 (i + 1))) R) (m : Nat) : ∀ j : Nat, j + m = p.length →
    Ev (fun k => impl_FindPair.l1 k b l (p.map (Dig.digest b)) x (Dig.digest b x) l n i p (p.length : Int) (j : Int)) (match (p.drop j).find? (fun a => coll b a x) with | some a => (a, x, true) | none => R) := by
  induction m with
  | zero =>
    intro j hj
    rw [show p.drop j = [] from List.drop_eq_nil_of_le (by omega)]
    exact Ev.step (fun k => impl_FindPair.l1.eq_2 ..) (ev_neg (by omega) (ev_pos (by rw [List.length_map]; omega) h0))
  | succ m ih =>
    intro j hj
    have hi := ih (j + 1) (by omega)
    rw [dropB (l := p) (by omega)]
    refine Ev.step (fun k => impl_FindPair.l1.eq_2 ..) (ev_pos (by omega) (ev_pos (by omega) (ev_pos (by omega) ?_)))
    rw [rdD b p (by omega), rdB_nat, wr_succ (by omega), List.find?_cons]
    have hc : coll b (p.getD j []) x = (decide (0 ≤ Dig.digest b (p.getD j [])) && (decide (Dig.digest b (p.getD j []) = Dig.digest b x) && !same (p.getD j []) x)) := rfl
    have ha := hb _ (getD_mem (l := p) (i := j) (by omega))
    generalize p.getD j [] = a at hc ha ⊢
    have hl : (j : Int) < ((p.map (Dig.digest b)).length : Int) := by rw [List.length_map]; omega
    generalize p.map (Dig.digest b) = kn at hi hl ⊢
    generalize Dig.digest b x = dx at hc hi ⊢
    generalize Dig.digest b a = da at hc ⊢
    by_cases h1 : dx ≥ 0
    · refine ev_pos h1 (ev_pos hl ?_)
      by_cases h2 : da = dx
      · subst h2
        refine ev_pos rfl (ev_pure (a := same a x) rfl ?_)
        by_cases h3 : same a x = true
        · have e : coll b a x = false := by rw [hc, h3]; simp
          rw [e]
          exact ev_pos h3 hi
        · have e : coll b a x = true := by rw [hc]; simp only [Bool.not_eq_true] at h3; rw [h3]; simp; omega
          rw [e]
          refine ev_neg h3 (ev_pure (a := (a, x)) ?_ (ev_ret rfl))
          unfold impl_pairOf.f bytes_Clone.f
          rw [if_pos (by omega), Option.bind_some, if_pos (by omega), Option.bind_some]
      · have e : coll b a x = false := by rw [hc]; simp [h2]
        rw [e]
        exact ev_neg h2 hi
    · have e : coll b a x = false := by
        rw [hc]
        by_cases h2 : da = dx
        · subst h2; simp; omega
        · simp [h2]
      rw [e]
      exact ev_neg h1 hi
theorem impl_fp_l0 (b : Int) (l : List (List Int)) (hb : ∀ u ∈ l, u.length ≤ 1048576) (hl : l.length ≤ 100) (m : Nat) : ∀ i : Nat, i + m = l.length →
    Ev (fun k => impl_FindPair.l0 k b l ((l.take i).map (Dig.digest b)) l (l.length : Int) (i : Int)) (findP b (l.take i) (l.drop i)) := by
  induction m with
  | zero =>
    intro i hi
    rw [show l.drop i = [] from List.drop_eq_nil_of_le (by omega)]
    exact Ev.step (fun k => impl_FindPair.l0.eq_2 ..) (ev_neg (by omega) (ev_ret rfl))
  | succ m ih =>
    intro i hi
    have hn := ih (i + 1) (by omega)
    have et := take_getD l [] i (by omega)
    rw [← et, List.map_append, List.map_cons, List.map_nil] at hn
    rw [dropB (l := l) (by omega)]
    refine Ev.step (fun k => impl_FindPair.l0.eq_2 ..) (ev_pos (by omega) (ev_pos (by omega) (ev_pos (by omega) ?_)))
    rw [rdB_nat]
    refine ev_pure (impl_digest b (l.getD i [])) (ev_pos (by omega) (ev_some ?_))
    rw [Int.toNat_natCast]
    have ht : (l.take i).length ≤ 100 := Nat.le_trans (List.length_take_le' _ _) hl
    rw [← wr_succ (n := i) (by omega)] at hn
    exact impl_fp_l1 b l (l.take i) (l.getD i []) (l.length : Int) (i : Int) ht (fun u hu => hb u (List.mem_of_mem_take hu)) (hb _ (getD_mem (by omega))) hn (l.take i).length 0 (by omega)
theorem impl_findpair (b : Int) (l : List (List Int)) (hb : ∀ u ∈ l, u.length ≤ 1048576) : Ev (fun k => impl_FindPair.f k b l) (findPair b l) := by
  unfold impl_FindPair.f findPair
  by_cases h : l.length ≤ 100
  · rw [if_pos h]
    exact ev_neg (by omega) (impl_fp_l0 b l hb h l.length 0 (by omega))
  · rw [if_neg h]
    exact ev_pos (by omega) (ev_ret rfl)
theorem spec_b {p : List Int} (hp : p.length ≤ 1048576) : spec_l1Bytes.f p = some p := by
  unfold spec_l1Bytes.f
  rw [Option.bind_some, if_pos (by simp only [List.length_nil]; omega), List.nil_append]
theorem spec_fp_l1 (b : Int) (l : List (List Int)) (hb : ∀ u ∈ l, u.length ≤ 1048576) (i : Nat) (hi : i < l.length) (hl : l.length ≤ 100) {R : List Int × List Int × Bool} (h0 : Ev (fun k => spec_FindPair.l0 k b l (wrap64 ((i : Int) + 1))) R) (m : Nat) : ∀ j : Nat, j + m = i →
    Ev (fun k => spec_FindPair.l1 k b l (i : Int) (j : Int)) (match ((l.take i).drop j).find? (fun a => coll b a (l.getD i [])) with | some a => (a, l.getD i [], true) | none => R) := by
  have htl : (l.take i).length = i := by rw [List.length_take]; omega
  induction m with
  | zero =>
    intro j hj
    rw [show (l.take i).drop j = [] from List.drop_eq_nil_of_le (by omega)]
    exact Ev.step (fun k => spec_FindPair.l1.eq_2 ..) (ev_neg (by omega) h0)
  | succ m ih =>
    intro j hj
    have hn := ih (j + 1) (by omega)
    have e0 : (l.take i).getD j [] = l.getD j [] := by
      rw [List.getD_eq_getElem?_getD, List.getElem?_take_of_lt (by omega), List.getD_eq_getElem?_getD]
    rw [dropB (l := l.take i) (by omega), e0, List.find?_cons]
    refine Ev.step (fun k => spec_FindPair.l1.eq_2 ..) (ev_pos (by omega) (ev_pos (by omega) (ev_pos (by omega) ?_)))
    rw [rdB_nat, rdB_nat, wr_succ (by omega)]
    have ha := hb _ (getD_mem (l := l) (i := j) (by omega))
    have hx := hb _ (getD_mem (l := l) (i := i) hi)
    generalize l.getD j [] = a at ha ⊢
    generalize l.getD i [] = x at hx hn ⊢
    refine ev_pure (spec_b ha) (ev_pos (by omega) (ev_pos (by omega) (ev_pure (spec_b hx) (ev_bind (spec_coll b a x) ?_))))
    by_cases hc : coll b a x = true
    · rw [hc]
      exact ev_pos rfl (ev_ret rfl)
    · simp only [Bool.not_eq_true] at hc
      rw [hc]
      exact ev_neg (by decide) hn
theorem spec_fp_l0 (b : Int) (l : List (List Int)) (hb : ∀ u ∈ l, u.length ≤ 1048576) (hl : l.length ≤ 100) (m : Nat) : ∀ i : Nat, i + m = l.length →
    Ev (fun k => spec_FindPair.l0 k b l (i : Int)) (findP b (l.take i) (l.drop i)) := by
  induction m with
  | zero =>
    intro i hi
    rw [show l.drop i = [] from List.drop_eq_nil_of_le (by omega)]
    exact Ev.step (fun k => spec_FindPair.l0.eq_2 ..) (ev_neg (by omega) (Ev.step (fun k => spec_FindPair.j1.eq_2 ..) (ev_neg (by decide) (ev_ret rfl))))
  | succ m ih =>
    intro i hi
    have hn := ih (i + 1) (by omega)
    have et := take_getD l [] i (by omega)
    rw [← et] at hn
    rw [dropB (l := l) (by omega)]
    refine Ev.step (fun k => spec_FindPair.l0.eq_2 ..) (ev_pos (by omega) (Ev.step (fun k => spec_FindPair.j1.eq_2 ..) (ev_pos (decide_eq_true (by omega)) ?_)))
    rw [← wr_succ (n := i) (by omega)] at hn
    exact spec_fp_l1 b l hb i (by omega) hl hn i 0 (by omega)
theorem spec_findpair (b : Int) (l : List (List Int)) (hb : ∀ u ∈ l, u.length ≤ 1048576) : Ev (fun k => spec_FindPair.f k b l) (findPair b l) := by
  unfold spec_FindPair.f findPair
  by_cases h : l.length ≤ 100
  · rw [if_pos h]
    exact spec_fp_l0 b l hb h l.length 0 (by omega)
  · rw [if_neg h]
    exact Ev.step (fun k => spec_FindPair.l0.eq_2 ..) (ev_pos (by omega) (Ev.step (fun k => spec_FindPair.j1.eq_2 ..) (ev_neg (by simp; omega) (ev_ret rfl))))
theorem FnExactFindPair (b : Int) (x : List (List Int)) (_ : (Lit.int .i64 b).wf = true) (hx : x.length ≤ maxLen ∧ ∀ v0 ∈ x, (v0.length ≤ maxLen ∧ ∀ v1 ∈ v0, (Lit.int .u8 v1).wf = true)) (tx : tot x ≤ 1048576) :
    ∃ (r1 r2 : List Int) (r3 : Bool), (∃ k, spec_FindPair.f k b x = some (r1, r2, r3)) ∧ (∃ k, impl_FindPair.f k b x = some (r1, r2, r3)) ∧ r1.length ≤ 1000000000000 ∧ r2.length ≤ 1000000000000 := by
  have hm : ∀ u ∈ x, u.length ≤ 1048576 := fun u hu => Nat.le_trans (tsum_mem hu) (Nat.le_trans (tsum_le x) tx)
  have hle : ∀ u : List Int, (u ∈ x ∨ u = []) → u.length ≤ 1000000000000 := by
    rintro u (h | rfl)
    · exact Nat.le_trans (hm u h) (by decide)
    · exact Nat.zero_le _
  have hf : ((findPair b x).1 ∈ x ∨ (findPair b x).1 = []) ∧ ((findPair b x).2.1 ∈ x ∨ (findPair b x).2.1 = []) := by
    unfold findPair
    split
    · exact findP_mem b x []
    · exact ⟨.inr rfl, .inr rfl⟩
  exact ⟨_, _, _, (spec_findpair b x hm).rounds, (impl_findpair b x hm).rounds, hle _ hf.1, hle _ hf.2⟩

end Go.Proofs.Ytmcpnganobehaaa.Pure
