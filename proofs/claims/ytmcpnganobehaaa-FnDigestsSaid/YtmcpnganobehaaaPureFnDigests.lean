/- A digest of drawn bytes has its bits, and with fewer bits it is what is left of that with more; rounds go on where rounds ended; parts come back: for every text of bytes. -/
import Derived.Test.YtmcpnganobehaaaPFnDigestsx7
import Derived.Test.YtmcpnganobehaaaKit
import Derived.Test.YtmcpnganobehaaaDig
namespace Go.Proofs.Ytmcpnganobehaaa.Pure
open Go.RowKit Go.Proofs.Ytmcpnganobehaaa Go.Proofs.Ytmcpnganobehaaa.PFnDigests Go.Proofs.YtmcpnganobehaaaW.PrintWords Go.Proofs.YtmcpnganobehaaaW.PrintLast Go.Proofs.YtmcpnganobehaaaW.PrintMore Go.Proofs.Ytmcpnganobehaaa.K
set_option linter.unusedVariables false

/-- What is left of a behind a taking of t; -1: t was too much. -/
def left (a : Int) (t : Nat) : Int := if a - (t : Int) < 0 then -1 else a - (t : Int)
theorem left_ok {a : Int} {t : Nat} (h : ¬ left a t < 0) : left a t = a - (t : Int) := by
  unfold left at h ⊢
  split
  · rename_i h2
    rw [if_pos h2] at h
    omega
  · rfl
theorem left_neg {a : Int} {t : Nat} (h : a - (t : Int) < 0) : left a t = -1 := if_pos h
theorem left_pos {a : Int} {t : Nat} (h : ¬ a - (t : Int) < 0) : left a t = a - (t : Int) := if_neg h
theorem len_max {n : Nat} (h : n ≤ maxLen) : n ≤ 9223372036854775807 := by unfold maxLen at h; omega
/-- The bytes of all texts together. -/
def tsum : List (List Int) → Nat
  | [] => 0
  | x :: l => x.length + tsum l
/-- .. and the texts. -/
def tot (l : List (List Int)) : Nat := l.length + tsum l
theorem tsum_le (l : List (List Int)) : tsum l ≤ tot l := Nat.le_add_left _ _
theorem tot_len (l : List (List Int)) : l.length ≤ tot l := Nat.le_add_right _ _
theorem tsum_mem {l : List (List Int)} {x : List Int} (h : x ∈ l) : x.length ≤ tsum l := by
  induction l with
  | nil => cases h
  | cons y l ih =>
    rcases List.mem_cons.1 h with rfl | h
    · unfold tsum; omega
    · have := ih h; unfold tsum; omega
theorem tsum_append (l m : List (List Int)) : tsum (l ++ m) = tsum l + tsum m := by
  induction l with
  | nil => simp [tsum]
  | cons x l ih => simp only [List.cons_append, tsum, ih]; omega
theorem rdB_nat (l : List (List Int)) (i : Nat) : rd_L2 l (i : Int) = l.getD i [] := by unfold rd_L2; rw [Int.toNat_natCast]
theorem getD_mem {l : List (List Int)} {i : Nat} (h : i < l.length) : l.getD i [] ∈ l := by
  rw [List.getD_eq_getElem?_getD, List.getElem?_eq_getElem h]
  exact List.getElem_mem h
theorem dropB {l : List (List Int)} {i : Nat} (h : i < l.length) : l.drop i = l.getD i [] :: l.drop (i + 1) := drop_getD l [] i h
theorem digest_a (a0 : Int) (l : List Int) (h1 : 2 ≤ a0 ∧ a0 ≤ 60) (h2 : l.length ≤ 4000) : impl_Squeeze.f a0 l 1 = some ([Dig.out a0 (Dig.rnds 6 (Dig.taken l))], true) := by
  unfold impl_Squeeze.f
  rw [if_pos h1, if_pos h2, if_pos (by decide)]
  generalize Dig.rnds 6 (Dig.taken l) = s
  simp only [Int.toNat_one, Dig.squeeze]
theorem digest_b (a0 : Int) (l : List Int) (h : ¬ ((2 ≤ a0 ∧ a0 ≤ 60) ∧ l.length ≤ 4000)) : impl_Squeeze.f a0 l 1 = some ([], false) := by
  unfold impl_Squeeze.f
  by_cases h1 : 2 ≤ a0 ∧ a0 ≤ 60
  · rw [if_pos h1, if_neg (fun h2 => h ⟨h1, h2⟩)]
  · rw [if_neg h1]
theorem digest_fin (x : Int) : ((some ([x], true) : Option (List Int × Bool)).bind fun bt => (if bt.2 = true then (if 0 < (bt.1.length : Int) then (some (rd bt.1 0)) else (none)) else (some (-1)))) = some x := by
  rw [Option.bind_some, if_pos rfl, if_pos (by simp)]
  rfl
theorem digest_non : ((some ([], false) : Option (List Int × Bool)).bind fun bt => (if bt.2 = true then (if 0 < (bt.1.length : Int) then (some (rd bt.1 0)) else (none)) else (some (-1)))) = some (-1) := by
  rw [Option.bind_some, if_neg (by simp)]
theorem impl_digest (a0 : Int) (l : List Int) : impl_Digest.f a0 l = some (Dig.digest a0 l) := by
  unfold impl_Digest.f
  by_cases h1 : 2 ≤ a0 ∧ a0 ≤ 60
  · by_cases h2 : l.length ≤ 4000
    · have e : Dig.digest a0 l = Dig.out a0 (Dig.rnds 6 (Dig.taken l)) := by
        unfold Dig.digest
        rw [if_pos h1, if_pos h2]
      rw [digest_a a0 l h1 h2, e]
      exact digest_fin _
    · have e : Dig.digest a0 l = -1 := by
        unfold Dig.digest
        rw [if_pos h1, if_neg h2]
      rw [digest_b a0 l (fun h => h2 h.2), e]
      exact digest_non
  · have e : Dig.digest a0 l = -1 := by
      unfold Dig.digest
      rw [if_neg h1]
    rw [digest_b a0 l (fun h => h1 h.1), e]
    exact digest_non

/-- The last n bytes of a number, the highest first. -/
def be : Nat → Nat → List Int
  | 0, _ => []
  | n + 1, x => be n (x / 256) ++ [((x % 256 : Nat) : Int)]
theorem be_length (n : Nat) : ∀ x, (be n x).length = n := by
  induction n with
  | zero => intro x; rfl
  | succ n ih => intro x; simp [be, ih]
/-- The eight bytes of a number, nothing below 0. -/
def eightOf (x : Int) : List Int := if x < 0 then [] else be 8 x.toNat
theorem impl_high_l0 (n : Nat) : ∀ (x : Nat) (t : List Int), n ≤ 8 → t.length = 8 - n →
    Ev (fun k => impl_high.l0 k (x : Int) (List.replicate n 0 ++ t) ((n : Int) - 1)) (be n x ++ t) := by
  induction n with
  | zero =>
    intro x t _ _
    refine Ev.step (fun k => impl_high.l0.eq_2 ..) ?_
    exact ev_neg (by omega) (ev_ret rfl)
  | succ n ih =>
    intro x t hn ht
    refine Ev.step (fun k => impl_high.l0.eq_2 ..) ?_
    refine ev_pos (by omega) (ev_pos (by omega) (ev_pos (by rw [List.length_append, List.length_replicate, ht]; omega) ?_))
    have e1 : wrap64 (((n + 1 : Nat) : Int) - 1 - 1) = (n : Int) - 1 := by rw [wr (by omega) (by omega)]; omega
    have e2 : (((n + 1 : Nat) : Int) - 1).toNat = n := by omega
    have e3 : (x : Int) / 256 = ((x / 256 : Nat) : Int) := by omega
    have e4 : (x : Int) % 256 = ((x % 256 : Nat) : Int) := by omega
    rw [e1, e2, e3, e4]
    have e5 : (List.replicate (n + 1) (0 : Int) ++ t).set n ((x % 256 : Nat) : Int) = List.replicate n 0 ++ (((x % 256 : Nat) : Int) :: t) := by
      rw [List.replicate_succ', List.append_assoc, List.set_append_right _ _ (by rw [List.length_replicate]; exact Nat.le_refl _), List.length_replicate, Nat.sub_self]
      rfl
    rw [e5]
    have := ih (x / 256) (((x % 256 : Nat) : Int) :: t) (by omega) (by rw [List.length_cons, ht]; omega)
    simp only [be, List.append_assoc, List.singleton_append]
    exact this
theorem impl_eight {x : Int} (hx : x ≤ 9223372036854775807) : Ev (fun k => impl_Eight.f k x) (eightOf x) := by
  unfold impl_Eight.f eightOf
  by_cases h : x < 0
  · rw [if_pos h]
    exact ev_pos h (ev_ret rfl)
  · rw [if_neg h]
    refine ev_neg h (ev_bind (a := be 8 x.toNat) ?_ (ev_ret rfl))
    unfold impl_high.f
    refine ev_pos (by decide) (ev_pos (by decide) ?_)
    have := impl_high_l0 8 x.toNat [] (by decide) rfl
    rw [Int.toNat_of_nonneg (by omega)] at this
    simpa [wrap64] using this
/-- What Rounds answers. -/
def rounded (a b c n : Int) : Int × Int × Int × Bool :=
  if 0 ≤ n ∧ n ≤ 100 then (wrap64 (Dig.rnds n.toNat (IntKind.u64.wrap a, IntKind.u64.wrap b, IntKind.u64.wrap c)).1, wrap64 (Dig.rnds n.toNat (IntKind.u64.wrap a, IntKind.u64.wrap b, IntKind.u64.wrap c)).2.1, wrap64 (Dig.rnds n.toNat (IntKind.u64.wrap a, IntKind.u64.wrap b, IntKind.u64.wrap c)).2.2, true) else (a, b, c, false)
theorem impl_rounds (a b c n : Int) : impl_Rounds.f a b c n = some (rounded a b c n) := by
  unfold impl_Rounds.f rounded
  by_cases h : 0 ≤ n ∧ n ≤ 100
  · rw [if_pos h, if_pos h]
  · rw [if_neg h, if_neg h]
/-- The parts, each behind its length. -/
def partsL (o : List Int) : List (List Int) → List Int × Bool
  | [] => (o, true)
  | x :: l => if x.length > 60000 then ([], false) else partsL (o ++ [(x.length : Int) / 256 % 256, (x.length : Int) % 256] ++ x) l
def parts (l : List (List Int)) : List Int × Bool := if l.length > 60 then ([], false) else partsL [(l.length : Int) % 256] l
theorem partsL_le (l : List (List Int)) : ∀ o, (partsL o l).1.length ≤ o.length + l.length * 60002 := by
  induction l with
  | nil => intro o; simp [partsL]
  | cons x l ih =>
    intro o
    unfold partsL
    split
    · exact Nat.zero_le _
    · have := ih (o ++ [(x.length : Int) / 256 % 256, (x.length : Int) % 256] ++ x)
      simp only [List.length_append, List.length_cons, List.length_nil] at this ⊢
      omega
theorem parts_le (l : List (List Int)) : (parts l).1.length ≤ 1000000000000 := by
  unfold parts
  split
  · exact Nat.zero_le _
  · have := partsL_le l [(l.length : Int) % 256]
    simp only [List.length_singleton] at this
    omega
theorem spec_parts_l0 (l : List (List Int)) (hl : l.length ≤ 60) (n : Nat) : ∀ (i : Nat) (o : List Int), i + n = l.length → o.length ≤ 100 * (i + 1) * 60002 →
    Ev (fun k => spec_Parts.l0 k l o (i : Int)) (partsL o (l.drop i)) := by
  induction n with
  | zero =>
    intro i o hi ho
    rw [show l.drop i = [] from List.drop_eq_nil_of_le (by omega)]
    exact Ev.step (fun k => spec_Parts.l0.eq_2 ..) (ev_neg (by omega) (ev_ret rfl))
  | succ n ih =>
    intro i o hi ho
    rw [dropB (l := l) (by omega)]
    refine Ev.step (fun k => spec_Parts.l0.eq_2 ..) (ev_pos (by omega) (ev_pos (by omega) ?_))
    rw [rdB_nat]
    generalize l.getD i [] = x
    unfold partsL
    by_cases h : x.length > 60000
    · rw [if_pos h]
      exact ev_pos (by omega) (ev_ret rfl)
    · rw [if_neg h]
      refine ev_neg (by omega) (ev_some (ev_pos (by simp only [List.length_cons, List.length_nil]; omega) (ev_some (ev_pos (by simp only [List.length_append, List.length_cons, List.length_nil]; omega) ?_))))
      rw [wr_succ (by omega)]
      exact ih (i + 1) _ (by omega) (by simp only [List.length_append, List.length_cons, List.length_nil]; omega)
theorem impl_parts_l0 (l : List (List Int)) (hl : l.length ≤ 60) (n : Nat) : ∀ (i : Nat) (o : List Int), i + n = l.length → o.length ≤ 100 * (i + 1) * 60002 →
    Ev (fun k => impl_Parts.l0 k o l (l.length : Int) (i : Int)) (partsL o (l.drop i)) := by
  induction n with
  | zero =>
    intro i o hi ho
    rw [show l.drop i = [] from List.drop_eq_nil_of_le (by omega)]
    exact Ev.step (fun k => impl_Parts.l0.eq_2 ..) (ev_neg (by omega) (ev_ret rfl))
  | succ n ih =>
    intro i o hi ho
    rw [dropB (l := l) (by omega)]
    refine Ev.step (fun k => impl_Parts.l0.eq_2 ..) (ev_pos (by omega) (ev_pos (by omega) (ev_pos (by omega) ?_)))
    rw [rdB_nat]
    generalize l.getD i [] = x
    unfold partsL
    by_cases h : x.length > 60000
    · rw [if_pos h]
      exact ev_pos (by omega) (ev_ret rfl)
    · rw [if_neg h]
      refine ev_neg (by omega) (ev_some (ev_pos (by simp only [List.length_cons, List.length_nil]; omega) (ev_some (ev_pos (by simp only [List.length_append, List.length_cons, List.length_nil]; omega) ?_))))
      rw [wr_succ (by omega)]
      exact ih (i + 1) _ (by omega) (by simp only [List.length_append, List.length_cons, List.length_nil]; omega)
theorem spec_parts (l : List (List Int)) : Ev (fun k => spec_Parts.f k l) (parts l) := by
  unfold spec_Parts.f parts
  refine ev_some ?_
  by_cases h : l.length > 60
  · rw [if_pos h]
    exact ev_pos (by omega) (ev_ret rfl)
  · rw [if_neg h]
    exact ev_neg (by omega) (ev_pos (by simp only [List.length_nil]; omega) (spec_parts_l0 l (by omega) l.length 0 _ (by omega) (by simp)))
theorem impl_parts (l : List (List Int)) : Ev (fun k => impl_Parts.f k l) (parts l) := by
  unfold impl_Parts.f parts
  by_cases h : l.length > 60
  · rw [if_pos h]
    exact ev_pos (by omega) (ev_ret rfl)
  · rw [if_neg h]
    exact ev_neg (by omega) (impl_parts_l0 l (by omega) l.length 0 _ (by omega) (by simp))
/-- What two bytes say, the higher first. -/
def hd2 (r : List Int) : Nat := (r.getD 0 0 * 256 + r.getD 1 0).toNat
/-- So many parts, read off. -/
def unp : Nat → List Int → List (List Int) → List (List Int) × Bool
  | 0, r, o => if r.length = 0 then (o, true) else ([], false)
  | n + 1, r, o => if r.length < 2 then ([], false) else if hd2 r > 60000 then ([], false) else if hd2 r > r.length - 2 then ([], false) else unp n ((r.drop 2).drop (hd2 r)) (o ++ [(r.drop 2).take (hd2 r)])
def unparts (b : List Int) : List (List Int) × Bool := if b.length = 0 ∨ b.getD 0 0 > 60 then ([], false) else unp (b.getD 0 0).toNat (b.drop 1) []
theorem unp_le (n : Nat) : ∀ (r : List Int) (o : List (List Int)), tot (unp n r o).1 ≤ tot o + r.length + n := by
  induction n with
  | zero =>
    intro r o
    unfold unp
    split
    · show tot o ≤ _
      omega
    · exact Nat.zero_le _
  | succ n ih =>
    intro r o
    unfold unp
    split
    · exact Nat.zero_le _
    · split
      · exact Nat.zero_le _
      · split
        · exact Nat.zero_le _
        · have h := ih ((r.drop 2).drop (hd2 r)) (o ++ [(r.drop 2).take (hd2 r)])
          have e : tot (o ++ [(r.drop 2).take (hd2 r)]) = tot o + 1 + ((r.drop 2).take (hd2 r)).length := by
            unfold tot
            rw [tsum_append, List.length_append]
            simp only [tsum, List.length_singleton]
            omega
          rw [e] at h
          simp only [List.length_take, List.length_drop] at h
          omega
theorem unparts_le (b : List Int) (hb : b.length ≤ 1048576) : tot (unparts b).1 ≤ 1000000000000 := by
  unfold unparts
  split
  · exact Nat.zero_le _
  · rename_i h
    have := unp_le (b.getD 0 0).toNat (b.drop 1) []
    have e : tot ([] : List (List Int)) = 0 := rfl
    simp only [List.length_drop, e] at this
    omega
theorem byte_at {b : List Int} (h : ∀ z ∈ b, 0 ≤ z ∧ z < 256) (i : Nat) : 0 ≤ b.getD i 0 ∧ b.getD i 0 < 256 := by
  rw [List.getD_eq_getElem?_getD]
  by_cases hi : i < b.length
  · rw [List.getElem?_eq_getElem hi]
    exact h _ (List.getElem_mem hi)
  · rw [List.getElem?_eq_none (by omega)]
    decide
theorem or_hd {x y : Int} (hx : 0 ≤ x ∧ x < 256) (hy : 0 ≤ y ∧ y < 256) : Go.bits .or .i64 (wrap64 ((wrap64 x) * 256)) (wrap64 y) = ((x * 256 + y).toNat : Int) := by
  obtain ⟨a, rfl⟩ := Int.eq_ofNat_of_zero_le hx.1
  obtain ⟨c, rfl⟩ := Int.eq_ofNat_of_zero_le hy.1
  have e1 : wrap64 ((wrap64 (a : Int)) * 256) = ((2 ^ 8 * a : Nat) : Int) := by rw [wr (n := (a : Int)) (by omega) (by omega), wr (by omega) (by omega)]; omega
  rw [e1, wr (n := (c : Int)) (by omega) (by omega), or64 (by omega) (by omega), ← Nat.two_pow_add_eq_or_of_lt (by omega)]
  omega
theorem add_hd {x y : Int} (hx : 0 ≤ x ∧ x < 256) (hy : 0 ≤ y ∧ y < 256) : wrap64 (wrap64 (wrap64 x * 256) + wrap64 y) = ((x * 256 + y).toNat : Int) := by
  rw [wr (n := x) (by omega) (by omega), wr (n := y) (by omega) (by omega), wr (n := x * 256) (by omega) (by omega), wr (by omega) (by omega)]
  omega
theorem impl_un_l0 (c : Nat) (hc : c ≤ 60) (n : Nat) : ∀ (j : Nat) (r : List Int) (o : List (List Int)), j + n = c → o.length = j → r.length ≤ 1048576 → (∀ z ∈ r, 0 ≤ z ∧ z < 256) →
    Ev (fun k => impl_Unparts.l0 k o r (c : Int) (j : Int)) (unp n r o) := by
  induction n with
  | zero =>
    intro j r o hj ho hr hb
    refine Ev.step (fun k => impl_Unparts.l0.eq_2 ..) (ev_neg (by omega) ?_)
    unfold unp
    by_cases h : r.length = 0
    · rw [if_pos h]
      exact ev_neg (by omega) (ev_ret rfl)
    · rw [if_neg h]
      exact ev_pos (by omega) (ev_ret rfl)
  | succ n ih =>
    intro j r o hj ho hr hb
    refine Ev.step (fun k => impl_Unparts.l0.eq_2 ..) (ev_pos (by omega) ?_)
    unfold unp
    by_cases h : r.length < 2
    · rw [if_pos h]
      exact ev_pos (by omega) (ev_ret rfl)
    · rw [if_neg h]
      have hh : Go.bits .or .i64 (wrap64 ((wrap64 (rd r 0)) * 256)) (wrap64 (rd r 1)) = (hd2 r : Int) := or_hd (byte_at hb 0) (byte_at hb 1)
      refine ev_neg (by omega) (ev_pos (by omega) (ev_pos (by omega) (ev_pos (by omega) (ev_some ?_))))
      rw [hh]
      generalize hd2 r = d
      have hl : (r.drop 2).length = r.length - 2 := List.length_drop ..
      by_cases h1 : d > 60000
      · rw [if_pos h1]
        exact ev_pos (by omega) (ev_ret rfl)
      · rw [if_neg h1]
        refine ev_neg (by omega) ?_
        by_cases h2 : d > r.length - 2
        · rw [if_pos h2]
          exact ev_pos (by omega) (ev_ret rfl)
        · rw [if_neg h2]
          refine ev_neg (by omega) (ev_pos (by omega) (ev_pos (by omega) ?_))
          rw [Int.toNat_natCast]
          refine ev_pure (a := (r.drop 2).take d) ?_ (ev_pos (by omega) ?_)
          · unfold bytes_Clone.f
            rw [if_pos (by rw [List.length_take]; omega)]
          · rw [show ((j : Int) + 1) % 256 = ((j + 1 : Nat) : Int) by omega]
            exact ih (j + 1) _ _ (by omega) (by rw [List.length_append, List.length_singleton]; omega) (by rw [List.length_drop]; omega) (fun z hz => hb z (List.mem_of_mem_drop (List.mem_of_mem_drop hz)))
theorem impl_unparts (b : List Int) (hl : b.length ≤ 1048576) (hb : ∀ z ∈ b, 0 ≤ z ∧ z < 256) : Ev (fun k => impl_Unparts.f k b) (unparts b) := by
  unfold impl_Unparts.f unparts
  by_cases h : b.length = 0
  · rw [if_pos (.inl h)]
    exact ev_pos (by omega) (Ev.step (fun k => impl_Unparts.j0.eq_2 ..) (ev_pos rfl (ev_ret rfl)))
  · refine ev_neg (by omega) (ev_pos (by omega) ?_)
    have h0 := byte_at hb 0
    have e : rd b 0 = b.getD 0 0 := rfl
    rw [e, wr (by omega) (by omega)]
    by_cases h1 : b.getD 0 0 > 60
    · rw [if_pos (.inr h1)]
      exact Ev.step (fun k => impl_Unparts.j0.eq_2 ..) (ev_pos (decide_eq_true h1) (ev_ret rfl))
    · rw [if_neg (fun h2 => h2.elim h h1)]
      refine Ev.step (fun k => impl_Unparts.j0.eq_2 ..) (ev_neg (by simp only [decide_eq_true_eq]; exact h1) (ev_pos (by omega) (ev_pos (by omega) ?_)))
      rw [e]
      obtain ⟨c, hc⟩ := Int.eq_ofNat_of_zero_le h0.1
      rw [hc] at h1 ⊢
      rw [Int.toNat_natCast]
      exact impl_un_l0 c (by omega) c 0 _ _ (by omega) rfl (by rw [List.length_drop]; omega) (fun z hz => hb z (List.mem_of_mem_drop hz))
theorem and_bits_lt (x : Int) (j : Nat) (hj : j ≤ 62) (y : Int) (hy : y = ((2 ^ j - 1 : Nat) : Int)) : 0 ≤ Go.bits .and .i64 x y ∧ Go.bits .and .i64 x y < 2 ^ j := by
  subst hy
  have hp : 0 < 2 ^ j := Nat.two_pow_pos j
  have hle : (BitVec.ofInt 64 x &&& BitVec.ofInt 64 ((2 ^ j - 1 : Nat) : Int)).toNat ≤ 2 ^ j - 1 := by
    rw [BitVec.toNat_and, BitVec.ofInt_natCast, BitVec.toNat_ofNat]
    exact Nat.le_trans Nat.and_le_right (Nat.mod_le _ _)
  have h62 : 2 ^ j ≤ 2 ^ 62 := Nat.pow_le_pow_right (by decide) hj
  have e62 : (2 : Nat) ^ 62 = 4611686018427387904 := by decide
  have ec : (2 : Int) ^ j = ((2 ^ j : Nat) : Int) := by simp
  have h0 : (0 : Int) ≤ (((BitVec.ofInt 64 x &&& BitVec.ofInt 64 ((2 ^ j - 1 : Nat) : Int)).toNat : Nat) : Int) := Int.natCast_nonneg _
  have h1 : (((BitVec.ofInt 64 x &&& BitVec.ofInt 64 ((2 ^ j - 1 : Nat) : Int)).toNat : Nat) : Int) < 2 ^ 63 := by
    have : (2 : Int) ^ 63 = 9223372036854775808 := by decide
    omega
  have e : Go.bits .and .i64 x ((2 ^ j - 1 : Nat) : Int) = (((BitVec.ofInt 64 x &&& BitVec.ofInt 64 ((2 ^ j - 1 : Nat) : Int)).toNat : Nat) : Int) := wraps_i64 _ h0 h1
  rw [e, ec]
  omega
theorem and255 (x : Int) : 0 ≤ Go.bits .and .i64 x 255 ∧ Go.bits .and .i64 x 255 < 256 := by
  have := and_bits_lt x 8 (by decide) 255 (by decide)
  simpa using this
/-- Where a cursor stands: inside its bytes. -/
def Cur (b : List Int) (i : Int) : Prop := 0 ≤ i ∧ i ≤ b.length ∧ b.length ≤ 1048576
theorem d_new (l : List Int) (hl : l.length ≤ 1048576) : ∃ h, Ev (fun k => spec_l1New.f k l) (l, 0, h) := by
  have key : ∀ (n i : Nat) (h : Int), i + n = l.length → ∃ h', Ev (fun k => spec_l1New.l0 k l h (i : Int)) (l, 0, h') := by
    intro n
    induction n with
    | zero =>
      intro i h hi
      exact ⟨h, Ev.step (fun k => spec_l1New.l0.eq_2 ..) (ev_neg (by omega) (ev_ret rfl))⟩
    | succ n ih =>
      intro i h hi
      by_cases h4 : (i : Int) < 4000
      · obtain ⟨h', e⟩ := ih (i + 1) _ (by omega)
        refine ⟨h', Ev.step (fun k => spec_l1New.l0.eq_2 ..) (ev_pos (by omega) (ev_pos h4 (ev_pos (by omega) ?_)))⟩
        rw [wr_succ (by omega)]
        exact e
      · exact ⟨h, Ev.step (fun k => spec_l1New.l0.eq_2 ..) (ev_pos (by omega) (ev_neg h4 (ev_ret rfl)))⟩
  obtain ⟨h, e⟩ := key l.length 0 (wrap64 (88088 + (l.length : Int))) (Nat.zero_add _)
  exact ⟨h, e⟩
theorem d_cur {l : List Int} (hl : l.length ≤ 1048576) : Cur l 0 := ⟨Int.le_refl _, by omega, hl⟩
theorem d_byte {b : List Int} {i : Int} (h : Int) (hc : Cur b i) : ∃ v i' h', spec_l1Byte.f b i h = some (v, i', h') ∧ 0 ≤ v ∧ v < 256 ∧ Cur b i' := by
  obtain ⟨h0, h1, h2⟩ := hc
  unfold spec_l1Byte.f
  by_cases hi : i < (b.length : Int)
  · rw [if_pos hi, if_pos h0]
    exact ⟨_, _, _, rfl, (and255 _).1, (and255 _).2, by rw [wr (by omega) (by omega)]; omega, by rw [wr (by omega) (by omega)]; omega, h2⟩
  · rw [if_neg hi]
    exact ⟨_, _, _, rfl, (and255 _).1, (and255 _).2, h0, h1, h2⟩
theorem d_below {b : List Int} {i : Int} (h : Int) (hc : Cur b i) (n : Int) (hn : n ≤ 1000000) : ∃ v i' h', spec_l1Below.f b i h n = some (v, i', h') ∧ 0 ≤ v ∧ (v < n ∨ v = 0) ∧ Cur b i' := by
  unfold spec_l1Below.f
  by_cases h0 : n ≤ 0
  · rw [if_pos h0]
    exact ⟨_, _, _, rfl, Int.le_refl _, .inr rfl, hc⟩
  rw [if_neg h0]
  obtain ⟨v, i1, h1, e1, v0, v1, c1⟩ := d_byte h hc
  by_cases h256 : n ≤ 256
  · rw [if_pos h256, e1, Option.bind_some, if_neg (by omega)]
    refine ⟨_, _, _, rfl, ?_, .inl ?_, c1⟩
    · rw [Int.tmod_eq_emod_of_nonneg v0]; exact Int.emod_nonneg _ (by omega)
    · rw [Int.tmod_eq_emod_of_nonneg v0]; exact Int.emod_lt_of_pos _ (by omega)
  · rw [if_neg h256, e1, Option.bind_some]
    obtain ⟨x, i2, h2, e2, x0, x1, c2⟩ := d_byte h1 c1
    rw [e2, Option.bind_some]
    obtain ⟨y, i3, h3, e3, y0, y1, c3⟩ := d_byte h2 c2
    rw [e3, Option.bind_some]
    obtain ⟨z, i4, h4, e4, z0, z1, c4⟩ := d_byte h3 c3
    rw [e4, Option.bind_some, if_neg (by omega)]
    have ew : wrap64 ((wrap64 ((wrap64 ((wrap64 (v * 16777216)) + (wrap64 (x * 65536)))) + (wrap64 (y * 256)))) + z) = v * 16777216 + x * 65536 + y * 256 + z := by
      rw [wr (n := v * 16777216) (by omega) (by omega), wr (n := x * 65536) (by omega) (by omega), wr (n := v * 16777216 + x * 65536) (by omega) (by omega), wr (n := y * 256) (by omega) (by omega), wr (n := v * 16777216 + x * 65536 + y * 256) (by omega) (by omega), wr (by omega) (by omega)]
    refine ⟨_, _, _, rfl, ?_, .inl ?_, c4⟩
    · show 0 ≤ Int.tmod (wrap64 ((wrap64 ((wrap64 ((wrap64 (v * 16777216)) + (wrap64 (x * 65536)))) + (wrap64 (y * 256)))) + z)) n
      rw [ew, Int.tmod_eq_emod_of_nonneg (by omega)]
      exact Int.emod_nonneg _ (by omega)
    · show Int.tmod (wrap64 ((wrap64 ((wrap64 ((wrap64 (v * 16777216)) + (wrap64 (x * 65536)))) + (wrap64 (y * 256)))) + z)) n < n
      rw [ew, Int.tmod_eq_emod_of_nonneg (by omega)]
      exact Int.emod_lt_of_pos _ (by omega)
theorem d_once {b : List Int} {i : Int} (h : Int) (hc : Cur b i) (n : Int) (hn : n ≤ 1000000) : ∃ v i' h', spec_l1Once.f b i h n = some (v, i', h') ∧ Cur b i' := by
  obtain ⟨v, i', h', e, _, _, c⟩ := d_below h hc n hn
  unfold spec_l1Once.f
  rw [e, Option.bind_some]
  exact ⟨_, _, _, rfl, c⟩
theorem d_pick {b : List Int} {i : Int} (h : Int) (hc : Cur b i) (l : List Int) (h0 : 0 < l.length) (h1 : l.length ≤ 100) : ∃ v i' h', spec_l1PickInt.f b i h l = some (v, i', h') ∧ v ∈ l ∧ Cur b i' := by
  obtain ⟨v, i', h', e, v0, v1, c⟩ := d_below h hc (l.length : Int) (by omega)
  unfold spec_l1PickInt.f
  rw [e, Option.bind_some]
  have hv : v < (l.length : Int) := by omega
  rw [if_pos v0, if_pos hv]
  refine ⟨_, _, _, rfl, ?_, c⟩
  show rd l v ∈ l
  unfold rd
  rw [List.getD_eq_getElem?_getD, List.getElem?_eq_getElem (by omega)]
  exact List.getElem_mem _
theorem d_bits {b : List Int} {i : Int} (h : Int) (hc : Cur b i) : ∃ v i' h', spec_l1DrawBits.f b i h = some (v, i', h') ∧ (-1 ≤ v ∧ v ≤ 64) ∧ Cur b i' := by
  obtain ⟨o, i1, h1, e1, c1⟩ := d_once h hc 20 (by decide)
  unfold spec_l1DrawBits.f
  rw [e1, Option.bind_some]
  by_cases ho : o = true
  · obtain ⟨v, i2, h2, e2, hv, c2⟩ := d_pick h1 c1 [-1, 1, 61, 64] (by decide) (by decide)
    rw [if_pos ho, e2, Option.bind_some]
    refine ⟨v, i2, h2, rfl, ?_, c2⟩
    simp only [List.mem_cons, List.not_mem_nil, or_false] at hv
    rcases hv with rfl | rfl | rfl | rfl <;> decide
  · obtain ⟨v, i2, h2, e2, hv, c2⟩ := d_pick h1 c1 [2, 3, 4, 8, 16, 32, 60, 5] (by decide) (by decide)
    rw [if_neg ho, e2, Option.bind_some]
    refine ⟨v, i2, h2, rfl, ?_, c2⟩
    simp only [List.mem_cons, List.not_mem_nil, or_false] at hv
    rcases hv with rfl | rfl | rfl | rfl | rfl | rfl | rfl | rfl <;> decide
theorem d_data {b : List Int} {i : Int} (h : Int) (hc : Cur b i) (n : Nat) (hn : n ≤ 1000) : ∃ l i' h', Ev (fun k => spec_l1DrawData.f k b i h (n : Int)) (l, i', h') ∧ l.length ≤ n ∧ (∀ x ∈ l, 0 ≤ x ∧ x < 256) ∧ Cur b i' := by
  have key : ∀ (m : Nat) (o : List Int) (i h : Int), o.length + m ≤ 1000 → Cur b i → (∀ x ∈ o, 0 ≤ x ∧ x < 256) → ∃ l i' h', Ev (fun k => spec_l1DrawData.l0 k o (m : Int) b i h) (l, i', h') ∧ l.length = o.length + m ∧ (∀ x ∈ l, 0 ≤ x ∧ x < 256) ∧ Cur b i' := by
    intro m
    induction m with
    | zero =>
      intro o i h ho hc hb
      exact ⟨o, i, h, Ev.step (fun k => spec_l1DrawData.l0.eq_2 ..) (ev_neg (by omega) (ev_ret rfl)), rfl, hb, hc⟩
    | succ m ih =>
      intro o i h ho hc hb
      obtain ⟨v, i1, h1, e1, v0, v1, c1⟩ := d_byte h hc
      have ev : v % 256 = v := by omega
      obtain ⟨l, i2, h2, e2, hl, hx, c2⟩ := ih (o ++ [v]) i1 h1 (by simp only [List.length_append, List.length_singleton]; omega) c1 (by
        intro x hx
        rcases List.mem_append.1 hx with hx | hx
        · exact hb x hx
        · rw [List.mem_singleton.1 hx]; exact ⟨v0, v1⟩)
      refine ⟨l, i2, h2, Ev.step (fun k => spec_l1DrawData.l0.eq_2 ..) (ev_pos (by omega) (ev_pure e1 (ev_pos (by omega) ?_))), by rw [hl, List.length_append, List.length_singleton]; omega, hx, c2⟩
      have ew : wrap64 (((m + 1 : Nat) : Int) - 1) = (m : Int) := by rw [wr (by omega) (by omega)]; omega
      rw [ew]
      show Ev (fun k => spec_l1DrawData.l0 k (o ++ [v % 256]) (m : Int) b i1 h1) _
      rw [ev]
      exact e2
  obtain ⟨v, i1, h1, e1, v0, v1, c1⟩ := d_below h hc (n : Int) (by omega)
  obtain ⟨m, rfl⟩ := Int.eq_ofNat_of_zero_le v0
  obtain ⟨l, i2, h2, e2, hl, hx, c2⟩ := key m [] i1 h1 (by simp; omega) c1 (by simp)
  refine ⟨l, i2, h2, ?_, by rw [hl]; simp; omega, hx, c2⟩
  unfold spec_l1DrawData.f
  exact ev_pure e1 e2
theorem at_ok {m : List Nat} (hm : ∀ c ∈ m, c < 256) (hl : m.length ≤ 1048576) (i : Nat) (hi : i ≤ 1000000) : ∃ n : Nat, n < 256 ∧ laws_at.f (I m) (i : Int) = some (n : Int) := by
  unfold laws_at.f
  by_cases h : i < m.length
  · refine ⟨m.getD i 0, getD_lt hm (by decide) i, ?_⟩
    have := getD_lt hm (by decide) i
    rw [if_pos (by rw [I_length]; omega), if_pos (by omega), rd_I, wrn (by omega)]
  · refine ⟨(i * 7 + m.length) % 256, Nat.mod_lt _ (by decide), ?_⟩
    rw [if_neg (by rw [I_length]; omega), I_length, wr (n := (i : Int) * 7) (by omega) (by omega), wr (by omega) (by omega), Int.tmod_eq_emod_of_nonneg (by omega)]
    congr 1
theorem out_nat (bits : Nat) (h1 : bits ≤ 60) (s : Int × Int × Int) : Dig.out (bits : Int) s = (((BitVec.ofInt 64 (Go.bits .xor .u64 (Go.bits .xor .u64 s.1 s.2.1) s.2.2)).toNat % 2 ^ bits : Nat) : Int) := by
  have hp := Dig.two_pow_le bits h1
  have hp1 : 0 < 2 ^ bits := Nat.two_pow_pos _
  have e60 : (2 : Nat) ^ 60 = 1152921504606846976 := by decide
  have em : IntKind.u64.wrap (IntKind.u64.wrap (1 * 2 ^ min (bits : Int).toNat IntKind.u64.bits) - 1) = ((2 ^ bits - 1 : Nat) : Int) := by
    rw [Int.toNat_natCast, Nat.min_eq_left (show bits ≤ IntKind.u64.bits by show bits ≤ 64; omega)]
    have ec : (2 : Int) ^ bits = ((2 ^ bits : Nat) : Int) := by simp
    rw [ec, Dig.wrap_u64, Dig.wrap_u64]
    omega
  unfold Dig.out
  rw [em, Dig.and_u64]
  generalize Go.bits .xor .u64 (Go.bits .xor .u64 s.1 s.2.1) s.2.2 = x
  have e64 : (2 : Nat) ^ 64 = 18446744073709551616 := by decide
  have hlt : 2 ^ bits - 1 < 2 ^ 64 := by omega
  rw [BitVec.toNat_and, BitVec.ofInt_natCast, BitVec.toNat_ofNat, Nat.mod_eq_of_lt hlt, Nat.and_two_pow_sub_one_eq_mod]
  have hm := Nat.mod_lt (BitVec.ofInt 64 x).toNat hp1
  generalize (BitVec.ofInt 64 x).toNat % 2 ^ bits = y at hm
  exact wr (by omega) (by omega)
theorem out_mod (b : Nat) (h1 : b ≤ 60) (s : Int × Int × Int) : Dig.out (b : Int) s = Dig.out 60 s % ((2 ^ b : Nat) : Int) := by
  have e := out_nat b h1 s
  have e60 := out_nat 60 (by decide) s
  have c : ((60 : Nat) : Int) = 60 := rfl
  rw [c] at e60
  rw [e, e60]
  have hd : (2 : Nat) ^ b ∣ 2 ^ 60 := Nat.pow_dvd_pow 2 h1
  rw [← Int.natCast_emod, Nat.mod_mod_of_dvd _ hd]
/-- Lanes, each of 64 bits. -/
def U64 (s : Int × Int × Int) : Prop := (0 ≤ s.1 ∧ s.1 < 18446744073709551616) ∧ (0 ≤ s.2.1 ∧ s.2.1 < 18446744073709551616) ∧ 0 ≤ s.2.2 ∧ s.2.2 < 18446744073709551616
theorem wrap_range (x : Int) : 0 ≤ IntKind.u64.wrap x ∧ IntKind.u64.wrap x < 18446744073709551616 := by rw [Dig.wrap_u64]; omega
theorem xor_range (x y : Int) : 0 ≤ Go.bits .xor .u64 x y ∧ Go.bits .xor .u64 x y < 18446744073709551616 := by
  rw [Dig.xor_u64]
  have := (BitVec.ofInt 64 x ^^^ BitVec.ofInt 64 y).isLt
  have e : (2 : Nat) ^ 64 = 18446744073709551616 := by decide
  omega
theorem rnd_U (s : Int × Int × Int) : U64 (Dig.rnd s) := ⟨wrap_range _, xor_range _ _, wrap_range _⟩
theorem rnds_U (n : Nat) (s : Int × Int × Int) (h : U64 s) : U64 (Dig.rnds n s) := by
  cases n with
  | zero => exact h
  | succ n => rw [Dig.rnds_succ]; exact rnd_U _
theorem wrap_back {x : Int} (h : 0 ≤ x ∧ x < 18446744073709551616) : IntKind.u64.wrap (wrap64 x) = x := by rw [Dig.wrap_u64]; unfold wrap64; omega
theorem rounded_at (a b e : Int) (n : Nat) (h : n ≤ 100) : rounded a b e (n : Int) = (wrap64 (Dig.rnds n (IntKind.u64.wrap a, IntKind.u64.wrap b, IntKind.u64.wrap e)).1, wrap64 (Dig.rnds n (IntKind.u64.wrap a, IntKind.u64.wrap b, IntKind.u64.wrap e)).2.1, wrap64 (Dig.rnds n (IntKind.u64.wrap a, IntKind.u64.wrap b, IntKind.u64.wrap e)).2.2, true) := by
  unfold rounded
  rw [if_pos (by omega), Int.toNat_natCast]
theorem rounded_add (a b e : Int) (m n : Nat) (h : m + n ≤ 100) : ∃ u v t u' v' t', rounded a b e (m : Int) = (u, v, t, true) ∧ rounded u v t (n : Int) = (u', v', t', true) ∧ rounded a b e ((m + n : Nat) : Int) = (u', v', t', true) := by
  have h0 : U64 (IntKind.u64.wrap a, IntKind.u64.wrap b, IntKind.u64.wrap e) := ⟨wrap_range _, wrap_range _, wrap_range _⟩
  have h1 := rnds_U m _ h0
  have e1 := Dig.rnds_add m n (IntKind.u64.wrap a, IntKind.u64.wrap b, IntKind.u64.wrap e)
  refine ⟨_, _, _, _, _, _, rounded_at a b e m (by omega), ?_, rounded_at a b e (m + n) h⟩
  rw [rounded_at _ _ _ n (by omega), e1, wrap_back h1.1, wrap_back h1.2.1, wrap_back h1.2.2]
/-- Parts, each behind its length. -/
def enc : List (List Int) → List Int
  | [] => []
  | x :: l => (x.length : Int) / 256 % 256 :: (x.length : Int) % 256 :: (x ++ enc l)
theorem partsL_ok (l : List (List Int)) : (∀ x ∈ l, x.length ≤ 60000) → ∀ o, partsL o l = (o ++ enc l, true) := by
  induction l with
  | nil => intro _ o; simp [partsL, enc]
  | cons x l ih =>
    intro h o
    unfold partsL
    rw [if_neg (by have := h x List.mem_cons_self; omega), ih (fun y hy => h y (List.mem_cons_of_mem _ hy))]
    simp [enc]
theorem partsL_no (l : List (List Int)) : ¬ (∀ x ∈ l, x.length ≤ 60000) → ∀ o, partsL o l = ([], false) := by
  induction l with
  | nil => intro h; exact absurd (by simp) h
  | cons x l ih =>
    intro h o
    unfold partsL
    by_cases hx : x.length > 60000
    · rw [if_pos hx]
    · rw [if_neg hx]
      refine ih (fun h2 => h fun y hy => ?_) _
      rcases List.mem_cons.1 hy with rfl | hy
      · omega
      · exact h2 y hy
theorem parts_cases (l : List (List Int)) : (l.length ≤ 60 ∧ (∀ x ∈ l, x.length ≤ 60000) ∧ parts l = ((l.length : Int) :: enc l, true)) ∨ parts l = ([], false) := by
  unfold parts
  by_cases h : l.length > 60
  · rw [if_pos h]
    exact .inr rfl
  · rw [if_neg h]
    by_cases h2 : ∀ x ∈ l, x.length ≤ 60000
    · refine .inl ⟨by omega, h2, ?_⟩
      rw [partsL_ok l h2, show (l.length : Int) % 256 = (l.length : Int) by omega]
      rfl
    · exact .inr (partsL_no l h2 _)
theorem enc_length (l : List (List Int)) : (enc l).length = 2 * l.length + tsum l := by
  induction l with
  | nil => rfl
  | cons x l ih => simp only [enc, tsum, List.length_cons, List.length_append, ih]; omega
theorem unp_enc (l : List (List Int)) : (∀ x ∈ l, x.length ≤ 60000) → ∀ o, unp l.length (enc l) o = (o ++ l, true) := by
  induction l with
  | nil => intro _ o; simp [unp, enc]
  | cons x l ih =>
    intro h o
    have hx := h x List.mem_cons_self
    have e : hd2 (enc (x :: l)) = x.length := by
      unfold hd2 enc
      rw [List.getD_cons_zero, List.getD_cons_succ, List.getD_cons_zero]
      omega
    show unp (l.length + 1) (enc (x :: l)) o = _
    unfold unp
    rw [e]
    have hl : (enc (x :: l)).length = x.length + (enc l).length + 2 := by rw [enc_length, enc_length]; simp only [tsum, List.length_cons]; omega
    have hd : (enc (x :: l)).drop 2 = x ++ enc l := rfl
    rw [if_neg (by omega), if_neg (by omega), if_neg (by omega), hd, List.drop_left, List.take_left, ih (fun y hy => h y (List.mem_cons_of_mem _ hy))]
    simp
theorem enc_bytes (l : List (List Int)) : (∀ x ∈ l, ∀ z ∈ x, 0 ≤ z ∧ z < 256) → ∀ z ∈ enc l, 0 ≤ z ∧ z < 256 := by
  induction l with
  | nil => intro _ z hz; cases hz
  | cons x l ih =>
    intro h z hz
    simp only [enc, List.mem_cons, List.mem_append] at hz
    rcases hz with rfl | rfl | hz | hz
    · omega
    · omega
    · exact h x List.mem_cons_self z hz
    · exact ih (fun y hy => h y (List.mem_cons_of_mem _ hy)) z hz
theorem parts_back {l : List (List Int)} (h : (parts l).2 = true) : unparts (parts l).1 = (l, true) := by
  rcases parts_cases l with ⟨h1, h2, e⟩ | e
  · rw [e]
    show unparts ((l.length : Int) :: enc l) = _
    unfold unparts
    rw [List.getD_cons_zero, if_neg (by simp only [List.length_cons]; omega), Int.toNat_natCast]
    show unp l.length (enc l) [] = _
    rw [unp_enc l h2]
    rfl
  · rw [e] at h
    cases h
theorem parts_text {l : List (List Int)} (ht : tsum l ≤ 100000) (hb : ∀ x ∈ l, ∀ z ∈ x, 0 ≤ z ∧ z < 256) : (parts l).1.length ≤ 1048576 ∧ ∀ z ∈ (parts l).1, 0 ≤ z ∧ z < 256 := by
  rcases parts_cases l with ⟨h1, h2, e⟩ | e
  · rw [e]
    refine ⟨?_, fun z hz => ?_⟩
    · show ((l.length : Int) :: enc l).length ≤ _
      rw [List.length_cons, enc_length]
      omega
    · rcases List.mem_cons.1 hz with rfl | hz
      · omega
      · exact enc_bytes l hb z hz
  · rw [e]
    exact ⟨Nat.zero_le _, fun z hz => by cases hz⟩
theorem draw_digest (l : List Int) (hl : l.length ≤ 1048576) : ∃ bits data, Ev (fun k => spec_DrawDigest.f k l) (bits, data) := by
  obtain ⟨h0, e0⟩ := d_new l hl
  obtain ⟨d, i1, h1, e1, _, _, c1⟩ := d_data h0 (d_cur hl) 40 (by decide)
  obtain ⟨o, i2, h2, e2, c2⟩ := d_once h1 c1 60 (by decide)
  by_cases ho : o = true
  · obtain ⟨v, i3, h3, e3, v0, v1, c3⟩ := d_below h2 c2 2 (by decide)
    obtain ⟨x, i4, h4, e4, _, c4⟩ := d_bits h3 c3
    refine ⟨x, List.replicate (wrap64 (4000 + v) : Int).toNat 0, ?_⟩
    unfold spec_DrawDigest.f
    have ew : wrap64 (4000 + v) = 4000 + v := wr (by omega) (by omega)
    exact ev_bind e0 (ev_bind e1 (ev_pure e2 (ev_pos ho (ev_pure e3 (ev_pos (by rw [ew]; omega) (ev_pos (by rw [ew]; omega) (ev_pure e4 (ev_ret rfl))))))))
  · obtain ⟨x, i4, h4, e4, _, c4⟩ := d_bits h2 c2
    refine ⟨x, d, ?_⟩
    unfold spec_DrawDigest.f
    exact ev_bind e0 (ev_bind e1 (ev_pure e2 (ev_neg ho (ev_pure e4 (ev_ret rfl)))))
theorem draw_rounds (l : List Int) (hl : l.length ≤ 1048576) : ∃ a b c n, Ev (fun k => spec_DrawRounds.f k l) (a, b, c, n) := by
  obtain ⟨h0, e0⟩ := d_new l hl
  obtain ⟨x1, i1, h1, e1, _, _, c1⟩ := d_below h0 (d_cur hl) 1000 (by decide)
  obtain ⟨x2, i2, h2, e2, _, _, c2⟩ := d_below h1 c1 1000 (by decide)
  obtain ⟨x3, i3, h3, e3, _, _, c3⟩ := d_below h2 c2 1000 (by decide)
  obtain ⟨x4, i4, h4, e4, _, _, c4⟩ := d_below h3 c3 1000 (by decide)
  obtain ⟨x5, i5, h5, e5, _, _, c5⟩ := d_below h4 c4 60000 (by decide)
  obtain ⟨o, i6, h6, e6, c6⟩ := d_once h5 c5 4 (by decide)
  unfold spec_DrawRounds.f
  by_cases ho : o = true
  · obtain ⟨y, i7, h7, e7, _, c7⟩ := d_pick h6 c6 [-9223372036854775808, 9223372036854775807, -1] (by decide) (by decide)
    obtain ⟨z, i8, h8, e8, _, c8⟩ := d_pick h7 c7 [0, 1, 2, 6, 20, 100, 101, -1] (by decide) (by decide)
    exact ⟨_, _, _, _, ev_bind e0 (ev_pure e1 (ev_pure e2 (ev_pure e3 (ev_pure e4 (ev_pure e5 (ev_pure e6 (ev_pos ho (ev_pure e7 (ev_pure e8 (ev_ret rfl))))))))))⟩
  · obtain ⟨z, i8, h8, e8, _, c8⟩ := d_pick h6 c6 [0, 1, 2, 6, 20, 100, 101, -1] (by decide) (by decide)
    exact ⟨_, _, _, _, ev_bind e0 (ev_pure e1 (ev_pure e2 (ev_pure e3 (ev_pure e4 (ev_pure e5 (ev_pure e6 (ev_neg ho (ev_pure e8 (ev_ret rfl)))))))))⟩
theorem d_parts {b : List Int} {i : Int} (h : Int) (hc : Cur b i) : ∃ (l : List (List Int)) (i' h' : Int), Ev (fun k => spec_l1DrawParts.f k b i h 8) (l, i', h') ∧ l.length ≤ 8 ∧ tsum l ≤ 60 ∧ (∀ x ∈ l, ∀ z ∈ x, 0 ≤ z ∧ z < 256) ∧ Cur b i' := by
  have key : ∀ (m : Nat) (o : List (List Int)) (i h : Int), o.length + m ≤ 8 → tsum o ≤ 7 * o.length → Cur b i → (∀ x ∈ o, ∀ z ∈ x, 0 ≤ z ∧ z < 256) →
      ∃ (l : List (List Int)) (i' h' : Int), Ev (fun k => spec_l1DrawParts.l0 k o (m : Int) b i h) (l, i', h') ∧ l.length ≤ 8 ∧ tsum l ≤ 60 ∧ (∀ x ∈ l, ∀ z ∈ x, 0 ≤ z ∧ z < 256) ∧ Cur b i' := by
    intro m
    induction m with
    | zero =>
      intro o i h ho ht hc hb
      exact ⟨o, i, h, Ev.step (fun k => spec_l1DrawParts.l0.eq_2 ..) (ev_neg (by omega) (ev_ret rfl)), by omega, by omega, hb, hc⟩
    | succ m ih =>
      intro o i h ho ht hc hb
      obtain ⟨d, i1, h1, e1, hd, hx, c1⟩ := d_data h hc 7 (by decide)
      obtain ⟨l, i2, h2, e2, hl, hs, hy, c2⟩ := ih (o ++ [d]) i1 h1 (by simp only [List.length_append, List.length_singleton]; omega) (by rw [tsum_append]; simp only [tsum, List.length_append, List.length_singleton]; omega) c1 (by
        intro x hx'
        rcases List.mem_append.1 hx' with hx' | hx'
        · exact hb x hx'
        · rw [List.mem_singleton.1 hx']; exact hx)
      refine ⟨l, i2, h2, Ev.step (fun k => spec_l1DrawParts.l0.eq_2 ..) (ev_pos (by omega) (ev_bind e1 (ev_pos (by omega) ?_))), hl, hs, hy, c2⟩
      have ew : wrap64 (((m + 1 : Nat) : Int) - 1) = (m : Int) := by rw [wr (by omega) (by omega)]; omega
      rw [ew]
      exact e2
  obtain ⟨v, i1, h1, e1, v0, v1, c1⟩ := d_below h hc 8 (by decide)
  obtain ⟨m, rfl⟩ := Int.eq_ofNat_of_zero_le v0
  obtain ⟨l, i2, h2, e2, hl, hs, hy, c2⟩ := key m [] i1 h1 (by simp; omega) (by simp [tsum]) c1 (by simp)
  refine ⟨l, i2, h2, ?_, hl, hs, hy, c2⟩
  unfold spec_l1DrawParts.f
  exact ev_pure e1 e2
theorem rep_bytes (n : Nat) : ∀ z ∈ List.replicate n (0 : Int), 0 ≤ z ∧ z < 256 := fun z hz => by rw [List.eq_of_mem_replicate hz]; decide
theorem tsum_rep (n : Nat) : tsum (List.replicate n []) = 0 := by
  induction n with
  | zero => rfl
  | succ n ih => simp only [List.replicate_succ, tsum, ih, List.length_nil]
theorem draw_parts (l : List Int) (hl : l.length ≤ 1048576) : ∃ L, Ev (fun k => spec_DrawParts.f k l) L ∧ tsum L ≤ 100000 ∧ ∀ x ∈ L, ∀ z ∈ x, 0 ≤ z ∧ z < 256 := by
  obtain ⟨h0, e0⟩ := d_new l hl
  obtain ⟨L, i1, h1, e1, hL, hs, hb, c1⟩ := d_parts h0 (d_cur hl)
  obtain ⟨v, i2, h2, e2, v0, v1, c2⟩ := d_below h1 c1 40 (by decide)
  have more : ∀ n : Nat, n ≤ 60001 → tsum (L ++ [List.replicate n 0]) ≤ 100000 ∧ ∀ x ∈ L ++ [List.replicate n (0 : Int)], ∀ z ∈ x, 0 ≤ z ∧ z < 256 := by
    intro n hn
    refine ⟨by rw [tsum_append]; simp only [tsum, List.length_replicate]; omega, fun x hx => ?_⟩
    rcases List.mem_append.1 hx with hx | hx
    · exact hb x hx
    · rw [List.mem_singleton.1 hx]
      exact rep_bytes n
  unfold spec_DrawParts.f
  by_cases a0 : v = 0
  · obtain ⟨y, i3, h3, e3, y0, y1, c3⟩ := d_below h2 c2 2 (by decide)
    have ew : wrap64 (60 + y) = 60 + y := wr (by omega) (by omega)
    refine ⟨List.replicate (wrap64 (60 + y) : Int).toNat [], ev_bind e0 (ev_bind e1 (ev_pure e2 (ev_pos a0 (ev_pure e3 (ev_pos (by rw [ew]; omega) (ev_pos (by rw [ew]; omega) (ev_ret rfl))))))), by rw [tsum_rep]; omega, fun x hx z hz => ?_⟩
    rw [List.eq_of_mem_replicate hx] at hz
    cases hz
  · by_cases a1 : v = 1
    · obtain ⟨y, i3, h3, e3, y0, y1, c3⟩ := d_below h2 c2 2 (by decide)
      have ew : wrap64 (60000 + y) = 60000 + y := wr (by omega) (by omega)
      obtain ⟨m1, m2⟩ := more (wrap64 (60000 + y) : Int).toNat (by rw [ew]; omega)
      exact ⟨_, ev_bind e0 (ev_bind e1 (ev_pure e2 (ev_neg a0 (ev_pos a1 (ev_pure e3 (ev_pos (by rw [ew]; omega) (ev_pos (by rw [ew]; omega) (ev_pos (by show L.length < _; omega) (ev_ret rfl))))))))), m1, m2⟩
    · by_cases a2 : v = 2
      · obtain ⟨y, i3, h3, e3, y0, y1, c3⟩ := d_below h2 c2 3 (by decide)
        have ew : wrap64 (255 + y) = 255 + y := wr (by omega) (by omega)
        obtain ⟨m1, m2⟩ := more (wrap64 (255 + y) : Int).toNat (by rw [ew]; omega)
        exact ⟨_, ev_bind e0 (ev_bind e1 (ev_pure e2 (ev_neg a0 (ev_neg a1 (ev_pos a2 (ev_pure e3 (ev_pos (by rw [ew]; omega) (ev_pos (by rw [ew]; omega) (ev_pos (by show L.length < _; omega) (ev_ret rfl)))))))))), m1, m2⟩
      · exact ⟨L, ev_bind e0 (ev_bind e1 (ev_pure e2 (ev_neg a0 (ev_neg a1 (ev_neg a2 (ev_ret rfl)))))), by omega, hb⟩
theorem lists_self (l : List (List Int)) : laws_sameLists.f l l = some true := by
  unfold laws_sameLists.f
  have e : (l.zip l).all likeB = true := by
    rw [List.all_eq_true]
    intro p hp
    have : p.1 = p.2 := by
      obtain ⟨i, hi, e⟩ := List.getElem_of_mem hp
      rw [← e, List.getElem_zip]
    unfold likeB
    rw [this]
    simp
  rw [e, decide_eq_true rfl]
  rfl
theorem digests_end (data : List Int) (d : Int) (hd : 0 ≤ d) (u v t : Int) : Ev (fun k => laws_FnDigests.j1 k data d true true true false u v t u v t) true := by
  refine Ev.step (fun k => laws_FnDigests.j1.eq_2 ..) ?_
  have e1 : impl_Digest.f 1 data = some (-1) := by
    rw [impl_digest]
    rfl
  have e8 : (eightOf 7).length = 8 := by
    unfold eightOf
    rw [if_neg (by decide), be_length]
  refine ev_neg (by simp) (ev_pos rfl (ev_pos rfl (ev_pos rfl (ev_pos (by simp) (ev_pos hd (ev_pure e1 (ev_pos rfl (ev_bind (impl_eight (x := 7) (by decide)) (ev_ret ?_)))))))))
  rw [e8]
  rfl
theorem tm30 (p : Nat) : Int.tmod (p : Int) 30 = ((p % 30 : Nat) : Int) := by rw [Int.tmod_eq_emod_of_nonneg (by omega)]; omega
theorem digests_tail (c data : List Int) (d : Int) (x1 : 0 ≤ d) (a b e z : Int) (hR : Ev (fun k => spec_DrawRounds.f k c) (a, b, e, z)) (p q : Nat) (hp : laws_at.f c 1 = some (p : Int)) (hq : laws_at.f c 2 = some (q : Int))
    (L : List (List Int)) (hL : Ev (fun k => spec_DrawParts.f k c) L) (ht : tsum L ≤ 100000) (hb : ∀ x ∈ L, ∀ z ∈ x, 0 ≤ z ∧ z < 256) : Ev (fun k => laws_FnDigests.l0 k c data d 61) true := by
  have epq : wrap64 (((p % 30 : Nat) : Int) + ((q % 30 : Nat) : Int)) = ((p % 30 + q % 30 : Nat) : Int) := by rw [wr (by omega) (by omega)]; omega
  obtain ⟨u, v, t, u', v', t', r1, r2, r3⟩ := rounded_add a b e (p % 30) (q % 30) (by omega)
  obtain ⟨pt1, pt2⟩ := parts_text ht hb
  have hU := impl_unparts _ pt1 pt2
  clear pt1 pt2
  have s1 : impl_Rounds.f a b e (Int.tmod (p : Int) 30) = some (u, v, t, true) := by rw [tm30, impl_rounds, r1]
  have s2 : impl_Rounds.f u v t (Int.tmod (q : Int) 30) = some (u', v', t', true) := by rw [tm30, impl_rounds, r2]
  have s3 : impl_Rounds.f a b e (wrap64 (Int.tmod (p : Int) 30 + Int.tmod (q : Int) 30)) = some (u', v', t', true) := by rw [tm30, tm30, epq, impl_rounds, r3]
  clear r1 r2 r3 epq
  refine Ev.step (fun k => laws_FnDigests.l0.eq_2 ..) ?_
  refine ev_neg (by decide) ?_
  refine ev_bind hR ?_
  refine ev_pure hp ?_
  refine ev_pure s1 ?_
  refine ev_pure hq ?_
  refine ev_pure s2 ?_
  refine ev_pure hp ?_
  refine ev_pure hq ?_
  refine ev_pure s3 ?_
  refine ev_bind hL ?_
  refine ev_bind (impl_parts L) ?_
  refine ev_bind hU ?_
  refine ev_bind (spec_parts L) ?_
  refine ev_neg (by simp) ?_
  have hE := digests_end data d x1 u' v' t'
  by_cases ok : (parts L).2 = true
  · refine ev_pos ok ?_
    rw [parts_back ok]
    refine ev_pos rfl ?_
    exact ev_pure (lists_self L) hE
  · exact ev_neg ok hE
theorem digests_loop (c data : List Int) (hd : data.length ≤ 4000) (T : Ev (fun k => laws_FnDigests.l0 k c data (Dig.digest 60 data) 61) true) (n : Nat) : ∀ i : Nat, i + n = 61 → 2 ≤ i →
    Ev (fun k => laws_FnDigests.l0 k c data (Dig.digest 60 data) (i : Int)) true := by
  have h60 := (Dig.digest_range (bits := 60) (by decide) (by decide) hd).1
  induction n with
  | zero =>
    intro i hi _
    have e : i = 61 := hi
    subst e
    exact T
  | succ n ih =>
    intro i hi h2
    have e2 : shl .i64 1 (i : Int) = ((2 ^ i : Nat) : Int) := by
      clear h60 ih T
      unfold shl
      rw [Int.toNat_natCast, Nat.min_eq_left (show i ≤ IntKind.i64.bits by show i ≤ 64; omega), IntKind.wrap_i64]
      have := Dig.two_pow_le i (by omega)
      have e60 : (2 : Nat) ^ 60 = 1152921504606846976 := by decide
      have ec : (2 : Int) ^ i = ((2 ^ i : Nat) : Int) := by simp
      have hp0 := Nat.two_pow_pos i
      rw [ec]
      generalize 2 ^ i = y at *
      omega
    have hi60 : i ≤ 60 := by clear h60 T ih e2; omega
    have ed : Dig.digest (i : Int) data = Int.tmod (Dig.digest 60 data) ((2 ^ i : Nat) : Int) := by
      rw [Int.tmod_eq_emod_of_nonneg h60]
      clear h60 T ih e2
      unfold Dig.digest
      rw [if_pos (by omega), if_pos hd, if_pos (by decide), if_pos hd]
      exact out_mod i hi60 _
    have h3 := ih (i + 1) (by clear h60 T e2 ed ih; omega) (by clear h60 T e2 ed ih; omega)
    have hpos : 0 < 2 ^ i := Nat.two_pow_pos i
    have hne : ¬ ((2 ^ i : Nat) : Int) = 0 := by clear h60 T e2 ed ih h3; omega
    clear T ih h60
    have hd1 := impl_digest (i : Int) data
    generalize Dig.digest 60 data = d at ed h3 ⊢
    generalize Dig.digest (i : Int) data = di at ed hd1
    refine Ev.step (fun k => laws_FnDigests.l0.eq_2 ..) ?_
    rw [e2, wr_succ (by clear ed e2 hd1 h3; omega)]
    refine ev_pos (by clear ed e2 hd1 h3; omega) ?_
    refine ev_pure hd1 ?_
    refine ev_pos (by clear ed e2 hd1 h3; omega) ?_
    refine ev_neg hne ?_
    exact ev_pos ed h3
theorem FnDigests : laws_FnDigests.Pure := by
  intro l _ _ hb
  refine Ev.rounds ?_
  unfold laws_FnDigests.f
  refine ev_pure (a := decide ((l.length : Int) > 1048576)) rfl ?_
  by_cases h : (l.length : Int) > 1048576
  · exact ev_pos (by simp [h]) (ev_ret rfl)
  refine ev_neg (by simp only [decide_eq_true_eq]; exact h) ?_
  have hl : l.length ≤ 1048576 := by omega
  obtain ⟨bits, data, ed⟩ := draw_digest l hl
  obtain ⟨a, b, e, z, er⟩ := draw_rounds l hl
  obtain ⟨L, eL, ht, hB⟩ := draw_parts l hl
  obtain ⟨m, hm, hm2⟩ := bytes_of hb
  obtain ⟨p, _, hp⟩ := at_ok hm2 (by rw [hm, I_length] at hl; exact hl) 1 (by decide)
  obtain ⟨q, _, hq⟩ := at_ok hm2 (by rw [hm, I_length] at hl; exact hl) 2 (by decide)
  rw [← hm] at hp hq
  refine ev_bind ed ?_
  by_cases h4 : data.length ≤ 4000
  · exact ev_neg (by show ¬ (data.length : Int) > 4000; omega) (ev_pure (impl_digest 60 data) (digests_loop l data h4 (digests_tail l data _ (Dig.digest_range (bits := 60) (by decide) (by decide) h4).1 a b e z er p q hp hq L eL ht hB) 59 2 (by decide) (by decide)))
  · refine ev_pos (by show (data.length : Int) > 4000; omega) (ev_pure (impl_digest 8 data) (ev_ret ?_))
    unfold Dig.digest
    rw [if_pos (by decide), if_neg h4]
    rfl

end Go.Proofs.Ytmcpnganobehaaa.Pure
