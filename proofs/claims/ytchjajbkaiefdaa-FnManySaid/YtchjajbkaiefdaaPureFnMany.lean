/- Several of drawn leaves are proven at once by their path, and one by its own; other leaves that are proven by it tell two texts with one digest: for every text of bytes. -/
import Derived.Test.YtchjajbkaiefdaaPFnManyx18
import Derived.Test.YtchjajbkaiefdaaKit
import Derived.Test.YtchjajbkaiefdaaDig
namespace Go.Proofs.Ytchjajbkaiefdaa.Pure
open Go.RowKit Go.Proofs.Ytchjajbkaiefdaa Go.Proofs.Ytchjajbkaiefdaa.PFnMany Go.Proofs.YtchjajbkaiefdaaW.PrintWords Go.Proofs.YtchjajbkaiefdaaW.PrintLast Go.Proofs.YtchjajbkaiefdaaW.PrintMore Go.Proofs.Ytchjajbkaiefdaa.K
set_option linter.unusedVariables false

/-- What is left of a behind a taking of t; -1: t was too much. -/
def left (a : Int) (t : Nat) : Int := if a - (t : Int) < 0 then -1 else a - (t : Int)
theorem rdB_nat (l : List (List Int)) (i : Nat) : rd_L1 l (i : Int) = l.getD i [] := by unfold rd_L1; rw [Int.toNat_natCast]
theorem getD_mem {l : List (List Int)} {i : Nat} (h : i < l.length) : l.getD i [] ∈ l := by
  rw [List.getD_eq_getElem?_getD, List.getElem?_eq_getElem h]
  exact List.getElem_mem h
theorem digest_a (a0 : Int) (l : List Int) (h1 : 2 ≤ a0 ∧ a0 ≤ 60) (h2 : l.length ≤ 4000) : impl_Squeeze.f a0 l 1 = some ([Dig.out a0 (Dig.rnds 6 (Dig.taken l))], true) := by
  unfold impl_Squeeze.f
  rw [if_pos h1, if_pos h2, if_pos (by decide)]
  generalize Dig.rnds 6 (Dig.taken l) = s
  simp only [Int.toNat_one, Dig.squeeze]
theorem digest_b (a0 : Int) (l : List Int) (h : ¬ ((2 ≤ a0 ∧ a0 ≤ 60) ∧ l.length ≤ 4000)) : impl_Squeeze.f a0 l 1 = some ([], false) := by
  unfold impl_Squeeze.f
  by_cases h1 : 2 ≤ a0 ∧ a0 ≤ 60
  · rw [if_pos h1, if_neg (fun h2 => h ⟨h1, h2⟩)]
  · rw [if_neg h1]
theorem digest_fin (x : Int) : ((some ([x], true) : Option (List Int × Bool)).bind fun bt => (if bt.2 = true then (if 0 < (bt.1.length : Int) then (some (rd bt.1 0)) else (none)) else (some (-1)))) = some x := by
  rw [Option.bind_some, if_pos rfl, if_pos (by simp)]
  rfl
theorem digest_non : ((some ([], false) : Option (List Int × Bool)).bind fun bt => (if bt.2 = true then (if 0 < (bt.1.length : Int) then (some (rd bt.1 0)) else (none)) else (some (-1)))) = some (-1) := by
  rw [Option.bind_some, if_neg (by simp)]
theorem impl_digest (a0 : Int) (l : List Int) : impl_Digest.f a0 l = some (Dig.digest a0 l) := by
  unfold impl_Digest.f
  by_cases h1 : 2 ≤ a0 ∧ a0 ≤ 60
  · by_cases h2 : l.length ≤ 4000
    · have e : Dig.digest a0 l = Dig.out a0 (Dig.rnds 6 (Dig.taken l)) := by
        unfold Dig.digest
        rw [if_pos h1, if_pos h2]
      rw [digest_a a0 l h1 h2, e]
      exact digest_fin _
    · have e : Dig.digest a0 l = -1 := by
        unfold Dig.digest
        rw [if_pos h1, if_neg h2]
      rw [digest_b a0 l (fun h => h2 h.2), e]
      exact digest_non
  · have e : Dig.digest a0 l = -1 := by
      unfold Dig.digest
      rw [if_neg h1]
    rw [digest_b a0 l (fun h => h1 h.1), e]
    exact digest_non

theorem spec_turn13 (x : Int) : spec_l1Turn.f x 13 = some (Dig.r13 x) := by
  have e : wrap64 (64 - 13) = 51 := by unfold wrap64; decide
  unfold spec_l1Turn.f
  rw [e, if_pos (by decide), if_pos (by decide)]
  have e1 : shl .u64 x 13 = IntKind.u64.wrap (x * 8192) := by
    unfold shl
    rw [show (2 : Int) ^ min (13 : Int).toNat IntKind.u64.bits = 8192 by decide]
  have e2 : shr .u64 x 51 = x / 2251799813685248 := by
    unfold shr
    rw [show (2 : Int) ^ min (51 : Int).toNat IntKind.u64.bits = 2251799813685248 by decide]
  rw [e1, e2]
  rfl
theorem spec_turn29 (x : Int) : spec_l1Turn.f x 29 = some (Dig.r29 x) := by
  have e : wrap64 (64 - 29) = 35 := by unfold wrap64; decide
  unfold spec_l1Turn.f
  rw [e, if_pos (by decide), if_pos (by decide)]
  have e1 : shl .u64 x 29 = IntKind.u64.wrap (x * 536870912) := by
    unfold shl
    rw [show (2 : Int) ^ min (29 : Int).toNat IntKind.u64.bits = 536870912 by decide]
  have e2 : shr .u64 x 35 = x / 34359738368 := by
    unfold shr
    rw [show (2 : Int) ^ min (35 : Int).toNat IntKind.u64.bits = 34359738368 by decide]
  rw [e1, e2]
  rfl
theorem spec_turn41 (x : Int) : spec_l1Turn.f x 41 = some (Dig.r41 x) := by
  have e : wrap64 (64 - 41) = 23 := by unfold wrap64; decide
  unfold spec_l1Turn.f
  rw [e, if_pos (by decide), if_pos (by decide)]
  have e1 : shl .u64 x 41 = IntKind.u64.wrap (x * 2199023255552) := by
    unfold shl
    rw [show (2 : Int) ^ min (41 : Int).toNat IntKind.u64.bits = 2199023255552 by decide]
  have e2 : shr .u64 x 23 = x / 8388608 := by
    unfold shr
    rw [show (2 : Int) ^ min (23 : Int).toNat IntKind.u64.bits = 8388608 by decide]
  rw [e1, e2]
  rfl
theorem spec_round (a b c : Int) : spec_l1Round.f a b c = some (Dig.rnd (a, b, c)) := by
  unfold spec_l1Round.f
  simp only [spec_turn13, spec_turn29, spec_turn41, Option.bind_some, Dig.rnd0_left, Dig.rnd1_left, Dig.rnd2_left]
  rfl
theorem spec_out_l0 (bits : Int) (hb : 0 ≤ bits) (m : Nat) (hm : m ≤ 1000) (n : Nat) : ∀ (i : Nat) (a b c : Int), i + n = m →
    Ev (fun k => spec_l1Out.l0 k bits (m : Int) (i : Int) a b c) (Dig.out bits (Dig.rnds n (a, b, c))) := by
  induction n with
  | zero =>
    intro i a b c hi
    refine Ev.step (fun k => spec_l1Out.l0.eq_2 ..) ?_
    exact ev_neg (by omega) (ev_pos hb (ev_ret rfl))
  | succ n ih =>
    intro i a b c hi
    refine Ev.step (fun k => spec_l1Out.l0.eq_2 ..) ?_
    refine ev_pos (by omega) (ev_pure (spec_round a b c) ?_)
    rw [wr_succ (by omega)]
    exact ih (i + 1) _ _ _ (by omega)
theorem spec_out {bits : Int} (hb : 0 ≤ bits) (a b c : Int) (m : Nat) (hm : m ≤ 1000) : Ev (fun k => spec_l1Out.f k bits a b c (m : Int)) (Dig.out bits (Dig.rnds m (a, b, c))) := by
  unfold spec_l1Out.f
  exact spec_out_l0 bits hb m hm m 0 a b c (Nat.zero_add _)
theorem spec_digest_l0 {bits : Int} (hb : 0 ≤ bits) (l : List Int) (hl : l.length ≤ 4000) (n : Nat) : ∀ (i : Nat) (a b c : Int), i + n = l.length → Dig.takes (l.take i) (1, 2, 3) = (a, b, c) →
    Ev (fun k => spec_Digest.l0 k bits l (i : Int) a b c) (Dig.out bits (Dig.rnds 6 (Dig.taken l))) := by
  induction n with
  | zero =>
    intro i a b c hi hs
    refine Ev.step (fun k => spec_Digest.l0.eq_2 ..) ?_
    rw [List.take_of_length_le (by omega)] at hs
    refine ev_neg (by omega) ?_
    have e : Dig.taken l = (Go.bits .xor .u64 a (IntKind.u64.wrap (l.length : Int)), b, c) := by
      unfold Dig.taken
      rw [hs]
      rfl
    refine ev_bind (a := Dig.out bits (Dig.rnds 6 (Dig.taken l))) ?_ (ev_ret rfl)
    rw [e]
    exact spec_out hb _ _ _ 6 (by decide)
  | succ n ih =>
    intro i a b c hi hs
    refine Ev.step (fun k => spec_Digest.l0.eq_2 ..) ?_
    refine ev_pos (by omega) (ev_pos (by omega) (ev_pure (spec_round _ _ _) (ev_pure (spec_round _ _ _) ?_)))
    rw [wr_succ (by omega)]
    refine ih (i + 1) _ _ _ (by omega) ?_
    have et : l.take (i + 1) = l.take i ++ [rd l (i : Int)] := by
      rw [rd_nat, take_getD l 0 i (by omega)]
    rw [et, Dig.takes_snoc, hs]
    rfl
theorem spec_digest (a0 : Int) (l : List Int) : Ev (fun k => spec_Digest.f k a0 l) (Dig.digest a0 l) := by
  unfold spec_Digest.f Dig.digest
  refine ev_pure (a := decide (2 ≤ a0 ∧ a0 ≤ 60)) (by unfold spec_l1In.f; by_cases h : a0 ≥ 2 <;> simp [h]) ?_
  by_cases h1 : 2 ≤ a0 ∧ a0 ≤ 60
  · rw [if_pos h1]
    refine ev_pos (by simp [h1]) ?_
    refine Ev.step (fun k => spec_Digest.j0.eq_2 ..) ?_
    by_cases h2 : l.length ≤ 4000
    · rw [if_pos h2]
      refine ev_neg (by simp; omega) ?_
      exact spec_digest_l0 (by omega) l h2 l.length 0 1 2 3 (Nat.zero_add _) rfl
    · rw [if_neg h2]
      exact ev_pos (by simp; omega) (ev_ret rfl)
  · rw [if_neg h1]
    refine ev_neg (by simp; omega) ?_
    refine Ev.step (fun k => spec_Digest.j0.eq_2 ..) ?_
    exact ev_pos rfl (ev_ret rfl)
/-- The last n bytes of a number, the highest first. -/
def be : Nat → Nat → List Int
  | 0, _ => []
  | n + 1, x => be n (x / 256) ++ [((x % 256 : Nat) : Int)]
theorem be_length (n : Nat) : ∀ x, (be n x).length = n := by
  induction n with
  | zero => intro x; rfl
  | succ n ih => intro x; simp [be, ih]
/-- The eight bytes of a number, nothing below 0. -/
def eightOf (x : Int) : List Int := if x < 0 then [] else be 8 x.toNat
theorem impl_high_l0 (n : Nat) : ∀ (x : Nat) (t : List Int), n ≤ 8 → t.length = 8 - n →
    Ev (fun k => impl_high.l0 k (x : Int) (List.replicate n 0 ++ t) ((n : Int) - 1)) (be n x ++ t) := by
  induction n with
  | zero =>
    intro x t _ _
    refine Ev.step (fun k => impl_high.l0.eq_2 ..) ?_
    exact ev_neg (by omega) (ev_ret rfl)
  | succ n ih =>
    intro x t hn ht
    refine Ev.step (fun k => impl_high.l0.eq_2 ..) ?_
    refine ev_pos (by omega) (ev_pos (by omega) (ev_pos (by rw [List.length_append, List.length_replicate, ht]; omega) ?_))
    have e1 : wrap64 (((n + 1 : Nat) : Int) - 1 - 1) = (n : Int) - 1 := by rw [wr (by omega) (by omega)]; omega
    have e2 : (((n + 1 : Nat) : Int) - 1).toNat = n := by omega
    have e3 : (x : Int) / 256 = ((x / 256 : Nat) : Int) := by omega
    have e4 : (x : Int) % 256 = ((x % 256 : Nat) : Int) := by omega
    rw [e1, e2, e3, e4]
    have e5 : (List.replicate (n + 1) (0 : Int) ++ t).set n ((x % 256 : Nat) : Int) = List.replicate n 0 ++ (((x % 256 : Nat) : Int) :: t) := by
      rw [List.replicate_succ', List.append_assoc, List.set_append_right _ _ (by rw [List.length_replicate]; exact Nat.le_refl _), List.length_replicate, Nat.sub_self]
      rfl
    rw [e5]
    have := ih (x / 256) (((x % 256 : Nat) : Int) :: t) (by omega) (by rw [List.length_cons, ht]; omega)
    simp only [be, List.append_assoc, List.singleton_append]
    exact this
theorem impl_eight {x : Int} (hx : x ≤ 9223372036854775807) : Ev (fun k => impl_Eight.f k x) (eightOf x) := by
  unfold impl_Eight.f eightOf
  by_cases h : x < 0
  · rw [if_pos h]
    exact ev_pos h (ev_ret rfl)
  · rw [if_neg h]
    refine ev_neg h (ev_bind (a := be 8 x.toNat) ?_ (ev_ret rfl))
    unfold impl_high.f
    refine ev_pos (by decide) (ev_pos (by decide) ?_)
    have := impl_high_l0 8 x.toNat [] (by decide) rfl
    rw [Int.toNat_of_nonneg (by omega)] at this
    simpa [wrap64] using this
theorem spec_eight_l0 (x : Nat) (hx : x ≤ 9223372036854775807) (n : Nat) : ∀ (i : Nat), i + n = 8 →
    Ev (fun k => spec_Eight.l0 k (x : Int) (be i (x / 256 ^ n)) ((n : Int) - 1)) (be 8 x) := by
  induction n with
  | zero =>
    intro i hi
    refine Ev.step (fun k => spec_Eight.l0.eq_2 ..) ?_
    obtain rfl : i = 8 := by omega
    refine ev_neg (by omega) (ev_ret ?_)
    rw [Nat.pow_zero, Nat.div_one]
  | succ n ih =>
    intro i hi
    refine Ev.step (fun k => spec_Eight.l0.eq_2 ..) ?_
    have e1 : wrap64 (8 * (((n + 1 : Nat) : Int) - 1)) = ((8 * n : Nat) : Int) := by rw [wr (by omega) (by omega)]; omega
    have e2 : wrap64 (((n + 1 : Nat) : Int) - 1 - 1) = (n : Int) - 1 := by rw [wr (by omega) (by omega)]; omega
    have e3 : shr .i64 (x : Int) ((8 * n : Nat) : Int) = ((x / 256 ^ n : Nat) : Int) := by
      unfold shr
      have e : (256 : Nat) ^ n = 2 ^ (8 * n) := by rw [show (256 : Nat) = 2 ^ 8 from rfl, ← Nat.pow_mul]
      rw [Int.toNat_natCast, Nat.min_eq_left (show 8 * n ≤ IntKind.i64.bits by show 8 * n ≤ 64; omega), e]
      simp
    have e4 : ((x / 256 ^ n : Nat) : Int) % 256 = ((x / 256 ^ n % 256 : Nat) : Int) := by omega
    rw [e1, e2]
    refine ev_pos (by omega) (ev_pos (by omega) (ev_pos (by rw [be_length]; omega) ?_))
    rw [e3, e4]
    have := ih (i + 1) (by omega)
    have e5 : be (i + 1) (x / 256 ^ n) = be i (x / 256 ^ (n + 1)) ++ [((x / 256 ^ n % 256 : Nat) : Int)] := by
      rw [Nat.pow_succ, ← Nat.div_div_eq_div_mul]
      rfl
    rw [e5] at this
    exact this
theorem spec_eight {x : Int} (hx : x ≤ 9223372036854775807) : Ev (fun k => spec_Eight.f k x) (eightOf x) := by
  unfold spec_Eight.f eightOf
  refine ev_some ?_
  by_cases h : x < 0
  · rw [if_pos h]
    exact ev_pos h (ev_ret rfl)
  · rw [if_neg h]
    refine ev_neg h ?_
    have := spec_eight_l0 x.toNat (by omega) 8 0 rfl
    rw [Int.toNat_of_nonneg (by omega)] at this
    exact this
theorem impl_leafin {l : List Int} (hl : l.length ≤ 140737488355000) : impl_leafInput.f l = some (0 :: l) := by
  unfold impl_leafInput.f
  rw [Option.bind_some, if_pos (by simp only [List.length_singleton]; omega)]
  rfl
theorem impl_leaf (a : Int) {l : List Int} (hl : l.length ≤ 140737488355000) : impl_LeafOf.f a l = some (Dig.digest a (0 :: l)) := by
  unfold impl_LeafOf.f
  rw [impl_leafin hl, Option.bind_some, impl_digest, Option.bind_some]
theorem spec_leafin {l : List Int} (hl : l.length ≤ 140737488355000) : spec_l2Leaf.f l = some (0 :: l) := by
  unfold spec_l2Leaf.f
  rw [Option.bind_some, if_pos (by simp only [List.length_singleton]; omega)]
  rfl
theorem spec_leaf (a : Int) {l : List Int} (hl : l.length ≤ 140737488355000) : Ev (fun k => spec_LeafOf.f k a l) (Dig.digest a (0 :: l)) := by
  unfold spec_LeafOf.f
  exact ev_pure (spec_leafin hl) (ev_bind (spec_digest a (0 :: l)) (ev_ret rfl))
theorem shl_one {b : Int} (h : 2 ≤ b ∧ b ≤ 60) : shl .i64 1 b = 2 ^ b.toNat ∧ (4 : Int) ≤ 2 ^ b.toNat ∧ (2 : Int) ^ b.toNat ≤ 1152921504606846976 := by
  have h1 := Dig.two_pow_le b.toNat (by omega)
  have e60 : (2 : Nat) ^ 60 = 1152921504606846976 := by decide
  have ec : (2 : Int) ^ b.toNat = ((2 ^ b.toNat : Nat) : Int) := by simp
  have h2 : 2 ^ 2 ≤ 2 ^ b.toNat := Nat.pow_le_pow_right (by decide) (by omega)
  unfold shl
  rw [Nat.min_eq_left (show b.toNat ≤ IntKind.i64.bits by show b.toNat ≤ 64; omega), IntKind.wrap_i64, ec]
  omega
/-- A number that is a digest of so many bits. -/
def okd (b x : Int) : Prop := (2 ≤ b ∧ b ≤ 60) ∧ 0 ≤ x ∧ x < 2 ^ b.toNat
instance (b x : Int) : Decidable (okd b x) := by unfold okd; infer_instance
theorem okd_le {b x : Int} (h : okd b x) : 0 ≤ x ∧ x ≤ 9223372036854775807 := by
  have := (shl_one h.1).2.2
  have := h.2
  omega
theorem impl_in_eq (a b c : Int) : impl_in.f a b c = some (decide (b ≤ a ∧ a ≤ c)) := by
  unfold impl_in.f
  by_cases h : a ≥ b <;> simp [h]
theorem impl_bits_eq (a : Int) : impl_bitsOk.f a = some (decide (2 ≤ a ∧ a ≤ 60)) := by
  unfold impl_bitsOk.f
  rw [impl_in_eq, Option.bind_some]
theorem impl_isdig (b x : Int) : impl_isDigest.f b x = some (decide (okd b x)) := by
  unfold impl_isDigest.f
  rw [impl_bits_eq, Option.bind_some]
  by_cases h : 2 ≤ b ∧ b ≤ 60
  · obtain ⟨h1, h2, h3⟩ := shl_one h
    rw [if_pos (by simp [h]), if_pos (by omega), h1, wr (by omega) (by omega), impl_in_eq, Option.bind_some]
    congr 1
    apply decide_eq_decide.2
    unfold okd
    omega
  · rw [if_neg (by simp [h])]
    congr 1
    exact (decide_eq_false (fun k => h k.1)).symm
theorem spec_in_eq (a b c : Int) : spec_l1In.f a b c = some (decide (b ≤ a ∧ a ≤ c)) := by
  unfold spec_l1In.f
  by_cases h : a ≥ b <;> simp [h]
theorem spec_isdig (b x : Int) : spec_l2Digest.f b x = some (decide (okd b x)) := by
  unfold spec_l2Digest.f
  rw [spec_in_eq, Option.bind_some]
  by_cases h : 2 ≤ b ∧ b ≤ 60
  · obtain ⟨h1, h2, h3⟩ := shl_one h
    rw [if_pos (by simp [h]), if_pos (by omega), h1, wr (by omega) (by omega), spec_in_eq, Option.bind_some]
    congr 1
    apply decide_eq_decide.2
    unfold okd
    omega
  · rw [if_neg (by simp [h])]
    congr 1
    exact (decide_eq_false (fun k => h k.1)).symm
theorem eightOf_le (x : Int) : (eightOf x).length ≤ 8 := by
  unfold eightOf; split
  · simp
  · rw [be_length]; omega
/-- What a node's digest is taken of. -/
def nodeIn (x y : Int) : List Int := 1 :: (eightOf x ++ eightOf y)
theorem nodeIn_le (x y : Int) : (nodeIn x y).length ≤ 17 := by
  have := eightOf_le x
  have := eightOf_le y
  unfold nodeIn
  simp only [List.length_cons, List.length_append]
  omega
theorem impl_nodein {x y : Int} (hx : x ≤ 9223372036854775807) (hy : y ≤ 9223372036854775807) : Ev (fun k => impl_nodeInput.f k x y) (nodeIn x y) := by
  unfold impl_nodeInput.f
  have h1 := eightOf_le x
  have h2 := eightOf_le y
  refine ev_bind (impl_eight hx) (ev_bind (impl_eight hy) (ev_pure (a := nodeIn x y) ?_ (ev_ret rfl)))
  unfold slices_Concat_byte_byte.f nodeIn
  generalize eightOf x = p at h1 ⊢
  generalize eightOf y = q at h2 ⊢
  have e : [[1], p, q].flatten = 1 :: (p ++ q) := by simp
  rw [e, if_pos (by simp only [List.length_cons, List.length_append]; omega)]
/-- A node's digest. -/
def node (b x y : Int) : Int := if okd b x ∧ okd b y then Dig.digest b (nodeIn x y) else -1
theorem impl_node (b x y : Int) : Ev (fun k => impl_NodeOf.f k b x y) (node b x y) := by
  unfold impl_NodeOf.f node
  refine ev_pure (impl_isdig b x) ?_
  by_cases h1 : okd b x
  · refine ev_pos (decide_eq_true h1) (ev_pure (impl_isdig b y) (Ev.step (fun k => impl_NodeOf.j0.eq_2 ..) ?_))
    by_cases h2 : okd b y
    · rw [if_pos ⟨h1, h2⟩]
      exact ev_neg (by simp [h2]) (ev_bind (impl_nodein (okd_le h1).2 (okd_le h2).2) (ev_pure (impl_digest b (nodeIn x y)) (ev_ret rfl)))
    · rw [if_neg (fun h => h2 h.2)]
      exact ev_pos (by simp [h2]) (ev_ret rfl)
  · rw [if_neg (fun h => h1 h.1)]
    exact ev_neg (by simp [h1]) (Ev.step (fun k => impl_NodeOf.j0.eq_2 ..) (ev_pos rfl (ev_ret rfl)))
theorem spec_nodein {x y : Int} (hx : x ≤ 9223372036854775807) (hy : y ≤ 9223372036854775807) : Ev (fun k => spec_l2Node.f k x y) (nodeIn x y) := by
  unfold spec_l2Node.f nodeIn
  have h1 := eightOf_le x
  have h2 := eightOf_le y
  refine ev_some (ev_bind (spec_eight hx) (ev_pos (by simp only [List.length_singleton]; omega) (ev_some (ev_bind (spec_eight hy) (ev_pos (by simp only [List.length_append, List.length_singleton]; omega) (ev_ret ?_))))))
  simp
theorem spec_node (b x y : Int) : Ev (fun k => spec_NodeOf.f k b x y) (node b x y) := by
  unfold spec_NodeOf.f node
  refine ev_pure (spec_isdig b x) ?_
  by_cases h1 : okd b x
  · refine ev_pos (decide_eq_true h1) (ev_pure (spec_isdig b y) (Ev.step (fun k => spec_NodeOf.j0.eq_2 ..) ?_))
    by_cases h2 : okd b y
    · rw [if_pos ⟨h1, h2⟩]
      exact ev_neg (by simp [h2]) (ev_bind (spec_nodein (okd_le h1).2 (okd_le h2).2) (ev_bind (spec_digest b (nodeIn x y)) (ev_ret rfl)))
    · rw [if_neg (fun h => h2 h.2)]
      exact ev_pos (by simp [h2]) (ev_ret rfl)
  · rw [if_neg (fun h => h1 h.1)]
    exact ev_neg (by simp [h1]) (Ev.step (fun k => spec_NodeOf.j0.eq_2 ..) (ev_pos rfl (ev_ret rfl)))
/-- What a top's digest is taken of. -/
def topIn (many : Nat) (x : Int) : List Int := 2 :: (many : Int) :: eightOf x
theorem topIn_le (many : Nat) (x : Int) : (topIn many x).length ≤ 10 := by
  have := eightOf_le x
  unfold topIn
  simp only [List.length_cons]
  omega
theorem node_okd {b : Int} (hb : 2 ≤ b ∧ b ≤ 60) (x y : Int) : okd b (Dig.digest b (nodeIn x y)) :=
  ⟨hb, Dig.digest_range hb.1 hb.2 (by have := nodeIn_le x y; omega)⟩
theorem impl_topin {many : Nat} {x : Int} (hm : many ≤ 16) (hx : x ≤ 9223372036854775807) : Ev (fun k => impl_topInput.f k (many : Int) x) (topIn many x) := by
  unfold impl_topInput.f topIn
  have h1 := eightOf_le x
  have e : (many : Int) % 256 = many := by omega
  rw [e]
  exact ev_some (ev_bind (impl_eight hx) (ev_pos (by simp only [List.length_cons, List.length_nil]; omega) (ev_ret rfl)))
theorem spec_topin {many : Nat} {x : Int} (hm : many ≤ 16) (hx : x ≤ 9223372036854775807) : Ev (fun k => spec_l2Top.f k (many : Int) x) (topIn many x) := by
  unfold spec_l2Top.f topIn
  have h1 := eightOf_le x
  have e : (many : Int) % 256 = many := by omega
  rw [e]
  exact ev_some (ev_bind (spec_eight hx) (ev_pos (by simp only [List.length_cons, List.length_nil]; omega) (ev_ret rfl)))
/-- The place beside. -/
def beside (a : Nat) : Nat := if a % 2 = 0 then a + 1 else a - 1
theorem half_nat (a : Nat) (h : a ≤ 1000) : wrap64 (Int.tdiv (a : Int) 2) = ((a / 2 : Nat) : Int) := by
  rw [Int.tdiv_eq_ediv_of_nonneg (by omega), wr (by omega) (by omega)]
  omega
theorem odd_nat (a : Nat) : Int.tmod (a : Int) 2 = ((a % 2 : Nat) : Int) := by
  rw [Int.tmod_eq_emod_of_nonneg (by omega)]
  omega
theorem xor_one : ∀ a : Fin 16, Go.bits .xor .i64 ((a.val : Nat) : Int) 1 = ((beside a.val : Nat) : Int) := by decide
theorem drop_one {m : List Int} {i : Nat} {x : Int} {t : List Int} (h : m.drop i = x :: t) : i < m.length ∧ rd m (i : Int) = x ∧ m.drop (i + 1) = t := by
  have hl : i < m.length := by
    have := congrArg List.length h
    simp only [List.length_drop, List.length_cons] at this
    omega
  have h2 := drop_getD m 0 i hl
  rw [h] at h2
  injection h2 with h3 h4
  exact ⟨hl, by rw [rd_nat]; exact h3.symm, h4.symm⟩
/-- The level above. -/
def abv (b : Int) : List Int → List Int
  | x :: y :: l => node b x y :: abv b l
  | [x] => [x]
  | [] => []
theorem abv_length (b : Int) : ∀ l : List Int, (abv b l).length = (l.length + 1) / 2
  | [] => rfl
  | [x] => by simp [abv]
  | x :: y :: l => by
    have := abv_length b l
    simp only [abv, List.length_cons]
    omega
theorem abv_okd {b : Int} (hb : 2 ≤ b ∧ b ≤ 60) : ∀ l : List Int, (∀ x ∈ l, okd b x) → ∀ x ∈ abv b l, okd b x
  | [], _ => fun x hx => by cases hx
  | [y], h => fun x hx => h x hx
  | y :: z :: l, h => fun x hx => by
    simp only [abv, List.mem_cons] at hx
    rcases hx with rfl | hx
    · unfold node
      rw [if_pos ⟨h y (by simp), h z (by simp)⟩]
      exact node_okd hb _ _
    · exact abv_okd hb l (fun w hw => h w (by simp [hw])) x hx
/-- All levels of a tree, the leaves' first. -/
def lvs (b : Int) : Nat → List Int → List (List Int)
  | 0, l => [l]
  | n + 1, l => if l.length = 1 then [l] else l :: lvs b n (abv b l)
/-- The one number of the last level. -/
def apex (b : Int) : Nat → List Int → Int
  | 0, l => rd l 0
  | n + 1, l => if l.length = 1 then rd l 0 else apex b n (abv b l)
theorem one_of {l : List Int} (h : l.length = 1) : l = [rd l 0] := by
  match l, h with
  | [x], _ => rfl
theorem lvs_last (b : Int) (n : Nat) : ∀ l : List Int, 1 ≤ l.length → l.length ≤ n + 1 → ∃ pre, lvs b n l = pre ++ [[apex b n l]] ∧ pre.length ≤ n := by
  induction n with
  | zero =>
    intro l h1 h2
    refine ⟨[], ?_, Nat.le_refl _⟩
    unfold lvs apex
    rw [List.nil_append, ← one_of (by omega)]
  | succ n ih =>
    intro l h1 h2
    unfold lvs apex
    by_cases h : l.length = 1
    · rw [if_pos h, if_pos h]
      exact ⟨[], by rw [List.nil_append, ← one_of h], Nat.zero_le _⟩
    · rw [if_neg h, if_neg h]
      have hl := abv_length b l
      obtain ⟨pre, e, hp⟩ := ih (abv b l) (by omega) (by omega)
      exact ⟨l :: pre, by rw [e, List.cons_append], by simp only [List.length_cons]; omega⟩
theorem apex_okd {b : Int} (hb : 2 ≤ b ∧ b ≤ 60) (n : Nat) : ∀ l : List Int, 1 ≤ l.length → l.length ≤ n + 1 → (∀ x ∈ l, okd b x) → okd b (apex b n l) := by
  have h0 : ∀ l : List Int, 1 ≤ l.length → (∀ x ∈ l, okd b x) → okd b (rd l 0) := by
    intro l h1 h
    match l, h1 with
    | x :: l, _ => exact h x List.mem_cons_self
  induction n with
  | zero => intro l h1 _ h; exact h0 l h1 h
  | succ n ih =>
    intro l h1 h2 h
    unfold apex
    split
    · exact h0 l h1 h
    · have hl := abv_length b l
      exact ih (abv b l) (by omega) (by omega) (abv_okd hb l h)
/-- The leaves' digests. -/
def leafs (b : Int) (l : List (List Int)) : List Int := l.map fun x => Dig.digest b (0 :: x)
theorem leafs_length (b : Int) (l : List (List Int)) : (leafs b l).length = l.length := by simp [leafs]
theorem leafs_okd {b : Int} (hb : 2 ≤ b ∧ b ≤ 60) {l : List (List Int)} (h : ∀ x ∈ l, x.length < 4000) : ∀ x ∈ leafs b l, okd b x := by
  intro x hx
  obtain ⟨y, hy, rfl⟩ := List.mem_map.1 hx
  have := h y hy
  exact ⟨hb, Dig.digest_range hb.1 hb.2 (by simp only [List.length_cons]; omega)⟩
/-- Leaves that are such of a tree. -/
def lok (b : Int) (l : List (List Int)) : Prop := ((2 ≤ b ∧ b ≤ 60) ∧ 1 ≤ l.length ∧ l.length ≤ 16) ∧ ∀ x ∈ l, x.length < 4000
instance (b : Int) (l : List (List Int)) : Decidable (lok b l) := by unfold lok; infer_instance
theorem impl_lok (b : Int) (l : List (List Int)) : impl_leavesOk.f b l = some (decide (lok b l)) := by
  have h : impl_leavesOk.f b l = some (decide ((2 ≤ b ∧ b ≤ 60) ∧ 1 ≤ l.length ∧ l.length ≤ 16) && l.all fun x => decide (x.length < 4000)) := rfl
  rw [h]
  congr 1
  rw [Bool.eq_iff_iff, Bool.and_eq_true, decide_eq_true_eq, List.all_eq_true, decide_eq_true_eq]
  unfold lok
  simp only [decide_eq_true_eq]
theorem snoc_take (f : List Int → Int) (l : List (List Int)) (i : Nat) (h : i < l.length) : (l.map f).take i ++ [f (l.getD i [])] = (l.map f).take (i + 1) := by
  rw [List.take_succ_eq_append_getElem (by simpa using h), List.getElem_map, List.getD_eq_getElem?_getD, List.getElem?_eq_getElem h]
  rfl
theorem lv_l2 (b : Int) (m : List Int) (out : List (List Int)) (hm : m.length ≤ 16) (res : List (List Int)) : ∀ (t : List Int) (i : Nat) (acc : List Int), m.drop i = t → acc.length + t.length ≤ 100 → i ≤ 100 →
    Ev (fun k => impl_levels.l1 k b (acc ++ abv b t) out) res → Ev (fun k => impl_levels.l2 k b m out acc (i : Int)) res
  | [], i, acc, hd, ha, hi, hk => by
    have hl : m.length ≤ i := List.drop_eq_nil_iff.1 hd
    refine Ev.step (fun k => impl_levels.l2.eq_2 ..) (ev_neg (by omega) ?_)
    rw [abv, List.append_nil] at hk
    exact hk
  | [x], i, acc, hd, ha, hi, hk => by
    obtain ⟨h1, h2, h3⟩ := drop_one hd
    have hl : m.length ≤ i + 1 := List.drop_eq_nil_iff.1 h3
    simp only [List.length_cons, List.length_nil] at ha
    refine Ev.step (fun k => impl_levels.l2.eq_2 ..) (ev_pos (by omega) (ev_neg (by rw [wr_succ (by omega)]; omega) (ev_pos (by omega) (ev_pos (by omega) ?_))))
    rw [h2, wr (n := (i : Int) + 2) (by omega) (by omega)]
    exact lv_l2 b m out hm res [] (i + 2) (acc ++ [x]) (List.drop_eq_nil_iff.2 (by omega)) (by simp only [List.length_append, List.length_singleton, List.length_nil]; omega) (by omega) (by rw [abv, List.append_nil]; exact hk)
  | x :: y :: t, i, acc, hd, ha, hi, hk => by
    obtain ⟨h1, h2, h3⟩ := drop_one hd
    obtain ⟨h4, h5, h6⟩ := drop_one h3
    simp only [List.length_cons] at ha
    refine Ev.step (fun k => impl_levels.l2.eq_2 ..) (ev_pos (by omega) (ev_pos (by rw [wr_succ (by omega)]; omega) (ev_pos (by omega) (ev_pos (by rw [wr_succ (by omega)]; omega) ?_))))
    rw [h2, wr_succ (n := i) (by omega), h5, wr (n := (i : Int) + 2) (by omega) (by omega)]
    refine ev_bind (impl_node b x y) (ev_pos (by omega) ?_)
    refine lv_l2 b m out hm res t (i + 2) (acc ++ [node b x y]) h6 (by simp only [List.length_append, List.length_singleton]; omega) (by omega) ?_
    rw [List.append_assoc]
    exact hk
theorem lv_l1 (b : Int) (n : Nat) : ∀ (m : List Int) (out : List (List Int)), 1 ≤ m.length → m.length ≤ n + 1 → m.length ≤ 16 → out.length + n ≤ 1000 → Ev (fun k => impl_levels.l1 k b m out) (out ++ lvs b n m) := by
  induction n with
  | zero =>
    intro m out h1 h2 h3 h4
    refine Ev.step (fun k => impl_levels.l1.eq_2 ..) (ev_pos (by omega) (ev_some (ev_pos (by omega) (ev_ret ?_))))
    unfold lvs
    rfl
  | succ n ih =>
    intro m out h1 h2 h3 h4
    refine Ev.step (fun k => impl_levels.l1.eq_2 ..) (ev_pos (by omega) (ev_some ?_))
    unfold lvs
    by_cases h : m.length = 1
    · rw [if_pos h]
      exact ev_pos (by omega) (ev_ret rfl)
    · rw [if_neg h]
      have hl := abv_length b m
      refine ev_neg (by omega) (lv_l2 b m (out ++ [m]) h3 _ m 0 [] rfl (by simp only [List.length_nil]; omega) (by omega) ?_)
      have := ih (abv b m) (out ++ [m]) (by omega) (by omega) (by omega) (by simp only [List.length_append, List.length_singleton]; omega)
      rw [List.append_assoc] at this
      exact this
theorem lv_l0 (b : Int) (l : List (List Int)) (h1 : 1 ≤ l.length) (h2 : l.length ≤ 16) (hs : ∀ x ∈ l, x.length < 4000) (n : Nat) : ∀ i : Nat, i + n = l.length →
    Ev (fun k => impl_levels.l0 k b ((leafs b l).take i) [] l (l.length : Int) (i : Int)) (lvs b 15 (leafs b l)) := by
  have hll := leafs_length b l
  induction n with
  | zero =>
    intro i hi
    refine Ev.step (fun k => impl_levels.l0.eq_2 ..) (ev_neg (by omega) ?_)
    rw [List.take_of_length_le (by omega)]
    exact lv_l1 b 15 (leafs b l) [] (by omega) (by omega) (by omega) (by decide)
  | succ n ih =>
    intro i hi
    have hx : (l.getD i []).length < 4000 := by
      rw [List.getD_eq_getElem?_getD, List.getElem?_eq_getElem (by omega)]
      exact hs _ (List.getElem_mem _)
    refine Ev.step (fun k => impl_levels.l0.eq_2 ..) (ev_pos (by omega) (ev_pos (by omega) (ev_pos (by omega) ?_)))
    have er : rd_L1 l (i : Int) = l.getD i [] := by unfold rd_L1; rw [Int.toNat_natCast]
    rw [er]
    refine ev_pure (impl_leaf b (by omega)) (ev_pos (by rw [List.length_take]; omega) ?_)
    have es : (leafs b l).take i ++ [Dig.digest b (0 :: l.getD i [])] = (leafs b l).take (i + 1) := snoc_take (fun x => Dig.digest b (0 :: x)) l i (by omega)
    rw [wr_succ (by omega), es]
    exact ih (i + 1) (by omega)
theorem impl_lvs (b : Int) (l : List (List Int)) (h1 : 1 ≤ l.length) (h2 : l.length ≤ 16) (hs : ∀ x ∈ l, x.length < 4000) : Ev (fun k => impl_levels.f k b l) (lvs b 15 (leafs b l)) := by
  unfold impl_levels.f
  exact lv_l0 b l h1 h2 hs l.length 0 (by omega)
/-- The top's input of leaves. -/
def topOfL (b : Int) (l : List (List Int)) : List Int := topIn l.length (apex b 15 (leafs b l))
theorem lok_apex {b : Int} {l : List (List Int)} (h : lok b l) : okd b (apex b 15 (leafs b l)) := by
  have := leafs_length b l
  exact apex_okd h.1.1 15 (leafs b l) (by have := h.1.2; omega) (by have := h.1.2; omega) (leafs_okd h.1.1 h.2)
theorem last_lvs (b : Int) (l : List (List Int)) (h1 : 1 ≤ l.length) (h2 : l.length ≤ 16) : ∃ pre, lvs b 15 (leafs b l) = pre ++ [[apex b 15 (leafs b l)]] ∧ pre.length ≤ 15 := by
  have := leafs_length b l
  exact lvs_last b 15 (leafs b l) (by omega) (by omega)
theorem rdI_last (pre : List (List Int)) (x : List Int) (h : pre.length ≤ 15) : wrap64 (((pre ++ [x]).length : Int) - 1) = (pre.length : Int) ∧ rd_L3 (pre ++ [x]) (pre.length : Int) = x := by
  refine ⟨?_, ?_⟩
  · rw [List.length_append, List.length_singleton, wr (by omega) (by omega)]
    omega
  · unfold rd_L3
    rw [Int.toNat_natCast, List.getD_eq_getElem?_getD, List.getElem?_append_right (Nat.le_refl _), Nat.sub_self]
    rfl
theorem impl_topof {b : Int} {l : List (List Int)} (h : lok b l) : Ev (fun k => impl_topOf.f k b l) (topOfL b l) := by
  unfold impl_topOf.f topOfL
  obtain ⟨⟨hb, h1, h2⟩, hs⟩ := h
  have ha := lok_apex (b := b) (l := l) ⟨⟨hb, h1, h2⟩, hs⟩
  obtain ⟨pre, e, hp⟩ := last_lvs b l h1 h2
  refine ev_bind (impl_lvs b l h1 h2 hs) ?_
  rw [e]
  generalize apex b 15 (leafs b l) = x at ha ⊢
  obtain ⟨e1, e2⟩ := rdI_last pre [x] hp
  rw [e1, e2]
  have e3 : rd [x] 0 = x := rfl
  rw [e3]
  exact ev_pos (by omega) (ev_pos (by simp only [List.length_append, List.length_singleton]; omega) (ev_pos (by simp) (ev_bind (impl_topin h2 (okd_le ha).2) (ev_ret rfl))))
/-- A tree's root; -1: the leaves are no such. -/
def treeRoot (b : Int) (l : List (List Int)) : Int := if lok b l then Dig.digest b (topOfL b l) else -1
theorem impl_treeroot (b : Int) (l : List (List Int)) : Ev (fun k => impl_TreeRoot.f k b l) (treeRoot b l) := by
  unfold impl_TreeRoot.f treeRoot
  refine ev_pure (impl_lok b l) ?_
  by_cases h : lok b l
  · rw [if_pos h]
    exact ev_pos (decide_eq_true h) (ev_bind (impl_topof h) (ev_pure (impl_digest b _) (ev_ret rfl)))
  · rw [if_neg h]
    exact ev_neg (by simp [h]) (ev_ret rfl)
/-- The path of a place: of each level the one beside, where there is one. -/
def pth (a : Nat) : List (List Int) → List Int
  | [] => []
  | v :: r => (if beside a < v.length then [v.getD (beside a) 0] else []) ++ pth (a / 2) r
theorem lvs_length (b : Int) (n : Nat) : ∀ m : List Int, (lvs b n m).length ≤ n + 1 := by
  induction n with
  | zero => intro m; exact Nat.le_refl _
  | succ n ih =>
    intro m
    unfold lvs
    split
    · simp
    · have := ih (abv b m)
      simp only [List.length_cons]
      omega
theorem rdI_nat (L : List (List Int)) (i : Nat) : rd_L3 L (i : Int) = L.getD i [] := by unfold rd_L3; rw [Int.toNat_natCast]
theorem impl_path_l0 (L : List (List Int)) (hL : L.length ≤ 100) (n : Nat) : ∀ (i a : Nat) (acc : List Int), i + n = L.length → a < 16 → acc.length + n ≤ 1000 →
    Ev (fun k => impl_path.l0 k (a : Int) acc L (L.length : Int) (i : Int)) (acc ++ pth a (L.drop i)) := by
  induction n with
  | zero =>
    intro i a acc hi ha hac
    refine Ev.step (fun k => impl_path.l0.eq_2 ..) (ev_neg (by omega) (ev_ret ?_))
    rw [List.drop_eq_nil_of_le (by omega)]
    unfold pth
    rw [List.append_nil]
  | succ n ih =>
    intro i a acc hi ha hac
    refine Ev.step (fun k => impl_path.l0.eq_2 ..) (ev_pos (by omega) (ev_pos (by omega) (ev_pos (by omega) ?_)))
    have hd : L.drop i = L.getD i [] :: L.drop (i + 1) := drop_getD L [] i (by omega)
    have hx : Go.bits .xor .i64 (a : Int) 1 = ((beside a : Nat) : Int) := xor_one ⟨a, ha⟩
    rw [hx, rdI_nat, half_nat a (by omega), wr_succ (n := i) (by omega), hd, pth]
    generalize L.getD i [] = v
    by_cases h : beside a < v.length
    · rw [if_pos h, rd_nat]
      refine ev_pos (by omega) (ev_pos (by omega) (ev_pos (by omega) ?_))
      have := ih (i + 1) (a / 2) (acc ++ [v.getD (beside a) 0]) (by omega) (by omega) (by simp only [List.length_append, List.length_singleton]; omega)
      rw [List.append_assoc] at this
      exact this
    · rw [if_neg h]
      exact ev_neg (by omega) (ih (i + 1) (a / 2) acc (by omega) (by omega) (by omega))
/-- Path's answer. -/
def pathOf (b : Int) (l : List (List Int)) (a : Int) : List Int × Bool := if lok b l ∧ 0 ≤ a ∧ a < (l.length : Int) then (pth a.toNat (lvs b 15 (leafs b l)), true) else ([], false)
theorem impl_pathL {b : Int} {l : List (List Int)} {a : Int} (h : lok b l) (h0 : 0 ≤ a) (h1 : a < (l.length : Int)) : Ev (fun k => impl_path.f k b l a) (pth a.toNat (lvs b 15 (leafs b l))) := by
  have hl := h.1.2
  obtain ⟨n, rfl⟩ := Int.eq_ofNat_of_zero_le h0
  unfold impl_path.f
  refine ev_bind (impl_lvs b l hl.1 hl.2 h.2) ?_
  have hL := lvs_length b 15 (leafs b l)
  rw [Int.toNat_natCast]
  have := impl_path_l0 (lvs b 15 (leafs b l)) (by omega) (lvs b 15 (leafs b l)).length 0 n [] (by omega) (by omega) (by simp only [List.length_nil]; omega)
  exact this
theorem impl_pathof (b : Int) (l : List (List Int)) (a : Int) : Ev (fun k => impl_Path.f k b l a) (pathOf b l a) := by
  unfold impl_Path.f pathOf
  refine ev_pure (impl_lok b l) ?_
  by_cases h : lok b l
  · have hl := h.1.2
    refine ev_pos (decide_eq_true h) (ev_pure (impl_in_eq _ _ _) ?_)
    rw [wr (n := (l.length : Int) - 1) (by omega) (by omega)]
    by_cases h2 : 0 ≤ a ∧ a ≤ (l.length : Int) - 1
    · rw [if_pos ⟨h, h2.1, by omega⟩]
      exact ev_pos (decide_eq_true h2) (ev_bind (impl_pathL h h2.1 (by omega)) (ev_ret rfl))
    · rw [if_neg (fun k => h2 ⟨k.2.1, by have := k.2.2; omega⟩)]
      exact ev_neg (by simp only [decide_eq_true_eq]; exact h2) (ev_ret rfl)
  · rw [if_neg (fun k => h k.1)]
    exact ev_neg (by simp [h]) (ev_ret rfl)
theorem slv_l2 (b : Int) (m : List Int) (out : List (List Int)) (hm : m.length ≤ 16) (ho : out.length ≤ 1000) (res : List (List Int)) : ∀ (t : List Int) (i : Nat) (acc : List Int), m.drop i = t → acc.length + t.length ≤ 100 → i ≤ 100 →
    Ev (fun k => spec_l2Levels.l1 k b (acc ++ abv b t) (out ++ [acc ++ abv b t])) res → Ev (fun k => spec_l2Levels.l2 k b m out acc (i : Int)) res
  | [], i, acc, hd, ha, hi, hk => by
    have hl : m.length ≤ i := List.drop_eq_nil_iff.1 hd
    refine Ev.step (fun k => spec_l2Levels.l2.eq_2 ..) (ev_neg (by omega) (ev_pos (by omega) ?_))
    rw [abv, List.append_nil] at hk
    exact hk
  | [x], i, acc, hd, ha, hi, hk => by
    obtain ⟨h1, h2, h3⟩ := drop_one hd
    have hl : m.length ≤ i + 1 := List.drop_eq_nil_iff.1 h3
    simp only [List.length_cons, List.length_nil] at ha
    refine Ev.step (fun k => spec_l2Levels.l2.eq_2 ..) (ev_pos (by omega) (ev_neg (by rw [wr_succ (by omega)]; omega) (ev_pos (by omega) (ev_pos (by omega) ?_))))
    rw [h2, wr (n := (i : Int) + 2) (by omega) (by omega)]
    exact slv_l2 b m out hm ho res [] (i + 2) (acc ++ [x]) (List.drop_eq_nil_iff.2 (by omega)) (by simp only [List.length_append, List.length_singleton, List.length_nil]; omega) (by omega) (by rw [abv, List.append_nil]; exact hk)
  | x :: y :: t, i, acc, hd, ha, hi, hk => by
    obtain ⟨h1, h2, h3⟩ := drop_one hd
    obtain ⟨h4, h5, h6⟩ := drop_one h3
    simp only [List.length_cons] at ha
    refine Ev.step (fun k => spec_l2Levels.l2.eq_2 ..) (ev_pos (by omega) (ev_pos (by rw [wr_succ (by omega)]; omega) (ev_pos (by omega) (ev_pos (by rw [wr_succ (by omega)]; omega) ?_))))
    rw [h2, wr_succ (n := i) (by omega), h5, wr (n := (i : Int) + 2) (by omega) (by omega)]
    refine ev_bind (spec_node b x y) (ev_pos (by omega) ?_)
    refine slv_l2 b m out hm ho res t (i + 2) (acc ++ [node b x y]) h6 (by simp only [List.length_append, List.length_singleton]; omega) (by omega) ?_
    rw [List.append_assoc]
    exact hk
theorem slv_l1 (b : Int) (n : Nat) : ∀ (m : List Int) (out : List (List Int)), 1 ≤ m.length → m.length ≤ n + 1 → m.length ≤ 16 → out.length + n ≤ 900 → Ev (fun k => spec_l2Levels.l1 k b m (out ++ [m])) (out ++ lvs b n m) := by
  induction n with
  | zero =>
    intro m out h1 h2 h3 h4
    refine Ev.step (fun k => spec_l2Levels.l1.eq_2 ..) (ev_neg (by omega) (ev_ret ?_))
    unfold lvs
    rfl
  | succ n ih =>
    intro m out h1 h2 h3 h4
    refine Ev.step (fun k => spec_l2Levels.l1.eq_2 ..) ?_
    unfold lvs
    by_cases h : m.length = 1
    · rw [if_pos h]
      exact ev_neg (by omega) (ev_ret rfl)
    · rw [if_neg h]
      have hl := abv_length b m
      refine ev_pos (by omega) (slv_l2 b m (out ++ [m]) h3 (by simp only [List.length_append, List.length_singleton]; omega) _ m 0 [] rfl (by simp only [List.length_nil]; omega) (by omega) ?_)
      have := ih (abv b m) (out ++ [m]) (by omega) (by omega) (by omega) (by simp only [List.length_append, List.length_singleton]; omega)
      rw [List.append_assoc, List.append_assoc] at this
      rw [List.nil_append, List.append_assoc]
      exact this
theorem slv_l0 (b : Int) (l : List (List Int)) (h1 : 1 ≤ l.length) (h2 : l.length ≤ 16) (hs : ∀ x ∈ l, x.length < 4000) (n : Nat) : ∀ i : Nat, i + n = l.length →
    Ev (fun k => spec_l2Levels.l0 k b l ((leafs b l).take i) (i : Int)) (lvs b 15 (leafs b l)) := by
  have hll := leafs_length b l
  induction n with
  | zero =>
    intro i hi
    refine Ev.step (fun k => spec_l2Levels.l0.eq_2 ..) (ev_neg (by omega) ?_)
    rw [List.take_of_length_le (by omega)]
    exact slv_l1 b 15 (leafs b l) [] (by omega) (by omega) (by omega) (by decide)
  | succ n ih =>
    intro i hi
    have hx : (l.getD i []).length < 4000 := by
      rw [List.getD_eq_getElem?_getD, List.getElem?_eq_getElem (by omega)]
      exact hs _ (List.getElem_mem _)
    refine Ev.step (fun k => spec_l2Levels.l0.eq_2 ..) (ev_pos (by omega) (ev_pos (by omega) ?_))
    have er : rd_L1 l (i : Int) = l.getD i [] := by unfold rd_L1; rw [Int.toNat_natCast]
    rw [er]
    refine ev_bind (spec_leaf b (by omega)) (ev_pos (by rw [List.length_take]; omega) ?_)
    have es : (leafs b l).take i ++ [Dig.digest b (0 :: l.getD i [])] = (leafs b l).take (i + 1) := snoc_take (fun x => Dig.digest b (0 :: x)) l i (by omega)
    rw [wr_succ (by omega), es]
    exact ih (i + 1) (by omega)
theorem spec_lvs (b : Int) (l : List (List Int)) (h1 : 1 ≤ l.length) (h2 : l.length ≤ 16) (hs : ∀ x ∈ l, x.length < 4000) : Ev (fun k => spec_l2Levels.f k b l) (lvs b 15 (leafs b l)) := by
  unfold spec_l2Levels.f
  exact slv_l0 b l h1 h2 hs l.length 0 (by omega)
theorem spec_lok_l0 (b : Int) (l : List (List Int)) (hl : l.length ≤ 1048576) (n : Nat) : ∀ i : Nat, i + n = l.length → (∀ x ∈ l.take i, x.length < 4000) → Ev (fun k => spec_l2Leaves.l0 k b l (i : Int)) (decide (lok b l)) := by
  induction n with
  | zero =>
    intro i hi hs
    rw [List.take_of_length_le (by omega)] at hs
    refine Ev.step (fun k => spec_l2Leaves.l0.eq_2 ..) (ev_neg (by omega) (ev_pure (spec_in_eq _ _ _) ?_))
    by_cases h1 : 2 ≤ b ∧ b ≤ 60
    · refine ev_pos (decide_eq_true h1) (ev_pure (spec_in_eq _ _ _) (ev_ret ?_))
      apply decide_eq_decide.2
      unfold lok
      constructor
      · intro h; exact ⟨⟨h1, by omega, by omega⟩, hs⟩
      · intro h; have := h.1.2; omega
    · refine ev_neg (by simp only [decide_eq_true_eq]; exact h1) (ev_ret ?_)
      exact (decide_eq_false (fun h => h1 h.1.1)).symm
  | succ n ih =>
    intro i hi hs
    have er : rd_L1 l (i : Int) = l.getD i [] := by unfold rd_L1; rw [Int.toNat_natCast]
    refine Ev.step (fun k => spec_l2Leaves.l0.eq_2 ..) (ev_pos (by omega) (ev_pos (by omega) ?_))
    rw [er]
    have hm : l.getD i [] ∈ l := by
      rw [List.getD_eq_getElem?_getD, List.getElem?_eq_getElem (by omega)]
      exact List.getElem_mem _
    by_cases hx : (l.getD i []).length < 4000
    · refine ev_neg (by omega) ?_
      rw [wr_succ (by omega)]
      refine ih (i + 1) (by omega) (fun x hx' => ?_)
      rw [← take_getD l [] i (by omega)] at hx'
      rcases List.mem_append.1 hx' with h | h
      · exact hs x h
      · rw [List.mem_singleton.1 h]; exact hx
    · refine ev_pos (by omega) (ev_ret ?_)
      exact (decide_eq_false (fun h => hx (h.2 _ hm))).symm
theorem spec_lok (b : Int) (l : List (List Int)) (hl : l.length ≤ 1048576) : Ev (fun k => spec_l2Leaves.f k b l) (decide (lok b l)) := by
  unfold spec_l2Leaves.f
  exact spec_lok_l0 b l hl l.length 0 (by omega) (fun x hx => by cases hx)
theorem spec_treeroot (b : Int) (l : List (List Int)) (hl : l.length ≤ 1048576) : Ev (fun k => spec_TreeRoot.f k b l) (treeRoot b l) := by
  unfold spec_TreeRoot.f treeRoot
  refine ev_bind (spec_lok b l hl) ?_
  by_cases h : lok b l
  · rw [if_pos h]
    have ha := lok_apex h
    obtain ⟨⟨hb, h1, h2⟩, hs⟩ := h
    obtain ⟨pre, e, hp⟩ := last_lvs b l h1 h2
    refine ev_pos (decide_eq_true ⟨⟨hb, h1, h2⟩, hs⟩) (ev_bind (spec_lvs b l h1 h2 hs) ?_)
    unfold topOfL
    rw [e]
    generalize apex b 15 (leafs b l) = x at ha ⊢
    obtain ⟨e1, e2⟩ := rdI_last pre [x] hp
    rw [e1, e2]
    have e3 : rd [x] 0 = x := rfl
    rw [e3]
    exact ev_pos (by omega) (ev_pos (by simp only [List.length_append, List.length_singleton]; omega) (ev_pos (by simp) (ev_bind (spec_topin h2 (okd_le ha).2) (ev_bind (spec_digest b _) (ev_ret rfl)))))
  · rw [if_neg h]
    exact ev_neg (by simp [h]) (ev_ret rfl)
/-- Ascending places, each behind p and below n. -/
def plc (n : Int) : Int → List Int → Bool
  | p, x :: t => (decide (0 ≤ x) && decide (x ≤ n - 1)) && (decide (p < x) && plc n x t)
  | _, [] => true
def plcs (n : Int) (l : List Int) : Bool := plc n (-1) l && decide (0 < l.length)
theorem in_val (a b c : Int) : impl_in.f a b c = some (decide (b ≤ a) && decide (a ≤ c)) := by
  unfold impl_in.f
  by_cases h : a ≥ b <;> simp [h]
theorem sin_val (a b c : Int) : spec_l1In.f a b c = some (decide (b ≤ a) && decide (a ≤ c)) := by
  unfold spec_l1In.f
  by_cases h : a ≥ b <;> simp [h]
theorem last_at {l : List Int} {i : Nat} {x : Int} {t : List Int} (h : l.drop i = x :: t) : rd l (i : Int) = x ∧ i < l.length ∧ l.drop (i + 1) = t := by
  obtain ⟨h1, h2, h3⟩ := drop_one h
  exact ⟨h2, h1, h3⟩
theorem impl_plc_l0 (n : Int) (hn : 0 ≤ n ∧ n ≤ 1000000) (l : List Int) (hl : l.length ≤ 1048576) : ∀ (t : List Int) (i : Nat) (p : Int), l.drop i = t → (i = 0 ∧ p = -1 ∨ 0 < i ∧ p = rd l ((i - 1 : Nat) : Int)) →
    Ev (fun k => impl_placesOk.l0 k l n l (l.length : Int) (i : Int)) (plc n p t && decide (0 < l.length))
  | [], i, p, hd, hp => by
    have h : l.length ≤ i := List.drop_eq_nil_iff.1 hd
    refine Ev.step (fun k => impl_placesOk.l0.eq_2 ..) (ev_neg (by omega) (ev_ret ?_))
    simp [plc]
  | x :: t, i, p, hd, hp => by
    obtain ⟨h1, h2, h3⟩ := last_at hd
    have ih := impl_plc_l0 n hn l hl t (i + 1) x h3 (.inr ⟨by omega, by rw [show i + 1 - 1 = i by omega]; exact h1.symm⟩)
    have ew : wrap64 (n - 1) = n - 1 := wr (by omega) (by omega)
    refine Ev.step (fun k => impl_placesOk.l0.eq_2 ..) (ev_pos (by omega) (ev_pos (by omega) (ev_pos (by omega) (ev_pure (in_val _ _ _) ?_))))
    rw [h1, ew, wr_succ (n := i) (by omega)]
    unfold plc
    by_cases hx : (decide (0 ≤ x) && decide (x ≤ n - 1)) = true
    · rw [hx, Bool.true_and]
      have hx0 : 0 ≤ x := by simp only [Bool.and_eq_true, decide_eq_true_eq] at hx; exact hx.1
      refine ev_pos rfl ?_
      rcases hp with ⟨rfl, rfl⟩ | ⟨hi, rfl⟩
      · have e : decide ((-1 : Int) < x) = true := decide_eq_true (by omega)
        rw [e, Bool.true_and]
        exact ev_neg (by omega) ih
      · have ei : wrap64 ((i : Int) - 1) = ((i - 1 : Nat) : Int) := by rw [wr (by omega) (by omega)]; omega
        refine ev_pos (by omega) ?_
        rw [ei]
        refine ev_pos (by omega) (ev_pos (by omega) ?_)
        generalize rd l ((i - 1 : Nat) : Int) = q
        by_cases hq : q < x
        · rw [decide_eq_true hq, Bool.true_and]
          exact ev_neg (by omega) ih
        · rw [decide_eq_false hq, Bool.false_and, Bool.false_and]
          exact ev_pos (by omega) (ev_ret rfl)
    · simp only [Bool.not_eq_true] at hx
      rw [hx, Bool.false_and, Bool.false_and]
      exact ev_neg (by decide) (ev_ret rfl)
theorem impl_plc (n : Int) (hn : 0 ≤ n ∧ n ≤ 1000000) (l : List Int) (hl : l.length ≤ 1048576) : Ev (fun k => impl_placesOk.f k l n) (plcs n l) := by
  unfold impl_placesOk.f plcs
  exact impl_plc_l0 n hn l hl l 0 (-1) rfl (.inl ⟨rfl, rfl⟩)
theorem spec_plc_l0 (n : Int) (hn : 0 ≤ n ∧ n ≤ 1000000) (l : List Int) (hl : l.length ≤ 1048576) : ∀ (t : List Int) (i : Nat) (p : Int), l.drop i = t → (i = 0 ∧ p = -1 ∨ 0 < i ∧ p = rd l ((i - 1 : Nat) : Int)) →
    Ev (fun k => spec_l2Places.l0 k n l (i : Int)) (plc n p t && decide (0 < l.length))
  | [], i, p, hd, hp => by
    have h : l.length ≤ i := List.drop_eq_nil_iff.1 hd
    refine Ev.step (fun k => spec_l2Places.l0.eq_2 ..) (ev_neg (by omega) (ev_ret ?_))
    simp [plc]
  | x :: t, i, p, hd, hp => by
    obtain ⟨h1, h2, h3⟩ := last_at hd
    have ih := spec_plc_l0 n hn l hl t (i + 1) x h3 (.inr ⟨by omega, by rw [show i + 1 - 1 = i by omega]; exact h1.symm⟩)
    have ew : wrap64 (n - 1) = n - 1 := wr (by omega) (by omega)
    refine Ev.step (fun k => spec_l2Places.l0.eq_2 ..) (ev_pos (by omega) (ev_pos (by omega) (ev_pure (sin_val _ _ _) ?_)))
    rw [h1, ew, wr_succ (n := i) (by omega)]
    unfold plc
    by_cases hx : (decide (0 ≤ x) && decide (x ≤ n - 1)) = true
    · rw [hx, Bool.true_and]
      have hx0 : 0 ≤ x := by simp only [Bool.and_eq_true, decide_eq_true_eq] at hx; exact hx.1
      refine ev_pos rfl ?_
      rcases hp with ⟨rfl, rfl⟩ | ⟨hi, rfl⟩
      · have e : decide ((-1 : Int) < x) = true := decide_eq_true (by omega)
        rw [e, Bool.true_and]
        exact ev_neg (by omega) ih
      · have ei : wrap64 ((i : Int) - 1) = ((i - 1 : Nat) : Int) := by rw [wr (by omega) (by omega)]; omega
        refine ev_pos (by omega) ?_
        rw [ei]
        refine ev_pos (by omega) (ev_pos (by omega) ?_)
        generalize rd l ((i - 1 : Nat) : Int) = q
        by_cases hq : q < x
        · rw [decide_eq_true hq, Bool.true_and]
          exact ev_neg (by omega) ih
        · rw [decide_eq_false hq, Bool.false_and, Bool.false_and]
          exact ev_pos (by omega) (ev_ret rfl)
    · simp only [Bool.not_eq_true] at hx
      rw [hx, Bool.false_and, Bool.false_and]
      exact ev_neg (by decide) (ev_ret rfl)
theorem spec_plc (n : Int) (hn : 0 ≤ n ∧ n ≤ 1000000) (l : List Int) (hl : l.length ≤ 1048576) : Ev (fun k => spec_l2Places.f k n l) (plcs n l) := by
  unfold spec_l2Places.f plcs
  exact spec_plc_l0 n hn l hl l 0 (-1) rfl (.inl ⟨rfl, rfl⟩)
/-- Places that are such: ascending natural numbers below n. -/
def Asc (n : Nat) (m : List Nat) : Prop := m.Pairwise (· < ·) ∧ ∀ x ∈ m, x < n
theorem plc_nat (n : Nat) : ∀ (l : List Int) (p : Int), plc (n : Int) p l = true → ∃ m, l = I m ∧ Asc n m ∧ ∀ x ∈ m, p < (x : Int)
  | [], p, _ => ⟨[], rfl, ⟨.nil, fun x hx => by cases hx⟩, fun x hx => by cases hx⟩
  | x :: t, p, h => by
    unfold plc at h
    simp only [Bool.and_eq_true, decide_eq_true_eq] at h
    obtain ⟨⟨h0, h1⟩, h2, h3⟩ := h
    obtain ⟨m, rfl, ⟨ha, hb⟩, hc⟩ := plc_nat n t x h3
    obtain ⟨y, rfl⟩ := Int.eq_ofNat_of_zero_le h0
    refine ⟨y :: m, rfl, ⟨List.pairwise_cons.2 ⟨fun z hz => by have := hc z hz; omega, ha⟩, fun z hz => ?_⟩, fun z hz => ?_⟩
    · rcases List.mem_cons.1 hz with rfl | hz
      · omega
      · exact hb z hz
    · rcases List.mem_cons.1 hz with rfl | hz
      · exact h2
      · have := hc z hz; omega
theorem asc_ext : ∀ (a b : List Nat), a.Pairwise (· < ·) → b.Pairwise (· < ·) → (∀ x, x ∈ a ↔ x ∈ b) → a = b
  | [], [], _, _, _ => rfl
  | [], y :: b, _, _, h => absurd ((h y).2 List.mem_cons_self) (by simp)
  | x :: a, [], _, _, h => absurd ((h x).1 List.mem_cons_self) (by simp)
  | x :: a, y :: b, ha, hb, h => by
    obtain ⟨ha1, ha2⟩ := List.pairwise_cons.1 ha
    obtain ⟨hb1, hb2⟩ := List.pairwise_cons.1 hb
    have e : x = y := by
      rcases List.mem_cons.1 ((h x).1 List.mem_cons_self) with e | e
      · exact e
      · rcases List.mem_cons.1 ((h y).2 List.mem_cons_self) with e2 | e2
        · exact e2.symm
        · have := hb1 x e; have := ha1 y e2; omega
    subst e
    have e2 : a = b := asc_ext a b ha2 hb2 (fun z => ⟨fun hz => by
      rcases List.mem_cons.1 ((h z).1 (List.mem_cons_of_mem _ hz)) with e | e
      · have := ha1 z hz; omega
      · exact e, fun hz => by
      rcases List.mem_cons.1 ((h z).2 (List.mem_cons_of_mem _ hz)) with e | e
      · have := hb1 z hz; omega
      · exact e⟩)
    rw [e2]
theorem asc_range {n : Nat} {m : List Nat} (h : Asc n m) : m = (List.range n).filter (fun x => decide (x ∈ m)) :=
  asc_ext _ _ h.1 (List.Pairwise.filter _ List.pairwise_lt_range) (fun x => by
    rw [List.mem_filter, List.mem_range, decide_eq_true_eq]
    exact ⟨fun hx => ⟨h.2 x hx, hx⟩, fun hx => hx.2⟩)
theorem asc_length {n : Nat} {m : List Nat} (h : Asc n m) : m.length ≤ n := by
  rw [asc_range h]
  have := List.length_filter_le (fun x => decide (x ∈ m)) (List.range n)
  rw [List.length_range] at this
  exact this
/-- Of each run the first, of natural numbers. -/
def compN : List Nat → List Nat
  | x :: y :: l => if x = y then compN (y :: l) else x :: compN (y :: l)
  | l => l
theorem comp_I : ∀ m : List Nat, compact (I m) = I (compN m)
  | [] => rfl
  | [x] => rfl
  | x :: y :: m => by
    have ih := comp_I (y :: m)
    show compact ((x : Int) :: (y : Int) :: I m) = _
    have ih' : compact ((y : Int) :: I m) = I (compN (y :: m)) := ih
    unfold compact compN
    by_cases h : x = y
    · rw [if_pos (by rw [h]), if_pos h]; exact ih'
    · rw [if_neg (show ¬ ((x : Int) = (y : Int)) by omega), if_neg h, ih']; rfl
theorem compN_mem : ∀ (m : List Nat) (z : Nat), z ∈ compN m ↔ z ∈ m
  | [], z => Iff.rfl
  | [x], z => Iff.rfl
  | x :: y :: m, z => by
    have ih := compN_mem (y :: m) z
    unfold compN
    by_cases h : x = y
    · rw [if_pos h, ih, h]
      simp
    · rw [if_neg h, List.mem_cons, ih, List.mem_cons (a := z) (b := x)]
theorem compN_asc : ∀ m : List Nat, m.Pairwise (· ≤ ·) → (compN m).Pairwise (· < ·)
  | [], _ => .nil
  | [x], _ => List.pairwise_singleton _ _
  | x :: y :: m, h => by
    obtain ⟨h1, h2⟩ := List.pairwise_cons.1 h
    have ih := compN_asc (y :: m) h2
    unfold compN
    by_cases e : x = y
    · rw [if_pos e]; exact ih
    · rw [if_neg e]
      refine List.pairwise_cons.2 ⟨fun z hz => ?_, ih⟩
      have hz := (compN_mem (y :: m) z).1 hz
      have hxy := h1 y List.mem_cons_self
      rcases List.mem_cons.1 hz with rfl | hz
      · omega
      · have := (List.pairwise_cons.1 h2).1 z hz
        omega
/-- The places above. -/
def up1 (m : List Nat) : List Nat := compN (m.map (· / 2))
theorem up1_mem (m : List Nat) (z : Nat) : z ∈ up1 m ↔ ∃ x ∈ m, x / 2 = z := by unfold up1; rw [compN_mem, List.mem_map]
theorem up1_asc {n : Nat} {m : List Nat} (h : Asc n m) : Asc ((n + 1) / 2) (up1 m) := by
  refine ⟨compN_asc _ ?_, fun z hz => ?_⟩
  · rw [List.pairwise_map]
    exact h.1.imp (fun hxy => Nat.div_le_div_right (Nat.le_of_lt hxy))
  · obtain ⟨x, hx, rfl⟩ := (up1_mem m z).1 hz
    have := h.2 x hx
    omega
theorem half_I (x : Nat) (h : x ≤ 1000) : half (x : Int) = ((x / 2 : Nat) : Int) := by
  unfold half
  exact half_nat x h
theorem map_half : ∀ m : List Nat, (∀ x ∈ m, x ≤ 1000) → (I m).map half = I (m.map (· / 2))
  | [], _ => rfl
  | x :: m, h => by
    have ih := map_half m (fun z hz => h z (List.mem_cons_of_mem _ hz))
    have e : I (x :: m) = (x : Int) :: I m := rfl
    have e2 : I ((x :: m).map (· / 2)) = ((x / 2 : Nat) : Int) :: I (m.map (· / 2)) := rfl
    rw [e, e2, List.map_cons, ih, half_I x (h x List.mem_cons_self)]
theorem above_I (m : List Nat) (hm : ∀ x ∈ m, x ≤ 1000) (hl : m.length ≤ 1000) : impl_above.f (I m) = some (I (up1 m)) := by
  unfold impl_above.f
  rw [if_pos (show (I m).length ≤ 1000000 by rw [I_length]; omega)]
  have e := map_half m hm
  unfold up1
  rw [e, comp_I]
theorem plcs_nat {n : Nat} {a : List Int} (h : plcs (n : Int) a = true) : ∃ m, a = I m ∧ Asc n m := by
  unfold plcs at h
  rw [Bool.and_eq_true] at h
  obtain ⟨m, e, h2, _⟩ := plc_nat n a (-1) h.1
  exact ⟨m, e, h2⟩
theorem toNat_I (m : List Nat) : (I m).map Int.toNat = m := by
  unfold I
  rw [List.map_map]
  exact (List.map_congr_left (fun x _ => Int.toNat_natCast x)).trans (List.map_id m)
/-- What a place adds to the path. -/
def emit (l : List Int) (m : List Nat) (x : Nat) : List Int := if beside x < l.length ∧ ¬ beside x ∈ m then [rd l (beside x : Int)] else []
/-- What a level adds. -/
def outs (l : List Int) (m : List Nat) : List Int := m.flatMap (emit l m)
/-- What all levels but the last add. -/
def mpo (b : Int) : Nat → List Int → List Nat → List Int
  | 0, _, _ => []
  | n + 1, l, m => if l.length = 1 then [] else outs l m ++ mpo b n (abv b l) (up1 m)
/-- What two places side by side add. -/
def pairO (l : List Int) (m : List Nat) (q : Nat) : List Int := (if 2 * q ∈ m ∧ ¬ 2 * q + 1 ∈ m ∧ 2 * q + 1 < l.length then [rd l ((2 * q + 1 : Nat) : Int)] else []) ++ (if 2 * q + 1 ∈ m ∧ ¬ 2 * q ∈ m then [rd l ((2 * q : Nat) : Int)] else [])
theorem flat_filter {α : Type} (p : Nat → Bool) (f : Nat → List α) : ∀ l : List Nat, (l.filter p).flatMap f = l.flatMap (fun x => if p x = true then f x else [])
  | [] => rfl
  | x :: l => by
    have ih := flat_filter p f l
    by_cases h : p x = true
    · rw [List.filter_cons_of_pos h, List.flatMap_cons, List.flatMap_cons, ih, if_pos h]
    · rw [List.filter_cons_of_neg h, List.flatMap_cons, ih, if_neg h, List.nil_append]
theorem flat_two {α : Type} (g : Nat → List α) : ∀ N : Nat, (List.range (2 * N)).flatMap g = (List.range N).flatMap (fun q => g (2 * q) ++ g (2 * q + 1))
  | 0 => rfl
  | N + 1 => by
    rw [show 2 * (N + 1) = 2 * N + 1 + 1 by omega, List.range_succ, List.range_succ, List.range_succ, List.flatMap_append, List.flatMap_append, List.flatMap_append, flat_two g N]
    simp
theorem outs_eq {l : List Int} {m : List Nat} (h : Asc l.length m) : outs l m = (List.range ((l.length + 1) / 2)).flatMap (pairO l m) := by
  have e0 : outs l m = (List.range l.length).flatMap (fun x => if x ∈ m then emit l m x else []) := by
    have := asc_range h
    have h2 : outs l m = ((List.range l.length).filter (fun x => decide (x ∈ m))).flatMap (emit l m) := by
      unfold outs
      exact congrArg (fun z => List.flatMap (emit l m) z) this
    rw [h2, flat_filter]
    simp only [decide_eq_true_eq]
  have e1 : (List.range (2 * ((l.length + 1) / 2))).flatMap (fun x => if x ∈ m then emit l m x else []) = (List.range l.length).flatMap (fun x => if x ∈ m then emit l m x else []) := by
    by_cases hp : l.length % 2 = 0
    · rw [show 2 * ((l.length + 1) / 2) = l.length by omega]
    · rw [show 2 * ((l.length + 1) / 2) = l.length + 1 by omega, List.range_succ, List.flatMap_append]
      have : ¬ l.length ∈ m := fun hx => Nat.lt_irrefl _ (h.2 _ hx)
      simp [this]
  rw [e0, ← e1, flat_two]
  congr 1
  funext q
  unfold pairO emit
  have b0 : beside (2 * q) = 2 * q + 1 := by unfold beside; rw [if_pos (by omega)]
  have b1 : beside (2 * q + 1) = 2 * q := by unfold beside; rw [if_neg (by omega)]; omega
  rw [b0, b1]
  by_cases ha : 2 * q ∈ m
  · by_cases hb : 2 * q + 1 ∈ m
    · simp [ha, hb]
    · simp [ha, hb]
  · by_cases hb : 2 * q + 1 ∈ m
    · have := h.2 _ hb
      have hl : 2 * q < l.length := by omega
      simp [ha, hb, hl]
    · simp [ha, hb]
theorem up_eq {n : Nat} {m : List Nat} (h : Asc n m) : up1 m = (List.range ((n + 1) / 2)).filter (fun q => decide (2 * q ∈ m ∨ 2 * q + 1 ∈ m)) := by
  refine asc_ext _ _ (up1_asc h).1 (List.Pairwise.filter _ List.pairwise_lt_range) (fun z => ?_)
  rw [up1_mem, List.mem_filter, List.mem_range, decide_eq_true_eq]
  constructor
  · rintro ⟨x, hx, rfl⟩
    have := h.2 x hx
    refine ⟨by omega, ?_⟩
    by_cases hp : x % 2 = 0
    · left; rw [show 2 * (x / 2) = x by omega]; exact hx
    · right; rw [show 2 * (x / 2) + 1 = x by omega]; exact hx
  · rintro ⟨_, hx | hx⟩
    · exact ⟨_, hx, by omega⟩
    · exact ⟨_, hx, by omega⟩
theorem drop_I {m : List Nat} {i : Nat} (h : i < m.length) : m.drop i = m.getD i 0 :: m.drop (i + 1) := by
  rw [List.getD_eq_getElem?_getD, List.getElem?_eq_getElem h]
  exact List.drop_eq_getElem_cons h
theorem index_l0 (m : List Nat) (hm : m.length ≤ 1000) (x : Nat) (n : Nat) : ∀ i : Nat, i + n = m.length → ∃ r : Int, Ev (fun k => slices_Index_int_int.l0 k (I m) (x : Int) (m.length : Int) (i : Int)) r ∧ decide (r ≥ 0) = decide (x ∈ m.drop i) := by
  induction n with
  | zero =>
    intro i hi
    rw [List.drop_eq_nil_of_le (by omega)]
    exact ⟨-1, Ev.step (fun k => slices_Index_int_int.l0.eq_2 ..) (ev_neg (by omega) (ev_ret rfl)), by simp⟩
  | succ n ih =>
    intro i hi
    obtain ⟨r, e, hr⟩ := ih (i + 1) (by omega)
    have hl := I_length m
    rw [drop_I (m := m) (i := i) (by omega)]
    by_cases h : x = m.getD i 0
    · refine ⟨(i : Int), Ev.step (fun k => slices_Index_int_int.l0.eq_2 ..) (ev_pos (by omega) (ev_pos (by omega) (ev_pos (by omega) (ev_pos (by rw [rd_I]; exact congrArg Int.ofNat h) (ev_ret rfl))))), ?_⟩
      rw [decide_eq_true (by omega), decide_eq_true (by rw [h]; exact List.mem_cons_self)]
    · refine ⟨r, Ev.step (fun k => slices_Index_int_int.l0.eq_2 ..) (ev_pos (by omega) (ev_pos (by omega) (ev_pos (by omega) (ev_neg (by rw [rd_I]; exact fun e => h (Int.ofNat.inj e)) ?_)))), ?_⟩
      · rw [wr_succ (by omega)]; exact e
      · rw [hr]; exact decide_eq_decide.2 ⟨fun z => List.mem_cons_of_mem _ z, fun z => (List.mem_cons.1 z).resolve_left h⟩
theorem impl_has (m : List Nat) (hm : m.length ≤ 1000) (x : Nat) : Ev (fun k => slices_Contains_int_int.f k (I m) (x : Int)) (decide (x ∈ m)) := by
  obtain ⟨r, e, hr⟩ := index_l0 m hm x m.length 0 (by omega)
  unfold slices_Contains_int_int.f slices_Index_int_int.f
  rw [I_length]
  refine ev_bind e (ev_ret ?_)
  rw [hr]
  rfl
theorem has_l0 (m : List Nat) (hm : m.length ≤ 1000) (x : Nat) (n : Nat) : ∀ i : Nat, i + n = m.length → ∃ r : Int, Ev (fun k => spec_l2Has.l0 k (I m) (x : Int) (i : Int)) r ∧ decide (r ≥ 0) = decide (x ∈ m.drop i) := by
  induction n with
  | zero =>
    intro i hi
    rw [List.drop_eq_nil_of_le (by omega)]
    have hl := I_length m
    exact ⟨-1, Ev.step (fun k => spec_l2Has.l0.eq_2 ..) (ev_neg (by omega) (ev_ret rfl)), by simp⟩
  | succ n ih =>
    intro i hi
    obtain ⟨r, e, hr⟩ := ih (i + 1) (by omega)
    have hl := I_length m
    rw [drop_I (m := m) (i := i) (by omega)]
    by_cases h : x = m.getD i 0
    · refine ⟨(i : Int), Ev.step (fun k => spec_l2Has.l0.eq_2 ..) (ev_pos (by omega) (ev_pos (by omega) (ev_pos (by rw [rd_I]; exact congrArg Int.ofNat h.symm) (ev_ret rfl)))), ?_⟩
      rw [decide_eq_true (by omega), decide_eq_true (by rw [h]; exact List.mem_cons_self)]
    · refine ⟨r, Ev.step (fun k => spec_l2Has.l0.eq_2 ..) (ev_pos (by omega) (ev_pos (by omega) (ev_neg (by rw [rd_I]; exact fun e => h (Int.ofNat.inj e).symm) ?_))), ?_⟩
      · rw [wr_succ (by omega)]; exact e
      · rw [hr]; exact decide_eq_decide.2 ⟨fun z => List.mem_cons_of_mem _ z, fun z => (List.mem_cons.1 z).resolve_left h⟩
theorem spec_has (m : List Nat) (hm : m.length ≤ 1000) (x : Nat) : ∃ r : Int, Ev (fun k => spec_l2Has.f k (I m) (x : Int)) r ∧ decide (r ≥ 0) = decide (x ∈ m) := by
  obtain ⟨r, e, hr⟩ := has_l0 m hm x m.length 0 (by omega)
  exact ⟨r, by unfold spec_l2Has.f; exact e, hr⟩
theorem pairO_le (l : List Int) (m : List Nat) (q : Nat) : (pairO l m q).length ≤ 1 := by
  unfold pairO
  by_cases ha : 2 * q ∈ m
  · by_cases hb : 2 * q + 1 ∈ m
    · simp [ha, hb]
    · by_cases hl : 2 * q + 1 < l.length <;> simp [ha, hb, hl]
  · by_cases hb : 2 * q + 1 ∈ m <;> simp [ha, hb]
theorem pairs_le (l : List Int) (m : List Nat) : ∀ q : Nat, ((List.range q).flatMap (pairO l m)).length ≤ q
  | 0 => Nat.le_refl _
  | q + 1 => by
    have ih := pairs_le l m q
    have := pairO_le l m q
    rw [List.range_succ, List.flatMap_append, List.length_append]
    simp only [List.flatMap_cons, List.flatMap_nil, List.append_nil]
    omega
theorem filt_le (p : Nat → Bool) (q : Nat) : ((List.range q).filter p).length ≤ q := by
  have := List.length_filter_le p (List.range q)
  rw [List.length_range] at this
  exact this
theorem halfq (q : Nat) (h : q ≤ 500) : wrap64 (Int.tdiv (2 * (q : Int)) 2) = (q : Int) := by
  have := half_nat (2 * q) (by omega)
  rw [show ((2 * q : Nat) : Int) = 2 * (q : Int) by omega] at this
  rw [this]
  omega
/-- One level as the reference goes through it. -/
theorem spec_lv {L : List (List Int)} {i : Nat} {l : List Int} {m : List Nat} {o : List Int} {R : List Int × Bool} (hi : i < L.length) (hL : L.length ≤ 100) (hl : rd_L3 L (i : Int) = l) (hn : l.length ≤ 16) (hm : m.length ≤ 1000) (ho : o.length ≤ 10000)
    (hfin : Ev (fun k => spec_ManyPath.l0 k (I ((List.range ((l.length + 1) / 2)).filter (fun q => decide (2 * q ∈ m ∨ 2 * q + 1 ∈ m)))) (o ++ (List.range ((l.length + 1) / 2)).flatMap (pairO l m)) L (wrap64 ((i : Int) + 1))) R) (r : Nat) : ∀ q : Nat, q + r = (l.length + 1) / 2 →
    Ev (fun k => spec_ManyPath.l1 k (I m) (o ++ (List.range q).flatMap (pairO l m)) L (i : Int) (I ((List.range q).filter (fun q => decide (2 * q ∈ m ∨ 2 * q + 1 ∈ m)))) (2 * (q : Int))) R := by
  induction r with
  | zero =>
    intro q hq
    have e : q = (l.length + 1) / 2 := by omega
    subst e
    refine Ev.step (fun k => spec_ManyPath.l1.eq_2 ..) (ev_pos (by omega) (ev_pos (by omega) (ev_neg ?_ hfin)))
    rw [hl]
    omega
  | succ r ih =>
    intro q hq
    have h1 := ih (q + 1) (by omega)
    rw [List.range_succ, List.filter_append, List.flatMap_append, I_append] at h1
    have e2 : Unit → wrap64 (2 * (q : Int) + 2) = 2 * ((q + 1 : Nat) : Int) := fun _ => by rw [wr (by omega) (by omega)]; omega
    have e1 : Unit → wrap64 (2 * (q : Int) + 1) = ((2 * q + 1 : Nat) : Int) := fun _ => by rw [wr (by omega) (by omega)]; omega
    have e0 : 2 * (q : Int) = ((2 * q : Nat) : Int) := by omega
    obtain ⟨r1, v1, w1⟩ := spec_has m hm (2 * q)
    obtain ⟨r2, v2, w2⟩ := spec_has m hm (2 * q + 1)
    have hx : (I ((List.range q).filter (fun q => decide (2 * q ∈ m ∨ 2 * q + 1 ∈ m)))).length ≤ q := by rw [I_length]; exact filt_le _ q
    have hy : (o ++ (List.range q).flatMap (pairO l m)).length ≤ 10000 + q := by rw [List.length_append]; have := pairs_le l m q; omega
    have hwq : Unit → wrap64 (Int.tdiv (2 * (q : Int)) 2) = (q : Int) := fun _ => halfq q (by omega)
    have hsing : (List.flatMap (pairO l m) [q]) = pairO l m q := by simp
    rw [hsing, ← List.append_assoc] at h1
    refine Ev.step (fun k => spec_ManyPath.l1.eq_2 ..) (ev_pos (by omega) (ev_pos (by omega) (ev_pos (by rw [hl]; omega) ?_)))
    rw [(e1 ())]
    have v1' : Ev (fun k => spec_l2Has.f k (I m) (2 * (q : Int))) r1 := by rw [e0]; exact v1
    refine ev_bind v1' (ev_bind v2 ?_)
    rw [w1, w2]
    generalize I ((List.range q).filter (fun q => decide (2 * q ∈ m ∨ 2 * q + 1 ∈ m))) = nx at hx h1 ⊢
    generalize o ++ (List.range q).flatMap (pairO l m) = oo at hy h1 ⊢
    by_cases hA : 2 * q ∈ m
    · have g1 : r1 ≥ 0 := by rw [decide_eq_true hA] at w1; exact of_decide_eq_true w1
      refine ev_pos g1 (Ev.step (fun k => spec_ManyPath.j3.eq_2 ..) (ev_pos rfl (ev_pos (by omega) (Ev.step (fun k => spec_ManyPath.j4.eq_2 ..) (ev_pos (decide_eq_true hA) ?_)))))
      rw [(hwq ())]
      have hf : List.filter (fun q => decide (2 * q ∈ m ∨ 2 * q + 1 ∈ m)) [q] = [q] := by simp [hA]
      rw [hf] at h1
      by_cases hB : 2 * q + 1 ∈ m
      · have hp : pairO l m q = [] := by unfold pairO; simp [hA, hB]
        rw [hp, List.append_nil] at h1
        refine ev_pos (decide_eq_true hB) (Ev.step (fun k => spec_ManyPath.j5.eq_2 ..) (ev_neg (by simp) (ev_pos (decide_eq_true hB) (ev_pos (decide_eq_true hA) ?_))))
        rw [(e2 ())]
        exact h1
      · refine ev_neg (by simpa using hB) (ev_pos (by omega) (ev_pos (by omega) ?_))
        rw [hl, (e1 ())]
        by_cases hlt : 2 * q + 1 < l.length
        · have hp : pairO l m q = [rd l ((2 * q + 1 : Nat) : Int)] := by unfold pairO; simp [hA, hB, hlt]
          rw [hp] at h1
          refine Ev.step (fun k => spec_ManyPath.j5.eq_2 ..) (ev_pos (decide_eq_true (by omega)) (ev_pos (by omega) (ev_pos (by omega) ?_)))
          rw [(e1 ()), hl]
          refine ev_pos (by omega) (ev_pos (by omega) (ev_pos (by omega) (ev_some (ev_neg (by simpa using hB) ?_))))
          rw [(e2 ())]
          exact h1
        · have hp : pairO l m q = [] := by unfold pairO; simp [hA, hB, hlt]
          rw [hp, List.append_nil] at h1
          refine Ev.step (fun k => spec_ManyPath.j5.eq_2 ..) (ev_neg (by simp only [decide_eq_true_eq]; omega) (ev_neg (by simpa using hB) ?_))
          rw [(e2 ())]
          exact h1
    · have g1 : ¬ r1 ≥ 0 := by rw [decide_eq_false hA] at w1; exact of_decide_eq_false w1
      refine ev_neg g1 ?_
      by_cases hB : 2 * q + 1 ∈ m
      · have hf : List.filter (fun q => decide (2 * q ∈ m ∨ 2 * q + 1 ∈ m)) [q] = [q] := by simp [hB]
        have hp : pairO l m q = [rd l ((2 * q : Nat) : Int)] := by unfold pairO; simp [hA, hB]
        rw [hf, hp] at h1
        refine Ev.step (fun k => spec_ManyPath.j3.eq_2 ..) (ev_pos (decide_eq_true hB) (ev_pos (by omega) (Ev.step (fun k => spec_ManyPath.j4.eq_2 ..) (ev_neg (by simpa using hA) (Ev.step (fun k => spec_ManyPath.j5.eq_2 ..) (ev_neg (by simp) (ev_pos (decide_eq_true hB) (ev_neg (by simpa using hA) (ev_pos (by omega) (ev_pos (by omega) (ev_pos (by omega) ?_)))))))))))
        rw [hl, (hwq ()), (e2 ())]
        refine ev_pos (by omega) (ev_pos (by omega) ?_)
        rw [e0]
        exact h1
      · have hf : List.filter (fun q => decide (2 * q ∈ m ∨ 2 * q + 1 ∈ m)) [q] = [] := by simp [hA, hB]
        have hp : pairO l m q = [] := by unfold pairO; simp [hA, hB]
        rw [hf, hp, List.append_nil, I_nil, List.append_nil] at h1
        refine Ev.step (fun k => spec_ManyPath.j3.eq_2 ..) (ev_neg (by simpa using hB) (Ev.step (fun k => spec_ManyPath.j4.eq_2 ..) (ev_neg (by simpa using hA) (Ev.step (fun k => spec_ManyPath.j5.eq_2 ..) (ev_neg (by simp) (ev_neg (by simpa using hB) ?_))))))
        rw [(e2 ())]
        exact h1
theorem lvs_pos (b : Int) (n : Nat) (l : List Int) : 1 ≤ (lvs b n l).length := by
  cases n with
  | zero => exact Nat.le_refl _
  | succ n => unfold lvs; split <;> simp
theorem at_drop {L : List (List Int)} {i : Nat} {l : List Int} {t : List (List Int)} (h : L.drop i = l :: t) : i < L.length ∧ rd_L3 L (i : Int) = l ∧ L.length = i + 1 + t.length ∧ L.drop (i + 1) = t := by
  have hl : i < L.length := by
    have := congrArg List.length h
    simp only [List.length_drop, List.length_cons] at this
    omega
  have hn := congrArg List.length h
  simp only [List.length_drop, List.length_cons] at hn
  refine ⟨hl, ?_, by omega, ?_⟩
  · unfold rd_L3
    rw [Int.toNat_natCast, List.getD_eq_getElem?_getD, List.getElem?_eq_getElem hl]
    rw [List.drop_eq_getElem_cons hl] at h
    injection h
  · rw [List.drop_eq_getElem_cons hl] at h
    injection h
theorem outs_le {l : List Int} {m : List Nat} (h : Asc l.length m) : (outs l m).length ≤ (l.length + 1) / 2 := by
  rw [outs_eq h]
  exact pairs_le l m _
theorem spec_mp (b : Int) (L : List (List Int)) (hL : L.length ≤ 100) (n : Nat) : ∀ (i : Nat) (l : List Int) (m : List Nat) (o : List Int), L.drop i = lvs b n l → 1 ≤ l.length → l.length ≤ n + 1 → l.length ≤ 16 → Asc l.length m → o.length + 16 * n ≤ 1000 →
    Ev (fun k => spec_ManyPath.l0 k (I m) o L (i : Int)) (o ++ mpo b n l m, true) := by
  have last : ∀ (i : Nat) (l : List Int) (m : List Nat) (o : List Int), L.drop i = [l] → Ev (fun k => spec_ManyPath.l0 k (I m) o L (i : Int)) (o, true) := by
    intro i l m o hd
    obtain ⟨h1, _, h3, _⟩ := at_drop hd
    simp only [List.length_nil] at h3
    exact Ev.step (fun k => spec_ManyPath.l0.eq_2 ..) (ev_neg (by rw [wr_succ (by omega)]; omega) (ev_ret rfl))
  induction n with
  | zero =>
    intro i l m o hd _ _ _ _ _
    have := last i l m o hd
    unfold mpo
    rw [List.append_nil]
    exact this
  | succ n ih =>
    intro i l m o hd h1 h2 h16 ha ho
    unfold lvs at hd
    unfold mpo
    by_cases h : l.length = 1
    · rw [if_pos h] at hd
      rw [if_pos h, List.append_nil]
      exact last i l m o hd
    · rw [if_neg h] at hd
      rw [if_neg h]
      obtain ⟨g1, g2, g3, g4⟩ := at_drop hd
      have hp := lvs_pos b n (abv b l)
      have hab := abv_length b l
      have hm := asc_length ha
      have ih2 := ih (i + 1) (abv b l) (up1 m) (o ++ outs l m) g4 (by omega) (by omega) (by omega) (by rw [hab]; exact up1_asc ha) (by rw [List.length_append]; have := outs_le ha; omega)
      rw [List.append_assoc, up_eq ha, outs_eq ha] at ih2
      refine Ev.step (fun k => spec_ManyPath.l0.eq_2 ..) (ev_pos (by rw [wr_succ (by omega)]; omega) ?_)
      have := spec_lv (L := L) (i := i) (l := l) (m := m) (o := o) (R := (o ++ ((List.range ((l.length + 1) / 2)).flatMap (pairO l m) ++ mpo b n (abv b l) ((List.range ((l.length + 1) / 2)).filter (fun q => decide (2 * q ∈ m ∨ 2 * q + 1 ∈ m)))), true)) g1 hL g2 h16 (by omega) (by omega) (by rw [wr_succ (by omega)]; exact ih2) ((l.length + 1) / 2) 0 (Nat.zero_add _)
      rw [outs_eq ha, up_eq ha]
      simpa [I_nil] using this
theorem impl_lv {L : List (List Int)} {i : Nat} {l : List Int} {m : List Nat} {o : List Int} {R : List Int × Bool} {z : Int} (hn : l.length ≤ 16) (ha : Asc l.length m) (ho : o.length ≤ 10000)
    (hfin : Ev (fun k => impl_ManyPath.l0 k (I (up1 m)) (o ++ outs l m) L z (wrap64 ((i : Int) + 1))) R) (r : Nat) : ∀ j : Nat, j + r = m.length →
    Ev (fun k => impl_ManyPath.l1 k (I m) (o ++ (m.take j).flatMap (emit l m)) l L z (i : Int) (I m) (m.length : Int) (j : Int)) R := by
  have hm := asc_length ha
  have hI := I_length m
  have hel : ∀ x, (emit l m x).length ≤ 1 := by intro x; unfold emit; split <;> simp
  have hfl : ∀ t : List Nat, (t.flatMap (emit l m)).length ≤ t.length := by
    intro t
    induction t with
    | nil => exact Nat.le_refl _
    | cons x t ih => rw [List.flatMap_cons, List.length_append, List.length_cons]; have := hel x; omega
  induction r with
  | zero =>
    intro j hj
    refine Ev.step (fun k => impl_ManyPath.l1.eq_2 ..) (ev_neg (by omega) (ev_pure (above_I m (fun x hx => by have := ha.2 x hx; omega) (by omega)) ?_))
    rw [List.take_of_length_le (by omega)]
    exact hfin
  | succ r ih =>
    intro j hj
    have h1 := ih (j + 1) (by omega)
    have et : m.take (j + 1) = m.take j ++ [m.getD j 0] := by
      rw [List.take_succ_eq_append_getElem (by omega), List.getD_eq_getElem?_getD, List.getElem?_eq_getElem (by omega)]; rfl
    rw [et, List.flatMap_append, ← List.append_assoc] at h1
    have hxm : m.getD j 0 ∈ m := by rw [List.getD_eq_getElem?_getD, List.getElem?_eq_getElem (by omega)]; exact List.getElem_mem _
    have hx := ha.2 _ hxm
    have hlen : (o ++ (m.take j).flatMap (emit l m)).length ≤ 10000 + 16 := by
      rw [List.length_append]
      have := hfl (m.take j)
      rw [List.length_take] at this
      omega
    have hrd : rd (I m) (j : Int) = ((m.getD j 0 : Nat) : Int) := rd_I m j
    have hsing : List.flatMap (emit l m) [m.getD j 0] = emit l m (m.getD j 0) := by simp
    rw [hsing] at h1
    generalize m.getD j 0 = x at hx hxm hrd h1
    have hxor : Go.bits .xor .i64 (x : Int) 1 = ((beside x : Nat) : Int) := xor_one ⟨x, by omega⟩
    generalize o ++ (m.take j).flatMap (emit l m) = oo at hlen h1 ⊢
    refine Ev.step (fun k => impl_ManyPath.l1.eq_2 ..) (ev_pos (by omega) (ev_pos (by omega) (ev_pos (by omega) ?_)))
    rw [hrd, hxor, wr_succ (by omega)]
    by_cases hb : beside x < l.length
    · refine ev_pos (by omega) (ev_bind (impl_has m (by omega) (beside x)) ?_)
      by_cases hc : beside x ∈ m
      · have he : emit l m x = [] := by unfold emit; rw [if_neg (fun h => h.2 hc)]
        rw [he, List.append_nil] at h1
        exact ev_pos (decide_eq_true hc) h1
      · have he : emit l m x = [rd l (beside x : Int)] := by unfold emit; rw [if_pos ⟨hb, hc⟩]
        rw [he] at h1
        exact ev_neg (by simpa using hc) (ev_pos (by omega) (ev_pos (by omega) h1))
    · have he : emit l m x = [] := by unfold emit; rw [if_neg (fun h => hb h.1)]
      rw [he, List.append_nil] at h1
      exact ev_neg (by omega) h1
theorem outs_one {l : List Int} {m : List Nat} (h : l.length = 1) (ha : Asc l.length m) : outs l m = [] := by
  unfold outs
  rw [List.flatMap_eq_nil_iff]
  intro x hx
  have := ha.2 x hx
  have e : x = 0 := by omega
  subst e
  unfold emit beside
  rw [if_neg (by simp; omega)]
theorem impl_mp (b : Int) (L : List (List Int)) (hL : L.length ≤ 100) (n : Nat) : ∀ (i : Nat) (l : List Int) (m : List Nat) (o : List Int), L.drop i = lvs b n l → 1 ≤ l.length → l.length ≤ n + 1 → l.length ≤ 16 → Asc l.length m → o.length + 16 * n ≤ 1000 →
    Ev (fun k => impl_ManyPath.l0 k (I m) o L (L.length : Int) (i : Int)) (o ++ mpo b n l m, true) := by
  have last : ∀ (i : Nat) (l : List Int) (m : List Nat) (o : List Int), L.drop i = [l] → l.length = 1 → Asc l.length m → o.length ≤ 1000 → Ev (fun k => impl_ManyPath.l0 k (I m) o L (L.length : Int) (i : Int)) (o, true) := by
    intro i l m o hd h1 ha ho
    obtain ⟨g1, g2, g3, _⟩ := at_drop hd
    simp only [List.length_nil] at g3
    have fin : Ev (fun k => impl_ManyPath.l0 k (I (up1 m)) (o ++ outs l m) L (L.length : Int) (wrap64 ((i : Int) + 1))) (o, true) := by
      rw [outs_one h1 ha, List.append_nil, wr_succ (by omega)]
      exact Ev.step (fun k => impl_ManyPath.l0.eq_2 ..) (ev_neg (by omega) (ev_ret rfl))
    have := impl_lv (L := L) (i := i) (l := l) (m := m) (o := o) (z := (L.length : Int)) (by omega) ha (by omega) fin m.length 0 (Nat.zero_add _)
    refine Ev.step (fun k => impl_ManyPath.l0.eq_2 ..) (ev_pos (by omega) (ev_pos (by omega) (ev_pos (by omega) ?_)))
    rw [g2, I_length]
    simpa using this
  induction n with
  | zero =>
    intro i l m o hd h1 h2 _ ha ho
    have := last i l m o hd (by omega) ha (by omega)
    unfold mpo
    rw [List.append_nil]
    exact this
  | succ n ih =>
    intro i l m o hd h1 h2 h16 ha ho
    unfold lvs at hd
    unfold mpo
    by_cases h : l.length = 1
    · rw [if_pos h] at hd
      rw [if_pos h, List.append_nil]
      exact last i l m o hd h ha (by omega)
    · rw [if_neg h] at hd
      rw [if_neg h]
      obtain ⟨g1, g2, g3, g4⟩ := at_drop hd
      have hab := abv_length b l
      have ih2 := ih (i + 1) (abv b l) (up1 m) (o ++ outs l m) g4 (by omega) (by omega) (by omega) (by rw [hab]; exact up1_asc ha) (by rw [List.length_append]; have := outs_le ha; omega)
      rw [List.append_assoc] at ih2
      have := impl_lv (L := L) (i := i) (l := l) (m := m) (o := o) (z := (L.length : Int)) h16 ha (by omega) (by rw [wr_succ (by omega)]; exact ih2) m.length 0 (Nat.zero_add _)
      refine Ev.step (fun k => impl_ManyPath.l0.eq_2 ..) (ev_pos (by omega) (ev_pos (by omega) (ev_pos (by omega) ?_)))
      rw [g2, I_length]
      simpa using this
theorem mpo_le (b : Int) (n : Nat) : ∀ (l : List Int) (m : List Nat), Asc l.length m → l.length ≤ 16 → (mpo b n l m).length ≤ 16 * n := by
  induction n with
  | zero => intro l m _ _; exact Nat.le_refl _
  | succ n ih =>
    intro l m ha h16
    unfold mpo
    split
    · exact Nat.zero_le _
    · have hab := abv_length b l
      have := ih (abv b l) (up1 m) (by rw [hab]; exact up1_asc ha) (by omega)
      have := outs_le ha
      rw [List.length_append]
      omega
theorem lvs_len (b : Int) (n : Nat) : ∀ l : List Int, (lvs b n l).length ≤ n + 1 := by
  induction n with
  | zero => intro l; exact Nat.le_refl _
  | succ n ih =>
    intro l
    unfold lvs
    split
    · simp
    · have := ih (abv b l)
      simp only [List.length_cons]
      omega
/-- What ManyPath answers. -/
def manyOf (b : Int) (l : List (List Int)) (a : List Int) : List Int × Bool := if lok b l then if plcs (l.length : Int) a = true then (mpo b 15 (leafs b l) (a.map Int.toNat), true) else ([], false) else ([], false)
theorem spec_many (b : Int) (l : List (List Int)) (a : List Int) (hl : l.length ≤ 1048576) (ha : a.length ≤ 1048576) : Ev (fun k => spec_ManyPath.f k b l a) (manyOf b l a) := by
  unfold spec_ManyPath.f manyOf
  refine ev_some (ev_bind (spec_lok b l hl) ?_)
  by_cases h : lok b l
  · rw [if_pos h]
    obtain ⟨⟨hb, h1, h16⟩, hs⟩ := h
    refine ev_pos (decide_eq_true ⟨⟨hb, h1, h16⟩, hs⟩) (ev_bind (spec_plc (l.length : Int) ⟨by omega, by omega⟩ a ha) (Ev.step (fun k => spec_ManyPath.j0.eq_2 ..) ?_))
    by_cases hp : plcs (l.length : Int) a = true
    · rw [if_pos hp]
      obtain ⟨m, rfl, hm⟩ := plcs_nat hp
      have hll := leafs_length b l
      rw [hp, toNat_I]
      exact ev_neg (by decide) (ev_bind (spec_lvs b l h1 h16 hs) (spec_mp b _ (Nat.le_trans (lvs_len b 15 _) (by decide)) 15 0 (leafs b l) m [] rfl (by omega) (by omega) (by omega) (by rw [hll]; exact hm) (by simp)))
    · rw [if_neg hp]
      simp only [Bool.not_eq_true] at hp
      rw [hp]
      exact ev_pos rfl (ev_ret rfl)
  · rw [if_neg h]
    exact ev_neg (by simpa using h) (Ev.step (fun k => spec_ManyPath.j0.eq_2 ..) (ev_pos rfl (ev_ret rfl)))
theorem impl_many (b : Int) (l : List (List Int)) (a : List Int) (hl : l.length ≤ 1048576) (ha : a.length ≤ 1048576) : Ev (fun k => impl_ManyPath.f k b l a) (manyOf b l a) := by
  unfold impl_ManyPath.f manyOf
  refine ev_pure (impl_lok b l) ?_
  by_cases h : lok b l
  · rw [if_pos h]
    obtain ⟨⟨hb, h1, h16⟩, hs⟩ := h
    refine ev_pos (decide_eq_true ⟨⟨hb, h1, h16⟩, hs⟩) (ev_bind (impl_plc (l.length : Int) ⟨by omega, by omega⟩ a ha) (Ev.step (fun k => impl_ManyPath.j0.eq_2 ..) ?_))
    by_cases hp : plcs (l.length : Int) a = true
    · rw [if_pos hp]
      obtain ⟨m, rfl, hm⟩ := plcs_nat hp
      have hll := leafs_length b l
      rw [hp, toNat_I]
      exact ev_neg (by decide) (ev_bind (impl_lvs b l h1 h16 hs) (impl_mp b _ (Nat.le_trans (lvs_len b 15 _) (by decide)) 15 0 (leafs b l) m [] rfl (by omega) (by omega) (by omega) (by rw [hll]; exact hm) (by simp)))
    · rw [if_neg hp]
      simp only [Bool.not_eq_true] at hp
      rw [hp]
      exact ev_pos rfl (ev_ret rfl)
  · rw [if_neg h]
    exact ev_neg (by simpa using h) (Ev.step (fun k => impl_ManyPath.j0.eq_2 ..) (ev_pos rfl (ev_ret rfl)))
theorem wf64 {x : Int} (h0 : 0 ≤ x) (h1 : x ≤ 9223372036854775807) : (Lit.int .i64 x).wf = true := by
  simp only [Lit.wf, IntKind.min, IntKind.max, IntKind.signed, IntKind.bits, Bool.and_eq_true, decide_eq_true_eq, if_true]
  omega
/-- The input of a step up. -/
def stepIn (a : Nat) (q x : Int) : List Int := if a % 2 = 1 then nodeIn q x else nodeIn x q
theorem step_okd {b : Int} (hb : 2 ≤ b ∧ b ≤ 60) (a : Nat) (q x : Int) : okd b (Dig.digest b (stepIn a q x)) := by
  by_cases h : a % 2 = 1
  · have e : stepIn a q x = nodeIn q x := if_pos h
    rw [e]
    exact node_okd hb _ _
  · have e : stepIn a q x = nodeIn x q := if_neg h
    rw [e]
    exact node_okd hb _ _
/-- Places with their digests. -/
abbrev Pl := List (Nat × Int)
/-- A place that stands alone: its input, if it has one, the digest above, what is left of the path. -/
def solo (b : Int) (n x : Nat) (d : Int) (p : List Int) : Option (List (List Int) × Int × List Int) :=
  if beside x < n then
    match p with
    | [] => none
    | q :: p => if okd b q then some ([stepIn x q d], Dig.digest b (stepIn x q d), p) else none
  else some ([], d, p)
/-- One level up: the nodes' inputs, the places above, what is left of the path. -/
def lev (b : Int) (n : Nat) : Pl → List Int → Option (List (List Int) × Pl × List Int)
  | [], p => some ([], [], p)
  | [(x, d)], p => (solo b n x d p).map fun s => (s.1, [(x / 2, s.2.1)], s.2.2)
  | (x, d) :: (y, e) :: t, p =>
    if x % 2 = 0 ∧ y = x + 1 then (lev b n t p).map fun u => (nodeIn d e :: u.1, (x / 2, Dig.digest b (nodeIn d e)) :: u.2.1, u.2.2)
    else (solo b n x d p).bind fun s => (lev b n ((y, e) :: t) s.2.2).map fun u => (s.1 ++ u.1, (x / 2, s.2.1) :: u.2.1, u.2.2)
theorem lev_nil (b : Int) (n : Nat) (p : List Int) : lev b n [] p = some ([], [], p) := by rw [lev]
theorem lev_pair (b : Int) (n x : Nat) (d e : Int) (t : Pl) (p : List Int) (h : x % 2 = 0) : lev b n ((x, d) :: (x + 1, e) :: t) p = (lev b n t p).map fun u => (nodeIn d e :: u.1, (x / 2, Dig.digest b (nodeIn d e)) :: u.2.1, u.2.2) := by
  rw [lev, if_pos ⟨h, rfl⟩]
theorem lev_solo (b : Int) (n x : Nat) (d : Int) (t : Pl) (p : List Int) (h : ∀ z ∈ t.head?, ¬ (x % 2 = 0 ∧ z.1 = x + 1)) : lev b n ((x, d) :: t) p = (solo b n x d p).bind fun s => (lev b n t s.2.2).map fun u => (s.1 ++ u.1, (x / 2, s.2.1) :: u.2.1, u.2.2) := by
  match t with
  | [] =>
    rw [lev]
    cases solo b n x d p with
    | none => rfl
    | some s => simp [lev]
  | (y, e) :: t => rw [lev, if_neg (h (y, e) rfl)]
/-- The places alone. -/
def ks (L : Pl) : List Nat := L.map Prod.fst
theorem ks_append (a c : Pl) : ks (a ++ c) = ks a ++ ks c := List.map_append
theorem ks_cons (x : Nat) (d : Int) (t : Pl) : ks ((x, d) :: t) = x :: ks t := rfl
theorem ks_length (L : Pl) : (ks L).length = L.length := List.length_map _
def Srt (L : Pl) : Prop := (ks L).Pairwise (· < ·)
theorem pl_cases (L : Pl) : L = [] ∨ (∃ x d e t, L = (x, d) :: (x + 1, e) :: t ∧ x % 2 = 0) ∨ (∃ x d t, L = (x, d) :: t ∧ ∀ z ∈ t.head?, ¬ (x % 2 = 0 ∧ z.1 = x + 1)) := by
  match L with
  | [] => exact .inl rfl
  | [(x, d)] => exact .inr (.inr ⟨x, d, [], rfl, fun z hz => (by cases hz)⟩)
  | (x, d) :: (y, e) :: t =>
    by_cases h : x % 2 = 0 ∧ y = x + 1
    · obtain ⟨h1, rfl⟩ := h
      exact .inr (.inl ⟨x, d, e, t, rfl, h1⟩)
    · exact .inr (.inr ⟨x, d, (y, e) :: t, rfl, fun z hz => (by cases hz; exact h)⟩)
theorem srt_cons {x : Nat} {d : Int} {t : Pl} (h : Srt ((x, d) :: t)) : (∀ z ∈ ks t, x < z) ∧ Srt t := List.pairwise_cons.1 h
theorem srt_solo {x : Nat} {d : Int} {t : Pl} (h : Srt ((x, d) :: t)) (hh : ∀ z ∈ t.head?, ¬ (x % 2 = 0 ∧ z.1 = x + 1)) : ∀ z ∈ ks t, x / 2 < z / 2 := by
  obtain ⟨h1, h2⟩ := srt_cons h
  intro z hz
  have hx := h1 z hz
  match t, hz with
  | (y, e) :: t, hz =>
    have hy := hh (y, e) rfl
    have hxy := h1 y (by rw [ks_cons]; exact List.mem_cons_self)
    have hyz : y ≤ z := by
      rw [ks_cons] at hz
      rcases List.mem_cons.1 hz with rfl | hz
      · exact Nat.le_refl _
      · exact Nat.le_of_lt ((srt_cons h2).1 z hz)
    simp only at hy
    omega
theorem srt_pair {x : Nat} {d e : Int} {t : Pl} (h : Srt ((x, d) :: (x + 1, e) :: t)) (hx : x % 2 = 0) : (∀ z ∈ ks t, x / 2 < z / 2) ∧ Srt t := by
  obtain ⟨h1, h2⟩ := srt_cons h
  obtain ⟨h3, h4⟩ := srt_cons h2
  exact ⟨fun z hz => by have := h3 z hz; omega, h4⟩
theorem compN_cons {a : Nat} {l : List Nat} (h : ∀ z ∈ l, a < z) : compN (a :: l) = a :: compN l := by
  cases l with
  | nil => rfl
  | cons c l => rw [compN, if_neg (by have := h c List.mem_cons_self; omega)]
theorem up1_cons {x : Nat} {l : List Nat} (h : ∀ z ∈ l, x / 2 < z / 2) : up1 (x :: l) = x / 2 :: up1 l := by
  unfold up1
  rw [List.map_cons]
  exact compN_cons (fun z hz => by obtain ⟨y, hy, rfl⟩ := List.mem_map.1 hz; exact h y hy)
theorem up1_pair {x : Nat} {l : List Nat} (hx : x % 2 = 0) (h : ∀ z ∈ l, x / 2 < z / 2) : up1 (x :: (x + 1) :: l) = x / 2 :: up1 l := by
  have e := up1_cons h
  unfold up1 at e ⊢
  rw [List.map_cons, List.map_cons, show (x + 1) / 2 = x / 2 by omega, compN, if_pos rfl]
  exact e
theorem solo_facts {b : Int} (hb : 2 ≤ b ∧ b ≤ 60) {n x : Nat} {d : Int} {p : List Int} {s} (hd : okd b d) (h : solo b n x d p = some s) : okd b s.2.1 ∧ s.1.length ≤ 1 ∧ ∃ used, p = used ++ s.2.2 ∧ ∀ q ∈ used, okd b q := by
  unfold solo at h
  split at h
  · match p, h with
    | q :: p, h =>
      simp only at h
      split at h
      · rename_i hq
        cases h
        exact ⟨step_okd hb x q d, Nat.le_refl _, [q], rfl, fun z hz => by rw [List.mem_singleton] at hz; subst hz; exact hq⟩
      · cases h
  · cases h
    exact ⟨hd, Nat.zero_le _, [], rfl, fun z hz => (by cases hz)⟩
theorem lev_facts {b : Int} (hb : 2 ≤ b ∧ b ≤ 60) (n N : Nat) : ∀ (L : Pl) (p : List Int) (u), L.length ≤ N → Srt L → (∀ z ∈ L, okd b z.2) → lev b n L p = some u →
    ks u.2.1 = up1 (ks L) ∧ (∀ z ∈ u.2.1, okd b z.2) ∧ u.1.length ≤ L.length ∧ ∃ used, p = used ++ u.2.2 ∧ ∀ q ∈ used, okd b q := by
  induction N with
  | zero =>
    intro L p u hN _ _ h
    have : L = [] := List.length_eq_zero_iff.1 (by omega)
    subst this
    rw [lev_nil] at h
    cases h
    exact ⟨rfl, fun z hz => (by cases hz), Nat.le_refl _, [], rfl, fun z hz => (by cases hz)⟩
  | succ N ih =>
    intro L p u hN hs hv h
    rcases pl_cases L with rfl | ⟨x, d, e, t, rfl, hx⟩ | ⟨x, d, t, rfl, hh⟩
    · rw [lev_nil] at h
      cases h
      exact ⟨rfl, fun z hz => (by cases hz), Nat.le_refl _, [], rfl, fun z hz => (by cases hz)⟩
    · rw [lev_pair b n x d e t p hx] at h
      obtain ⟨u', h', rfl⟩ := Option.map_eq_some_iff.1 h
      obtain ⟨g1, g2⟩ := srt_pair hs hx
      simp only [List.length_cons] at hN
      obtain ⟨i1, i2, i3, used, i4, i5⟩ := ih t p u' (by omega) g2 (fun z hz => hv z (List.mem_cons_of_mem _ (List.mem_cons_of_mem _ hz))) h'
      refine ⟨?_, ?_, ?_, used, i4, i5⟩
      · rw [ks_cons, ks_cons, ks_cons, up1_pair hx g1, i1]
      · intro z hz
        rcases List.mem_cons.1 hz with rfl | hz
        · exact node_okd hb d e
        · exact i2 z hz
      · simp only [List.length_cons]; omega
    · rw [lev_solo b n x d t p hh] at h
      obtain ⟨s, hs', h⟩ := Option.bind_eq_some_iff.1 h
      obtain ⟨u', h', rfl⟩ := Option.map_eq_some_iff.1 h
      have g1 := srt_solo hs hh
      obtain ⟨f1, f2, us, f3, f4⟩ := solo_facts hb (hv (x, d) List.mem_cons_self) hs'
      simp only [List.length_cons] at hN
      obtain ⟨i1, i2, i3, used, i4, i5⟩ := ih t s.2.2 u' (by omega) (srt_cons hs).2 (fun z hz => hv z (List.mem_cons_of_mem _ hz)) h'
      refine ⟨?_, ?_, ?_, us ++ used, by rw [f3, List.append_assoc, ← i4], ?_⟩
      · rw [ks_cons, ks_cons, up1_cons g1, i1]
      · intro z hz
        rcases List.mem_cons.1 hz with rfl | hz
        · exact f1
        · exact i2 z hz
      · simp only [List.length_append, List.length_cons]; omega
      · intro q hq
        rcases List.mem_append.1 hq with hq | hq
        · exact f4 q hq
        · exact i5 q hq
/-- The digest of the first place. -/
def top0 (L : Pl) : Int := (L.map Prod.snd).headD 0
/-- All levels up. -/
def mups (b : Int) : Nat → Nat → Pl → List Int → Option (List (List Int) × List Int × Int)
  | 0, _, L, p => some ([], p, top0 L)
  | k + 1, n, L, p => if 1 < n then (lev b n L p).bind fun u => (mups b k ((n + 1) / 2) u.2.1 u.2.2).map fun v => (u.1 ++ v.1, v.2) else some ([], p, top0 L)
/-- The leaves' digests at their places. -/
def leafL (b : Int) (m : List Nat) (l : List (List Int)) : Pl := (m.zip l).map fun z => (z.1, Dig.digest b (0 :: z.2))
theorem leafL_ks (b : Int) (m : List Nat) (l : List (List Int)) (h : l.length = m.length) : ks (leafL b m l) = m := by
  unfold ks leafL
  rw [List.map_map]
  exact List.map_fst_zip (by omega)
theorem leafL_okd {b : Int} (hb : 2 ≤ b ∧ b ≤ 60) (m : List Nat) (l : List (List Int)) (h : ∀ x ∈ l, x.length < 4000) : ∀ z ∈ leafL b m l, okd b z.2 := by
  intro z hz
  obtain ⟨y, hy, rfl⟩ := List.mem_map.1 hz
  have := h y.2 (List.of_mem_zip hy).2
  exact ⟨hb, Dig.digest_range hb.1 hb.2 (by simp only [List.length_cons]; omega)⟩
/-- All that a way up of several leaves must hold to, but for the path. -/
def manyOk (b many : Int) (at_ : List Int) (l : List (List Int)) : Prop := ((2 ≤ b ∧ b ≤ 60) ∧ 1 ≤ many ∧ many ≤ 16) ∧ plcs many at_ = true ∧ l.length = at_.length ∧ ∀ x ∈ l, x.length < 4000
instance (b many : Int) (at_ : List Int) (l : List (List Int)) : Decidable (manyOk b many at_ l) := by unfold manyOk; infer_instance
def mway (b many : Int) (at_ : List Int) (l : List (List Int)) (p : List Int) : Option (List (List Int) × List Int × Int) := mups b 16 many.toNat (leafL b (at_.map Int.toNat) l) p
/-- The inputs of a way up of several leaves, the top's the last. -/
def climbedM (b many : Int) (at_ : List Int) (l : List (List Int)) (p : List Int) : List (List Int) × Bool :=
  if manyOk b many at_ l ∧ ∀ q ∈ p, okd b q then
    match mway b many at_ l p with
    | none => ([], false)
    | some (i, r, y) => (l.map (fun x => 0 :: x) ++ (i ++ [topIn many.toNat y]), decide (r = []))
  else ([], false)
/-- ManyFrom's answer. -/
def manyFrom (b many : Int) (at_ : List Int) (l : List (List Int)) (p : List Int) : Int :=
  if manyOk b many at_ l then
    match mway b many at_ l p with
    | none => -1
    | some (_, r, y) => if r = [] then Dig.digest b (topIn many.toNat y) else -1
  else -1
theorem asc_of {n : Nat} {L : Pl} (hs : Srt L) (hn : ∀ x ∈ ks L, x < n) : Asc n (ks L) := ⟨hs, hn⟩
/-- A level's places are such of the next. -/
theorem lev_next {b : Int} (hb : 2 ≤ b ∧ b ≤ 60) {n : Nat} {L : Pl} {p : List Int} {u} (hs : Srt L) (hn : ∀ x ∈ ks L, x < n) (hv : ∀ z ∈ L, okd b z.2) (h : lev b n L p = some u) :
    ks u.2.1 = up1 (ks L) ∧ Srt u.2.1 ∧ (∀ x ∈ ks u.2.1, x < (n + 1) / 2) ∧ (∀ z ∈ u.2.1, okd b z.2) ∧ u.1.length ≤ n ∧ ∃ used, p = used ++ u.2.2 ∧ ∀ q ∈ used, okd b q := by
  obtain ⟨h1, h2, h3, h4⟩ := lev_facts hb n L.length L p u (Nat.le_refl _) hs hv h
  have h5 := up1_asc (asc_of hs hn)
  have h6 := asc_length (asc_of hs hn)
  rw [ks_length] at h6
  refine ⟨h1, ?_, ?_, h2, by omega, h4⟩
  · unfold Srt; rw [h1]; exact h5.1
  · rw [h1]; exact h5.2
theorem mups_used {b : Int} (hb : 2 ≤ b ∧ b ≤ 60) (k : Nat) : ∀ (n : Nat) (L : Pl) (p : List Int) (v), Srt L → (∀ x ∈ ks L, x < n) → (∀ z ∈ L, okd b z.2) → mups b k n L p = some v → n ≤ 16 → v.1.length ≤ 16 * k ∧ ∃ used, p = used ++ v.2.1 ∧ ∀ q ∈ used, okd b q := by
  induction k with
  | zero => intro n L p v _ _ _ h _; unfold mups at h; cases h; exact ⟨Nat.le_refl _, [], rfl, fun z hz => (by cases hz)⟩
  | succ k ih =>
    intro n L p v hs hn hv h h16
    unfold mups at h
    split at h
    · obtain ⟨u, hu, h⟩ := Option.bind_eq_some_iff.1 h
      obtain ⟨w, hw, rfl⟩ := Option.map_eq_some_iff.1 h
      obtain ⟨_, g2, g3, g4, g5, us, g6, g7⟩ := lev_next hb hs hn hv hu
      obtain ⟨i1, used, i2, i3⟩ := ih _ _ _ _ g2 g3 g4 hw (by omega)
      refine ⟨by simp only [List.length_append]; omega, us ++ used, by rw [g6, List.append_assoc, ← i2], fun q hq => ?_⟩
      rcases List.mem_append.1 hq with hq | hq
      · exact g7 q hq
      · exact i3 q hq
    · cases h
      exact ⟨Nat.zero_le _, [], rfl, fun z hz => (by cases hz)⟩
theorem one_L {L : Pl} (hs : Srt L) (hn : ∀ x ∈ ks L, x < 1) (h0 : L ≠ []) : ∃ y, L = [(0, y)] := by
  match L, h0 with
  | [(x, y)], _ =>
    have := hn x (by rw [ks_cons]; exact List.mem_cons_self)
    obtain rfl : x = 0 := by omega
    exact ⟨y, rfl⟩
  | (x, y) :: (z, v) :: t, _ =>
    have h1 := hn z (by rw [ks_cons, ks_cons]; simp)
    have h2 := (srt_cons hs).1 z (by rw [ks_cons]; exact List.mem_cons_self)
    omega
theorem lev_some {b : Int} {n : Nat} {L : Pl} {u : List (List Int) × Pl × List Int} (h0 : L ≠ []) (hk : ks u.2.1 = up1 (ks L)) : u.2.1 ≠ [] := by
  intro e
  rw [e] at hk
  match L, h0 with
  | (x, d) :: t, _ =>
    have := (up1_mem (ks ((x, d) :: t)) (x / 2)).2 ⟨x, by rw [ks_cons]; exact List.mem_cons_self, rfl⟩
    rw [← hk] at this
    cases this
theorem mups_le (b : Int) (k n : Nat) (L : Pl) (p : List Int) (h : n ≤ 1) : mups b (k + 1) n L p = some ([], p, top0 L) := by
  rw [mups, if_neg (by omega)]
theorem mups_step (b : Int) (k n : Nat) (L : Pl) (p : List Int) (h : 1 < n) : mups b (k + 1) n L p = (lev b n L p).bind fun u => (mups b k ((n + 1) / 2) u.2.1 u.2.2).map fun v => (u.1 ++ v.1, v.2) := by
  rw [mups, if_pos h]
theorem leafL_app (b : Int) (m1 m2 : List Nat) (l1 l2 : List (List Int)) (h : m1.length = l1.length) : leafL b (m1 ++ m2) (l1 ++ l2) = leafL b m1 l1 ++ leafL b m2 l2 := by
  unfold leafL
  rw [List.zip_append h, List.map_append]
theorem leafL_length (b : Int) (m : List Nat) (l : List (List Int)) (h : l.length = m.length) : (leafL b m l).length = m.length := by rw [← ks_length, leafL_ks b m l h]
theorem rdB_at {l1 l2 : List (List Int)} {x : List Int} : rd_L1 (l1 ++ x :: l2) (l1.length : Int) = x := by
  unfold rd_L1
  rw [Int.toNat_natCast, List.getD_eq_getElem?_getD, List.getElem?_append_right (Nat.le_refl _), Nat.sub_self]
  rfl
theorem rd_at {m1 m2 : List Nat} {x : Nat} : rd (I (m1 ++ x :: m2)) (m1.length : Int) = (x : Int) := by
  rw [rd_I, List.getD_eq_getElem?_getD, List.getElem?_append_right (Nat.le_refl _), Nat.sub_self]
  rfl
theorem plcs_pos {n : Int} {l : List Int} (h : plcs n l = true) : 0 < l.length := by
  unfold plcs at h
  simp only [Bool.and_eq_true, decide_eq_true_eq] at h
  exact h.2
theorem bad_left {b : Int} (hb : 2 ≤ b ∧ b ≤ 60) {many : Int} {at_ : List Int} {l : List (List Int)} {p : List Int} (h : manyOk b many at_ l) {i : List (List Int)} {r : List Int} {y : Int} (hw : mway b many at_ l p = some (i, r, y)) : i.length ≤ 256 ∧ ((¬ ∀ q ∈ p, okd b q) → r ≠ []) := by
  obtain ⟨h1, h2, h3, h4⟩ := h
  obtain ⟨n, rfl⟩ := Int.eq_ofNat_of_zero_le (by omega : 0 ≤ many)
  obtain ⟨m, rfl, hm⟩ := plcs_nat h2
  unfold mway at hw
  rw [toNat_I, Int.toNat_natCast] at hw
  rw [I_length] at h3
  have hks := leafL_ks b m l h3
  obtain ⟨g1, used, g2, g3⟩ := mups_used hb 16 n (leafL b m l) p _ (by unfold Srt; rw [hks]; exact hm.1) (by rw [hks]; exact hm.2) (leafL_okd hb m l h4) hw (by omega)
  refine ⟨by simp only at g1; omega, fun hbad e => hbad ?_⟩
  simp only at g2
  rw [e, List.append_nil] at g2
  rw [g2]
  exact g3
theorem impl_leafinM {l : List Int} (hl : l.length < 4000) : impl_leafInput.f l = some (0 :: l) := by
  unfold impl_leafInput.f
  rw [Option.bind_some, if_pos (by simp only [List.length_singleton]; omega)]
  rfl
theorem rdB_last (l : List (List Int)) (x : List Int) (hl : l.length ≤ 10000) : rd_L1 (l ++ [x]) (wrap64 (((l ++ [x]).length : Int) - 1)) = x := by
  have e : wrap64 (((l ++ [x]).length : Int) - 1) = (l.length : Int) := by
    rw [List.length_append, List.length_singleton, wr (by omega) (by omega)]
    omega
  rw [e]
  unfold rd_L1
  rw [Int.toNat_natCast, List.getD_eq_getElem?_getD, List.getElem?_append_right (Nat.le_refl _), Nat.sub_self]
  rfl
theorem lastB_le (l : List (List Int)) (x : List Int) (hl : l.length ≤ 10000) : 0 ≤ wrap64 (((l ++ [x]).length : Int) - 1) ∧ wrap64 (((l ++ [x]).length : Int) - 1) < ((l ++ [x]).length : Int) := by
  rw [List.length_append, List.length_singleton, wr (by omega) (by omega)]
  omega
theorem nilB_len (p : List Int) : ((p.length : Int) == 0) = decide (p = []) := by
  cases p with
  | nil => rfl
  | cons x p =>
    rw [decide_eq_false (by simp)]
    simp only [List.length_cons, beq_eq_false_iff_ne]
    omega
/-- The map that holds places with their digests. -/
def mp (L : Pl) : Mp := (L.map fun z => ((z.1 : Int), z.2)).reverse
theorem mp_app (a c : Pl) : mp (a ++ c) = mp c ++ mp a := by simp [mp]
theorem mp_cons (x : Nat) (d : Int) (t : Pl) : mp ((x, d) :: t) = mp t ++ [((x : Int), d)] := by simp [mp]
theorem mp_length (L : Pl) : (mp L).length = L.length := by simp [mp]
theorem mget_app (k : Int) : ∀ A B : Mp, mget (A ++ B) k = if mhas A k = true then mget A k else mget B k
  | [], B => by simp [mhas]
  | (a, v) :: A, B => by
    rw [List.cons_append, mget, mhas, mget]
    by_cases h : a = k
    · simp [h]
    · rw [if_neg h, if_neg h, if_neg h]; exact mget_app k A B
theorem mhas_app (k : Int) : ∀ A B : Mp, mhas (A ++ B) k = (mhas A k || mhas B k)
  | [], B => by simp [mhas]
  | (a, v) :: A, B => by
    rw [List.cons_append, mhas, mhas]
    by_cases h : a = k
    · simp [h]
    · rw [if_neg h, if_neg h]; exact mhas_app k A B
theorem mhas_mp (x : Nat) : ∀ L : Pl, mhas (mp L) (x : Int) = decide (x ∈ ks L)
  | [] => rfl
  | (y, d) :: t => by
    rw [mp_cons, mhas_app, mhas_mp x t, ks_cons]
    by_cases h : x = y
    · subst h; simp [mhas]
    · have h2 : ¬ (y : Int) = (x : Int) := by omega
      simp [mhas, h, h2]
theorem mget_mp {L pre t : Pl} {x : Nat} {d : Int} (hs : Srt L) (hL : L = pre ++ (x, d) :: t) : mget (mp L) (x : Int) = d := by
  subst hL
  have h1 : x ∉ ks t := by
    unfold Srt at hs
    rw [ks_append, ks_cons, List.pairwise_append] at hs
    intro hx
    have := (List.pairwise_cons.1 hs.2.1).1 x hx
    omega
  rw [mp_app, mget_app, mhas_mp, ks_cons, if_pos (by simp), mp_cons, mget_app, mhas_mp, if_neg (by simpa using h1)]
  simp [mget]
theorem look_at {m : Mp} {k : Int} (h0 : 0 ≤ k) (h1 : k ≤ 1000) : fake_mp_look.f m k = some (mget m k, mhas m k) := by unfold fake_mp_look.f; rw [if_pos (wf64 h0 (by omega))]
theorem get_at {m : Mp} {k : Int} (h0 : 0 ≤ k) (h1 : k ≤ 1000) : fake_mp_get.f m k = some (mget m k) := by unfold fake_mp_get.f; rw [if_pos (wf64 h0 (by omega))]
theorem put_at {m : Mp} {k v : Int} (h0 : 0 ≤ k) (h1 : k ≤ 1000) (h2 : 0 ≤ v ∧ v ≤ 9223372036854775807) (h3 : m.length ≤ 1000) : fake_mp_put.f m k v = some ((k, v) :: m) := by unfold fake_mp_put.f; rw [if_pos ⟨wf64 h0 (by omega), wf64 h2.1 h2.2, h3⟩]
theorem ks_at {pre t : Pl} {x : Nat} {d : Int} : rd (I (ks (pre ++ (x, d) :: t))) (pre.length : Int) = (x : Int) := by
  rw [rd_I, ks_append, ks_cons, ← ks_length pre, List.getD_eq_getElem?_getD, List.getElem?_append_right (Nat.le_refl _), Nat.sub_self]
  rfl
/-- What follows a level. -/
def after (b : Int) (many : Int) (n : Nat) (up : List Nat) (out : List (List Int)) (X : Mp) (R : List (List Int) × Bool) : Option (List (List Int) × Pl × List Int) → Prop
  | none => R = ([], false)
  | some u => Ev (fun k => impl_climbMany.l1 k b many (I up) u.2.2 (out ++ u.1) (mp u.2.1 ++ X) (((n + 1) / 2 : Nat) : Int)) R
theorem impl_lev {b : Int} (hb : 2 ≤ b ∧ b ≤ 60) (many : Int) (n : Nat) (h1 : 1 < n) (h16 : n ≤ 16) (L : Pl) (hs : Srt L) (hn : ∀ x ∈ ks L, x < n) (hv : ∀ z ∈ L, okd b z.2) (R : List (List Int) × Bool) (N : Nat) : ∀ (pre suf : Pl) (p : List Int) (out : List (List Int)) (X : Mp), suf.length ≤ N → L = pre ++ suf →
    (∀ a ∈ ks pre, ∀ c ∈ ks suf, a / 2 < c / 2) → (∀ q ∈ p, okd b q) → out.length + suf.length ≤ 1000 → X.length + suf.length ≤ 1000 → after b many n (up1 (ks L)) out X R (lev b n suf p) →
    Ev (fun k => impl_climbMany.l2 k b many (I (ks L)) p out (mp L) (n : Int) X (I (ks L)) ((I (ks L)).length : Int) (pre.length : Int)) R := by
  have hlen := asc_length (asc_of hs hn)
  have hIl := I_length (ks L)
  have hkl := ks_length L
  have e1 : Unit → wrap64 ((n : Int) + 1) = ((n + 1 : Nat) : Int) := fun _ => wr_succ (by omega)
  have e2 : Unit → wrap64 (Int.tdiv ((n + 1 : Nat) : Int) 2) = (((n + 1) / 2 : Nat) : Int) := fun _ => half_nat (n + 1) (by omega)
  induction N with
  | zero =>
    intro pre suf p out X hN hL _ _ _ _ hf
    have : suf = [] := List.length_eq_zero_iff.1 (by omega)
    subst this
    rw [lev_nil] at hf
    have hp : pre.length = L.length := by rw [hL, List.append_nil]
    refine Ev.step (fun k => impl_climbMany.l2.eq_2 ..) (ev_neg (by omega) (ev_pure (above_I _ (fun x hx => by have := hn x hx; omega) (by omega)) ?_))
    rw [(e1 ()), (e2 ())]
    have hf : Ev (fun k => impl_climbMany.l1 k b many (I (up1 (ks L))) p (out ++ []) (mp [] ++ X) (((n + 1) / 2 : Nat) : Int)) R := hf
    rw [List.append_nil] at hf
    exact hf
  | succ N ih =>
    intro pre suf p out X hN hL hsep hp ho hX hf
    rcases pl_cases suf with rfl | ⟨x, d, e, t, rfl, hx⟩ | ⟨x, d, t, rfl, hh⟩
    · exact ih pre [] p out X (Nat.zero_le _) hL hsep hp ho hX hf
    · have hlt : pre.length + 2 ≤ L.length := by rw [hL]; simp only [List.length_append, List.length_cons]; omega
      simp only [List.length_cons] at hN ho hX
      have hsd : Srt ((x, d) :: (x + 1, e) :: t) := by
        have := hs; unfold Srt at this ⊢; rw [hL, ks_append, List.pairwise_append] at this; exact this.2.1
      obtain ⟨g1, g2⟩ := srt_pair hsd hx
      have hx1 : x + 1 < n := hn _ (by rw [hL, ks_append, ks_cons, ks_cons]; simp)
      have hL2 : L = (pre ++ [(x, d)]) ++ (x + 1, e) :: t := by rw [hL]; simp
      have hgx : Unit → mget (mp L) (x : Int) = d := fun _ => mget_mp hs hL
      have hgy : Unit → mget (mp L) ((x + 1 : Nat) : Int) = e := fun _ => mget_mp hs hL2
      have hmx : mhas (mp L) (x : Int) = true := by rw [mhas_mp, hL, ks_append, ks_cons]; simp
      have hmy : mhas (mp L) ((x + 1 : Nat) : Int) = true := by rw [mhas_mp, hL, ks_append, ks_cons, ks_cons]; simp
      have hrx : Unit → rd (I (ks L)) (pre.length : Int) = (x : Int) := fun _ => by rw [hL]; exact ks_at
      have hry : Unit → rd (I (ks L)) ((pre.length + 1 : Nat) : Int) = ((x + 1 : Nat) : Int) := by
        intro _
        have := ks_at (pre := pre ++ [(x, d)]) (x := x + 1) (d := e) (t := t)
        rw [List.length_append, List.length_singleton] at this
        rw [hL2]; exact this
      have hbx : Unit → Go.bits .xor .i64 (x : Int) 1 = ((x + 1 : Nat) : Int) := by
        intro _
        have := xor_one ⟨x, by omega⟩
        have e : beside x = x + 1 := if_pos hx
        rw [e] at this; exact this
      have hby : Unit → Go.bits .xor .i64 ((x + 1 : Nat) : Int) 1 = (x : Int) := by
        intro _
        have := xor_one ⟨x + 1, by omega⟩
        have e : beside (x + 1) = x := if_neg (by omega)
        rw [e] at this; exact this
      have hd : okd b d := hv (x, d) (by rw [hL]; simp)
      have he : okd b e := hv (x + 1, e) (by rw [hL]; simp)
      have hdig := node_okd hb d e
      have hhalf : Unit → wrap64 (Int.tdiv (x : Int) 2) = ((x / 2 : Nat) : Int) := fun _ => half_nat x (by omega)
      have hnext : after b many n (up1 (ks L)) (out ++ [nodeIn d e]) ((((x / 2 : Nat) : Int), Dig.digest b (nodeIn d e)) :: X) R (lev b n t p) := by
        rw [lev_pair b n x d e t p hx] at hf
        generalize lev b n t p = o at hf
        cases o with
        | none => exact hf
        | some u =>
          simp only [Option.map_some, after] at hf ⊢
          rw [mp_cons, List.append_assoc] at hf
          rw [List.append_assoc]
          exact hf
      have h3 := ih (pre ++ [(x, d), (x + 1, e)]) t p (out ++ [nodeIn d e]) ((((x / 2 : Nat) : Int), Dig.digest b (nodeIn d e)) :: X) (by omega) (by rw [hL]; simp) (by
        intro a ha c hc
        rw [ks_append, List.mem_append] at ha
        rcases ha with ha | ha
        · exact hsep a ha c (by rw [ks_cons, ks_cons]; exact List.mem_cons_of_mem _ (List.mem_cons_of_mem _ hc))
        · have := g1 c hc
          simp only [ks, List.map_cons, List.map_nil, List.mem_cons, List.not_mem_nil, or_false] at ha
          rcases ha with rfl | rfl <;> omega) hp (by simp only [List.length_append, List.length_singleton]; omega) (by simp only [List.length_cons]; omega) hnext
      rw [List.length_append] at h3
      have h4 : Ev (fun k => impl_climbMany.l2 k b many (I (ks L)) p (out ++ [nodeIn d e]) (mp L) (n : Int) ((((x / 2 : Nat) : Int), Dig.digest b (nodeIn d e)) :: X) (I (ks L)) ((I (ks L)).length : Int) ((pre.length + 1 : Nat) : Int)) R := by
        refine Ev.step (fun k => impl_climbMany.l2.eq_2 ..) (ev_pos (by omega) (ev_pos (by omega) (ev_pos (by omega) ?_)))
        rw [(hry ()), (hby ()), odd_nat]
        refine ev_pure (look_at (by omega) (by omega)) (ev_neg (by omega) (ev_pos hmx (Ev.step (fun k => impl_climbMany.j4.eq_2 ..) (ev_pos (beq_iff_eq.2 (by omega)) ?_))))
        rw [wr_succ (by omega)]
        exact h3
      refine Ev.step (fun k => impl_climbMany.l2.eq_2 ..) (ev_pos (by omega) (ev_pos (by omega) (ev_pos (by omega) ?_)))
      rw [(hrx ()), (hbx ()), odd_nat]
      refine ev_pure (look_at (by omega) (by omega)) (ev_neg (by omega) (ev_pos hmy (Ev.step (fun k => impl_climbMany.j4.eq_2 ..) (ev_neg (by simp only [beq_iff_eq]; omega) (ev_pos hmy (Ev.step (fun k => impl_climbMany.j5.eq_2 ..) (ev_neg (by decide) (ev_pos hmy (Ev.step (fun k => impl_climbMany.j6.eq_2 ..) (ev_pure (get_at (by omega) (by omega)) ?_))))))))))
      simp only [(hgx ()), (hgy ())]
      rw [odd_nat, (hhalf ())]
      refine ev_neg (by omega) (ev_bind (impl_nodein (okd_le hd).2 (okd_le he).2) (ev_pos (by omega) (ev_some (ev_pos (lastB_le _ _ (by omega)).1 (ev_pos (lastB_le _ _ (by omega)).2 (ev_pure (impl_digest b _) ?_))))))
      rw [rdB_last _ _ (by omega)]
      refine ev_pure (put_at (by omega) (by omega) (okd_le hdig) (by omega)) ?_
      rw [wr_succ (by omega)]
      exact h4
    · have hlt : pre.length + 1 ≤ L.length := by rw [hL]; simp only [List.length_append, List.length_cons]; omega
      simp only [List.length_cons] at hN ho hX
      have hsd : Srt ((x, d) :: t) := by
        have := hs; unfold Srt at this ⊢; rw [hL, ks_append, List.pairwise_append] at this; exact this.2.1
      have g1 := srt_solo hsd hh
      have hxn : x < n := hn _ (by rw [hL, ks_append, ks_cons]; simp)
      have hgx : Unit → mget (mp L) (x : Int) = d := fun _ => mget_mp hs hL
      have hrx : Unit → rd (I (ks L)) (pre.length : Int) = (x : Int) := fun _ => by rw [hL]; exact ks_at
      have hbx : Unit → Go.bits .xor .i64 (x : Int) 1 = ((beside x : Nat) : Int) := fun _ => xor_one ⟨x, by omega⟩
      have hno : beside x ∉ ks L := by
        rw [hL, ks_append, ks_cons, List.mem_append, List.mem_cons]
        intro h
        rcases h with h | h | h
        · have := hsep _ h x (by rw [ks_cons]; exact List.mem_cons_self)
          unfold beside at this; split at this <;> omega
        · unfold beside at h; split at h <;> omega
        · have := g1 _ h
          unfold beside at this; split at this <;> omega
      have hmb : mhas (mp L) ((beside x : Nat) : Int) = false := by rw [mhas_mp]; exact decide_eq_false hno
      have hd : okd b d := hv (x, d) (by rw [hL]; simp)
      have hb16 : beside x ≤ 16 := by unfold beside; split <;> omega
      have hhalf : Unit → wrap64 (Int.tdiv (x : Int) 2) = ((x / 2 : Nat) : Int) := fun _ => half_nat x (by omega)
      rw [lev_solo b n x d t p hh] at hf
      have hstep : ∀ (i : List (List Int)) (v : Int) (p' : List Int), (∀ q ∈ p', okd b q) → i.length ≤ 1 → solo b n x d p = some (i, v, p') → Ev (fun k => impl_climbMany.l2 k b many (I (ks L)) p' (out ++ i) (mp L) (n : Int) ((((x / 2 : Nat) : Int), v) :: X) (I (ks L)) ((I (ks L)).length : Int) ((pre.length + 1 : Nat) : Int)) R := by
        intro i v p' hp' hi hso
        have h3 := ih (pre ++ [(x, d)]) t p' (out ++ i) ((((x / 2 : Nat) : Int), v) :: X) (by omega) (by rw [hL]; simp) (by
          intro a ha c hc
          rw [ks_append, List.mem_append] at ha
          rcases ha with ha | ha
          · exact hsep a ha c (by rw [ks_cons]; exact List.mem_cons_of_mem _ hc)
          · have := g1 c hc
            simp only [ks, List.map_cons, List.map_nil, List.mem_cons, List.not_mem_nil, or_false] at ha
            rw [ha]; exact this) hp' (by simp only [List.length_append]; omega) (by simp only [List.length_cons]; omega) (by
          rw [hso, Option.bind_some] at hf
          generalize lev b n t p' = o at hf
          cases o with
          | none => exact hf
          | some u =>
            simp only [Option.map_some, after] at hf ⊢
            rw [mp_cons, List.append_assoc] at hf
            rw [List.append_assoc]
            exact hf)
        rw [List.length_append, List.length_singleton] at h3
        exact h3
      refine Ev.step (fun k => impl_climbMany.l2.eq_2 ..) (ev_pos (by omega) (ev_pos (by omega) (ev_pos (by omega) ?_)))
      rw [(hrx ()), (hbx ())]
      refine ev_pure (look_at (by omega) (by omega)) ?_
      by_cases hbn : beside x < n
      · refine ev_neg (by omega) (ev_neg (by rw [hmb]; exact Bool.false_ne_true) (Ev.step (fun k => impl_climbMany.j4.eq_2 ..) (ev_neg (by decide) (ev_neg (by rw [hmb]; exact Bool.false_ne_true) (Ev.step (fun k => impl_climbMany.j5.eq_2 ..) ?_)))))
        cases p with
        | nil =>
          have e0 : solo b n x d [] = none := by unfold solo; rw [if_pos hbn]
          rw [e0] at hf
          exact ev_pos rfl (ev_ret (Eq.symm hf))
        | cons q p =>
          have hq : okd b q := hp q List.mem_cons_self
          have e0 : solo b n x d (q :: p) = some ([stepIn x q d], Dig.digest b (stepIn x q d), p) := by unfold solo; rw [if_pos hbn]; simp only [if_pos hq]
          have h4 := hstep _ _ _ (fun r hr => hp r (List.mem_cons_of_mem _ hr)) (Nat.le_refl _) e0
          have hdig := step_okd hb x q d
          refine ev_neg (by rw [nilB_len]; simp) (ev_neg (by rw [hmb]; exact Bool.false_ne_true) (ev_pos (by simp only [List.length_cons]; omega) (ev_pos (by simp only [List.length_cons]; omega) (Ev.step (fun k => impl_climbMany.j6.eq_2 ..) (ev_pure (get_at (by omega) (by omega)) ?_)))))
          have eq0 : rd (q :: p) 0 = q := rfl
          have ed0 : (q :: p).drop 1 = p := rfl
          simp only [(hgx ())]
          rw [eq0, ed0, odd_nat, (hhalf ())]
          by_cases h3 : x % 2 = 1
          · have es : stepIn x q d = nodeIn q d := if_pos h3
            rw [es] at h4 hdig
            refine ev_pos (by omega) (ev_bind (impl_nodein (okd_le hq).2 (okd_le hd).2) (ev_pos (by omega) (ev_some (ev_pos (lastB_le _ _ (by omega)).1 (ev_pos (lastB_le _ _ (by omega)).2 (ev_pure (impl_digest b _) ?_))))))
            rw [rdB_last _ _ (by omega)]
            refine ev_pure (put_at (by omega) (by omega) (okd_le hdig) (by omega)) ?_
            rw [wr_succ (by omega)]
            exact h4
          · have es : stepIn x q d = nodeIn d q := if_neg h3
            rw [es] at h4 hdig
            refine ev_neg (by omega) (ev_bind (impl_nodein (okd_le hd).2 (okd_le hq).2) (ev_pos (by omega) (ev_some (ev_pos (lastB_le _ _ (by omega)).1 (ev_pos (lastB_le _ _ (by omega)).2 (ev_pure (impl_digest b _) ?_))))))
            rw [rdB_last _ _ (by omega)]
            refine ev_pure (put_at (by omega) (by omega) (okd_le hdig) (by omega)) ?_
            rw [wr_succ (by omega)]
            exact h4
      · have e0 : solo b n x d p = some ([], d, p) := by unfold solo; rw [if_neg hbn]
        have h4 := hstep _ _ _ hp (Nat.zero_le _) e0
        rw [List.append_nil] at h4
        refine ev_pos (by omega) (ev_pure (get_at (by omega) (by omega)) ?_)
        rw [(hgx ()), (hhalf ())]
        refine ev_pure (put_at (by omega) (by omega) (okd_le hd) (by omega)) ?_
        rw [wr_succ (by omega)]
        exact h4
/-- What climbMany answers behind its leaves. -/
def endM (many : Nat) (out : List (List Int)) : Option (List (List Int) × List Int × Int) → List (List Int) × Bool
  | none => ([], false)
  | some (i, r, y) => (out ++ (i ++ [topIn many y]), decide (r = []))
theorem endM_some (many : Nat) (out i : List (List Int)) (r : List Int) (y : Int) : endM many out (some (i, r, y)) = (out ++ (i ++ [topIn many y]), decide (r = [])) := rfl
theorem endM_map (many : Nat) (out i : List (List Int)) (o : Option (List (List Int) × List Int × Int)) : endM many out (o.map fun v => (i ++ v.1, v.2)) = endM many (out ++ i) o := by
  cases o with
  | none => rfl
  | some v => obtain ⟨a, r, y⟩ := v; simp [endM]
theorem impl_l1 {b : Int} (hb : 2 ≤ b ∧ b ≤ 60) (many : Nat) (hm : many ≤ 16) (K : Nat) : ∀ (n : Nat) (L : Pl) (p : List Int) (out : List (List Int)), n ≤ K + 1 → 1 ≤ n → n ≤ 16 → Srt L → (∀ x ∈ ks L, x < n) → (∀ z ∈ L, okd b z.2) → L ≠ [] → (∀ q ∈ p, okd b q) → out.length + 16 * K ≤ 500 →
    Ev (fun k => impl_climbMany.l1 k b (many : Int) (I (ks L)) p out (mp L) (n : Int)) (endM many out (mups b (K + 1) n L p)) := by
  have hend : ∀ (L : Pl) (p : List Int) (out : List (List Int)), Srt L → (∀ x ∈ ks L, x < 1) → (∀ z ∈ L, okd b z.2) → L ≠ [] → out.length ≤ 500 → Ev (fun k => impl_climbMany.l1 k b (many : Int) (I (ks L)) p out (mp L) ((1 : Nat) : Int)) (endM many out (some ([], p, top0 L))) := by
    intro L p out hs hn hv h0 ho
    obtain ⟨y, rfl⟩ := one_L hs hn h0
    have hy : okd b y := hv (0, y) List.mem_cons_self
    refine Ev.step (fun k => impl_climbMany.l1.eq_2 ..) (ev_neg (by omega) (ev_pure (get_at (by omega) (by omega)) (ev_bind (impl_topin hm (okd_le hy).2) (ev_pos (by omega) (ev_ret ?_)))))
    rw [endM_some, nilB_len, List.nil_append]
    rfl
  induction K with
  | zero =>
    intro n L p out h1 h2 _ hs hn hv h0 hp ho
    obtain rfl : n = 1 := by omega
    rw [mups_le b 0 1 L p (by omega)]
    exact hend L p out hs hn hv h0 (by omega)
  | succ K ih =>
    intro n L p out h1 h2 h16 hs hn hv h0 hp ho
    by_cases hn1 : 1 < n
    · rw [mups_step b (K + 1) n L p hn1]
      refine Ev.step (fun k => impl_climbMany.l1.eq_2 ..) (ev_pos (by omega) (ev_pure (show fake_mp_new.f = some [] from rfl) ?_))
      have hl := asc_length (asc_of hs hn)
      rw [ks_length] at hl
      refine impl_lev hb (many : Int) n hn1 h16 L hs hn hv _ L.length [] L p out [] (Nat.le_refl _) rfl (fun a ha => by cases ha) hp (by omega) (by simp only [List.length_nil]; omega) ?_
      cases hlev : lev b n L p with
      | none => rfl
      | some u =>
        obtain ⟨g1, g2, g3, g4, g5, used, g6, g7⟩ := lev_next hb hs hn hv hlev
        have h3 := ih ((n + 1) / 2) u.2.1 u.2.2 (out ++ u.1) (by omega) (by omega) (by omega) g2 g3 g4 (lev_some (b := b) (n := n) h0 g1) (fun q hq => hp q (by rw [g6]; exact List.mem_append_right _ hq)) (by rw [List.length_append]; omega)
        simp only [Option.bind_some, after]
        rw [endM_map, ← g1, List.append_nil]
        exact h3
    · obtain rfl : n = 1 := by omega
      rw [mups_le b (K + 1) 1 L p (by omega)]
      exact hend L p out hs hn hv h0 (by omega)
theorem impl_l0 {b : Int} (hb : 2 ≤ b ∧ b ≤ 60) (many : Nat) (m : List Nat) (hm : Asc 16 m) (l : List (List Int)) (hl : l.length = m.length) (hs : ∀ x ∈ l, x.length < 4000) (p : List Int) (R) (hfin : Ev (fun k => impl_climbMany.l1 k b (many : Int) (I m) p (l.map fun x => 0 :: x) (mp (leafL b m l)) (many : Int)) R) :
    ∀ (l2 l1 : List (List Int)) (m1 m2 : List Nat), l = l1 ++ l2 → m = m1 ++ m2 → m1.length = l1.length → Ev (fun k => impl_climbMany.l0 k b (many : Int) (I m) p (l1.map fun x => 0 :: x) (mp (leafL b m1 l1)) l (l.length : Int) (l1.length : Int)) R
  | [], l1, m1, m2, h1, h2, h3 => by
    have hl1 : l = l1 := by rw [h1, List.append_nil]
    have hm1 : m2 = [] := by
      have e1 := congrArg List.length h2
      have e2 := congrArg List.length hl1
      rw [List.length_append] at e1
      exact List.length_eq_zero_iff.1 (by omega)
    have hm2 : m = m1 := by rw [h2, hm1, List.append_nil]
    refine Ev.step (fun k => impl_climbMany.l0.eq_2 ..) (ev_neg (by rw [← hl1]; omega) ?_)
    rw [← hl1, ← hm2]
    exact hfin
  | x :: l2, l1, m1, m2, h1, h2, h3 => by
    have e1 := congrArg List.length h1
    have e2 := congrArg List.length h2
    have e3 := asc_length hm
    simp only [List.length_append, List.length_cons] at e1 e2
    match m2, h2, e2 with
    | [], _, e2 => simp only [List.length_nil] at e2; omega
    | y :: m2, h2, e2 =>
      have ih := impl_l0 hb many m hm l hl hs p R hfin l2 (l1 ++ [x]) (m1 ++ [y]) m2 (by rw [h1]; simp) (by rw [h2]; simp) (by simp [h3])
      have hx : x.length < 4000 := hs x (by rw [h1]; simp)
      have hy : y < 16 := hm.2 y (by rw [h2]; simp)
      have hdig : okd b (Dig.digest b (0 :: x)) := ⟨hb, Dig.digest_range hb.1 hb.2 (by simp only [List.length_cons]; omega)⟩
      have hrx : Unit → rd_L1 l (l1.length : Int) = x := fun _ => by rw [h1]; exact rdB_at
      have hry : Unit → rd (I m) (l1.length : Int) = (y : Int) := fun _ => by rw [h2, ← h3]; exact rd_at
      have hro : Unit → rd_L1 (l1.map (fun x => 0 :: x) ++ [0 :: x]) (l1.length : Int) = 0 :: x := fun _ => by
        have := rdB_at (l1 := l1.map fun x => 0 :: x) (x := 0 :: x) (l2 := [])
        rw [List.length_map] at this
        exact this
      have hIl := I_length m
      simp only [List.length_cons] at e2
      refine Ev.step (fun k => impl_climbMany.l0.eq_2 ..) (ev_pos (by omega) (ev_pos (by omega) (ev_pos (by omega) ?_)))
      rw [hrx ()]
      refine ev_pure (impl_leafinM hx) (ev_pos (by rw [List.length_map]; omega) (ev_some (ev_pos (by omega) (ev_pos (by simp only [List.length_append, List.length_map, List.length_singleton]; omega) ?_))))
      rw [hro (), hry (), wr_succ (by omega)]
      refine ev_pure (impl_digest b _) (ev_pure (put_at (by omega) (by omega) (okd_le hdig) (by rw [mp_length, leafL_length b m1 l1 h3.symm]; omega)) ?_)
      rw [List.map_append, leafL_app b m1 [y] l1 [x] h3, mp_app, List.length_append] at ih
      exact ih
theorem impl_leavesM (b : Int) (l : List (List Int)) : impl_leavesOk.f b l = some (decide ((2 ≤ b ∧ b ≤ 60) ∧ 1 ≤ l.length ∧ l.length ≤ 16) && l.all fun x => decide (x.length < 4000)) := rfl
theorem impl_digsM (b : Int) (l : List Int) : impl_digests.f b l = some (decide (∀ x ∈ l, okd b x)) := by
  unfold impl_digests.f
  rw [if_pos (List.all_eq_true.2 fun x _ => by rw [impl_isdig]; rfl)]
  congr 1
  rw [Bool.eq_iff_iff, List.all_eq_true]
  simp only [impl_isdig, Option.getD_some, decide_eq_true_eq]
theorem impl_climbM (b many : Int) (at_ : List Int) (l : List (List Int)) (p : List Int) (ha : at_.length ≤ 1048576) : Ev (fun k => impl_climbMany.f k b many at_ l p) (climbedM b many at_ l p) := by
  unfold impl_climbMany.f
  have hno : ∀ a : Bool, a = true → ¬ (manyOk b many at_ l ∧ ∀ q ∈ p, okd b q) → Ev (fun k => impl_climbMany.j0 k b many at_ l p a) (climbedM b many at_ l p) := by
    intro a ha h
    subst ha
    unfold climbedM
    rw [if_neg h]
    exact Ev.step (fun k => impl_climbMany.j0.eq_2 ..) (ev_pos rfl (ev_ret rfl))
  refine ev_pure (impl_in_eq _ _ _) ?_
  by_cases h1 : 1 ≤ many ∧ many ≤ 16
  · refine ev_pos (decide_eq_true h1) (ev_bind (impl_plc many ⟨by omega, by omega⟩ at_ ha) ?_)
    by_cases h2 : plcs many at_ = true
    · refine ev_pos h2 ?_
      by_cases h3 : l.length = at_.length
      · refine ev_pos (by omega) (ev_pure (impl_leavesM b l) ?_)
        obtain ⟨n, rfl⟩ := Int.eq_ofNat_of_zero_le (by omega : 0 ≤ many)
        obtain ⟨m, rfl, hm⟩ := plcs_nat h2
        have hml := asc_length hm
        have hm16 : Asc 16 m := ⟨hm.1, fun x hx => by have := hm.2 x hx; omega⟩
        have hpos := plcs_pos h2
        rw [I_length] at h3 hpos
        by_cases h4 : (2 ≤ b ∧ b ≤ 60) ∧ ∀ x ∈ l, x.length < 4000
        · refine ev_pos ?_ (ev_pure (impl_digsM b p) ?_)
          · simp only [Bool.and_eq_true, decide_eq_true_eq, List.all_eq_true]
            exact ⟨⟨h4.1, by omega, by omega⟩, h4.2⟩
          · by_cases h5 : ∀ q ∈ p, okd b q
            · have hu : manyOk b (n : Int) (I m) l ∧ ∀ q ∈ p, okd b q := ⟨⟨⟨h4.1, h1⟩, h2, by rw [I_length]; exact h3, h4.2⟩, h5⟩
              refine Ev.step (fun k => impl_climbMany.j0.eq_2 ..) (ev_neg (by simp; exact h5) (ev_pure (show fake_mp_new.f = some [] from rfl) ?_))
              unfold climbedM mway
              rw [if_pos hu, toNat_I, Int.toNat_natCast]
              have hks := leafL_ks b m l h3
              have hs : Srt (leafL b m l) := by unfold Srt; rw [hks]; exact hm.1
              have hr := impl_l1 h4.1 n (by omega) 15 n (leafL b m l) p (l.map fun x => 0 :: x) (by omega) (by omega) (by omega) hs (by rw [hks]; exact hm.2) (leafL_okd h4.1 m l h4.2) (by intro e; rw [e] at hks; rw [← hks] at hpos; exact absurd hpos (by decide)) h5 (by rw [List.length_map]; omega)
              rw [hks] at hr
              refine impl_l0 h4.1 n m hm16 l h3 h4.2 p _ (ev_eq hr ?_) l [] [] m rfl rfl rfl
              generalize mups b (15 + 1) n (leafL b m l) p = o
              cases o with
              | none => rfl
              | some o => obtain ⟨i, r, y⟩ := o; rfl
            · exact hno _ (by simp only [decide_eq_false h5]; rfl) (fun h => h5 h.2)
        · refine ev_neg ?_ (hno _ rfl (fun h => h4 ⟨h.1.1.1, h.1.2.2.2⟩))
          simp only [Bool.and_eq_true, decide_eq_true_eq, List.all_eq_true]
          exact fun h => h4 ⟨h.1.1, h.2⟩
      · exact ev_neg (by omega) (hno _ rfl (fun h => h3 h.1.2.2.1))
    · exact ev_neg h2 (hno _ rfl (fun h => h2 h.1.2.1))
  · exact ev_neg (by simp only [decide_eq_true_eq]; exact h1) (hno _ rfl (fun h => h1 h.1.1.2))
theorem impl_lastofM (b many : Int) (at_ : List Int) (l : List (List Int)) (p : List Int) (hl : l.length ≤ 1048576) : impl_lastOf.f b (climbedM b many at_ l p).1 (climbedM b many at_ l p).2 = some (manyFrom b many at_ l p) := by
  unfold climbedM manyFrom impl_lastOf.f
  by_cases hu : manyOk b many at_ l
  · have hb := hu.1.1
    have hbl := fun i r y => @bad_left b hb many at_ l p hu i r y
    have hl16 : l.length ≤ 16 := by
      obtain ⟨h1, h2, h3, h4⟩ := hu
      obtain ⟨n, rfl⟩ := Int.eq_ofNat_of_zero_le (by omega : 0 ≤ many)
      obtain ⟨m, rfl, hm⟩ := plcs_nat h2
      have := asc_length hm
      rw [I_length] at h3
      omega
    rw [if_pos hu]
    generalize mway b many at_ l p = o at hbl
    by_cases h5 : ∀ q ∈ p, okd b q
    · have hc : manyOk b many at_ l ∧ ∀ q ∈ p, okd b q := ⟨hu, h5⟩
      rw [if_pos hc]
      cases o with
      | none => rfl
      | some o =>
        obtain ⟨i, r, y⟩ := o
        have hi := (hbl i r y rfl).1
        simp only []
        by_cases hr : r = []
        · have e1 := rdB_last (l.map (fun x => 0 :: x) ++ i) (topIn many.toNat y) (by simp only [List.length_append, List.length_map]; omega)
          have e2 := lastB_le (l.map (fun x => 0 :: x) ++ i) (topIn many.toNat y) (by simp only [List.length_append, List.length_map]; omega)
          rw [List.append_assoc] at e1 e2
          rw [if_pos (decide_eq_true hr), if_pos e2.1, if_pos e2.2, e1, impl_digest, if_pos hr]
          rfl
        · rw [if_neg (by simp [hr]), if_neg hr]
    · have hc : ¬ (manyOk b many at_ l ∧ ∀ q ∈ p, okd b q) := fun h => h5 h.2
      rw [if_neg hc]
      cases o with
      | none => rfl
      | some o =>
        obtain ⟨i, r, y⟩ := o
        have hi := (hbl i r y rfl).2 h5
        simp only []
        rw [if_neg hi]
        rfl
  · have hc : ¬ (manyOk b many at_ l ∧ ∀ q ∈ p, okd b q) := fun h => hu h.1
    rw [if_neg hu, if_neg hc]
    rfl
theorem impl_manyfrom (b many : Int) (at_ : List Int) (l : List (List Int)) (p : List Int) (ha : at_.length ≤ 1048576) (hl : l.length ≤ 1048576) : Ev (fun k => impl_ManyFrom.f k b many at_ l p) (manyFrom b many at_ l p) := by
  unfold impl_ManyFrom.f
  exact ev_bind (impl_climbM b many at_ l p ha) (ev_pure (impl_lastofM b many at_ l p hl) (ev_ret rfl))
theorem has_hit {m : List Nat} (hm : m.length ≤ 1000) (x : Nat) (B : List Nat) : ∀ (A pre : List Nat), m = pre ++ (A ++ x :: B) → x ∉ A → Ev (fun k => spec_l2Has.l0 k (I m) (x : Int) (pre.length : Int)) ((pre.length + A.length : Nat) : Int)
  | [], pre, h, _ => by
    have hl := I_length m
    have e := congrArg List.length h
    simp only [List.length_append, List.length_cons, List.length_nil] at e
    have hr : Unit → rd (I m) (pre.length : Int) = (x : Int) := fun _ => by
      rw [h, rd_I, List.getD_eq_getElem?_getD, List.getElem?_append_right (Nat.le_refl _), Nat.sub_self]; rfl
    exact Ev.step (fun k => spec_l2Has.l0.eq_2 ..) (ev_pos (by omega) (ev_pos (by omega) (ev_pos (hr ()) (ev_ret rfl))))
  | y :: A, pre, h, hx => by
    have hl := I_length m
    have e := congrArg List.length h
    simp only [List.length_append, List.length_cons] at e
    have hr : Unit → rd (I m) (pre.length : Int) = (y : Int) := fun _ => by
      rw [h, rd_I, List.getD_eq_getElem?_getD, List.getElem?_append_right (Nat.le_refl _), Nat.sub_self]; rfl
    have hyx : ¬ (y : Int) = (x : Int) := fun e => hx (by have := Int.ofNat.inj e; subst this; exact List.mem_cons_self)
    have ih := has_hit hm x B A (pre ++ [y]) (by rw [h]; simp) (fun hh => hx (List.mem_cons_of_mem _ hh))
    rw [List.length_append, List.length_singleton] at ih
    refine Ev.step (fun k => spec_l2Has.l0.eq_2 ..) (ev_pos (by omega) (ev_pos (by omega) (ev_neg (by rw [hr ()]; exact hyx) ?_)))
    rw [wr_succ (by omega), List.length_cons, show pre.length + (A.length + 1) = pre.length + 1 + A.length by omega]
    exact ih
theorem has_miss {m : List Nat} (hm : m.length ≤ 1000) (x : Nat) : ∀ (A pre : List Nat), m = pre ++ A → x ∉ A → Ev (fun k => spec_l2Has.l0 k (I m) (x : Int) (pre.length : Int)) (-1)
  | [], pre, h, _ => by
    have hl := I_length m
    have e := congrArg List.length h
    simp only [List.length_append, List.length_nil] at e
    exact Ev.step (fun k => spec_l2Has.l0.eq_2 ..) (ev_neg (by omega) (ev_ret rfl))
  | y :: A, pre, h, hx => by
    have hl := I_length m
    have e := congrArg List.length h
    simp only [List.length_append, List.length_cons] at e
    have hr : Unit → rd (I m) (pre.length : Int) = (y : Int) := fun _ => by
      rw [h, rd_I, List.getD_eq_getElem?_getD, List.getElem?_append_right (Nat.le_refl _), Nat.sub_self]; rfl
    have hyx : ¬ (y : Int) = (x : Int) := fun e => hx (by have := Int.ofNat.inj e; subst this; exact List.mem_cons_self)
    have ih := has_miss hm x A (pre ++ [y]) (by rw [h]; simp) (fun hh => hx (List.mem_cons_of_mem _ hh))
    rw [List.length_append, List.length_singleton] at ih
    refine Ev.step (fun k => spec_l2Has.l0.eq_2 ..) (ev_pos (by omega) (ev_pos (by omega) (ev_neg (by rw [hr ()]; exact hyx) ?_)))
    rw [wr_succ (by omega)]
    exact ih
theorem spec_hit {m : List Nat} (hm : m.length ≤ 1000) (x : Nat) (A B : List Nat) (h : m = A ++ x :: B) (hx : x ∉ A) : Ev (fun k => spec_l2Has.f k (I m) (x : Int)) (A.length : Int) := by
  have := has_hit hm x B A [] h hx
  rw [List.length_nil, Nat.zero_add] at this
  unfold spec_l2Has.f
  exact this
theorem spec_miss {m : List Nat} (hm : m.length ≤ 1000) (x : Nat) (hx : x ∉ m) : Ev (fun k => spec_l2Has.f k (I m) (x : Int)) (-1) := by
  unfold spec_l2Has.f
  exact has_miss hm x m [] rfl hx
/-- The digests alone. -/
def vs (L : Pl) : List Int := L.map Prod.snd
theorem vs_cons (x : Nat) (d : Int) (t : Pl) : vs ((x, d) :: t) = d :: vs t := rfl
theorem vs_length (L : Pl) : (vs L).length = L.length := List.length_map _
theorem vs_at {pre t : Pl} {x : Nat} {d : Int} : rd (vs (pre ++ (x, d) :: t)) (pre.length : Int) = d := by
  unfold vs
  rw [rd_nat, List.map_append, List.getD_eq_getElem?_getD, List.getElem?_append_right (by rw [List.length_map]; exact Nat.le_refl _), List.length_map, Nat.sub_self]
  rfl
/-- What l2Up answers. -/
def upEnd (nx : List Nat) (ys : List Int) (R : List Int × List Int × List Int × Bool) : Option (List (List Int) × Pl × List Int) → Prop
  | none => R.2.2.2 = false
  | some u => R = (I (nx ++ ks u.2.1), ys ++ vs u.2.1, u.2.2, true)
theorem spec_up {b : Int} (n : Nat) (h16 : n ≤ 16) (L : Pl) (hs : Srt L) (hn : ∀ x ∈ ks L, x < n) (hv : ∀ z ∈ L, okd b z.2) (r : Nat) : ∀ (q : Nat) (pre suf : Pl) (p : List Int) (nx : List Nat) (ys : List Int), q + r = (n + 1) / 2 → L = pre ++ suf →
    (∀ a ∈ ks pre, a < 2 * q) → (∀ c ∈ ks suf, 2 * q ≤ c) → nx.length ≤ q → ys.length ≤ q →
    ∃ R, Ev (fun k => spec_l2Up.l0 k b (n : Int) (I (ks L)) (vs L) p (I nx) ys (2 * (q : Int))) R ∧ upEnd nx ys R (lev b n suf p) := by
  have hlen := asc_length (asc_of hs hn)
  have hkl := ks_length L
  have hvl := vs_length L
  induction r with
  | zero =>
    intro q pre suf p nx ys hq hL hpre hsuf hnx hys
    have : suf = [] := by
      match suf, hsuf with
      | [], _ => rfl
      | (x, d) :: t, hsuf =>
        have h1 := hsuf x (by rw [ks_cons]; exact List.mem_cons_self)
        have h2 := hn x (by rw [hL, ks_append, ks_cons]; simp)
        omega
    subst this
    refine ⟨_, Ev.step (fun k => spec_l2Up.l0.eq_2 ..) (ev_neg (by omega) (ev_ret rfl)), ?_⟩
    rw [lev_nil]
    simp [upEnd, ks, vs]
  | succ r ih =>
    intro q pre suf p nx ys hq hL hpre hsuf hnx hys
    have hnl := I_length nx
    have e0 : 2 * (q : Int) = ((2 * q : Nat) : Int) := by omega
    have e1 : Unit → wrap64 (((2 * q : Nat) : Int) + 1) = ((2 * q + 1 : Nat) : Int) := fun _ => wr_succ (by omega)
    have e2 : Unit → wrap64 (((2 * q : Nat) : Int) + 2) = 2 * ((q + 1 : Nat) : Int) := fun _ => by rw [wr (by omega) (by omega)]; omega
    have eh : Unit → wrap64 (Int.tdiv ((2 * q : Nat) : Int) 2) = (q : Int) := fun _ => by rw [half_nat (2 * q) (by omega)]; omega
    have h2n : ((2 * q : Nat) : Int) < (n : Int) := by omega
    rw [e0]
    have hkp : ∀ x, x ∈ ks pre → x < 2 * q := hpre
    rcases pl_cases suf with rfl | ⟨x, d, e, t, rfl, hx⟩ | ⟨x, d, t, rfl, hh⟩
    · -- nothing is left
      have hLp : L = pre := by rw [hL, List.append_nil]
      obtain ⟨R, hR, hE⟩ := ih (q + 1) pre [] p nx ys (by omega) hL (fun a ha => by have := hpre a ha; omega) (fun c hc => by cases hc) (by omega) (by omega)
      have m1 := spec_miss (m := ks L) (by omega) (2 * q) (by rw [hLp]; exact fun h => by have := hpre _ h; omega)
      have m2 := spec_miss (m := ks L) (by omega) (2 * q + 1) (by rw [hLp]; exact fun h => by have := hpre _ h; omega)
      refine ⟨R, Ev.step (fun k => spec_l2Up.l0.eq_2 ..) (ev_pos h2n ?_), hE⟩
      rw [e1 ()]
      refine ev_bind m1 (ev_bind m2 (ev_pos (by decide) (Ev.step (fun k => spec_l2Up.j1.eq_2 ..) (ev_pos (by decide) ?_))))
      rw [e2 ()]
      exact hR
    · have hsd : Srt ((x, d) :: (x + 1, e) :: t) := by
        have := hs; unfold Srt at this ⊢; rw [hL, ks_append, List.pairwise_append] at this; exact this.2.1
      obtain ⟨g1, g2⟩ := srt_pair hsd hx
      have hxq := hsuf x (by rw [ks_cons]; exact List.mem_cons_self)
      have hlt : pre.length + 2 ≤ L.length := by rw [hL]; simp only [List.length_append, List.length_cons]; omega
      by_cases hxe : x = 2 * q
      · subst hxe
        have hd : okd b d := hv (2 * q, d) (by rw [hL]; simp)
        have he : okd b e := hv (2 * q + 1, e) (by rw [hL]; simp)
        have hx1 : 2 * q + 1 < n := hn _ (by rw [hL, ks_append, ks_cons, ks_cons]; simp)
        have hL2 : L = (pre ++ [(2 * q, d)]) ++ (2 * q + 1, e) :: t := by rw [hL]; simp
        have m1 := spec_hit (m := ks L) (by omega) (2 * q) (ks pre) (ks ((2 * q + 1, e) :: t)) (by rw [hL, ks_append, ks_cons]) (fun h => by have := hpre _ h; omega)
        have m2 := spec_hit (m := ks L) (by omega) (2 * q + 1) (ks (pre ++ [(2 * q, d)])) (ks t) (by rw [hL2, ks_append, ks_cons]) (fun h => by
          rw [ks_append, List.mem_append] at h
          rcases h with h | h
          · have := hpre _ h; omega
          · simp only [ks, List.map_cons, List.map_nil, List.mem_singleton] at h; omega)
        rw [ks_length] at m1
        rw [ks_length, List.length_append, List.length_singleton] at m2
        have r1 : Unit → rd (vs L) (pre.length : Int) = d := fun _ => by rw [hL]; exact vs_at
        have r2 : Unit → rd (vs L) ((pre.length + 1 : Nat) : Int) = e := fun _ => by
          have := vs_at (pre := pre ++ [(2 * q, d)]) (x := 2 * q + 1) (d := e) (t := t)
          rw [List.length_append, List.length_singleton] at this
          rw [hL2]; exact this
        have hnode : Unit → node b d e = Dig.digest b (nodeIn d e) := fun _ => if_pos ⟨hd, he⟩
        obtain ⟨R, hR, hE⟩ := ih (q + 1) (pre ++ [(2 * q, d), (2 * q + 1, e)]) t p (nx ++ [q]) (ys ++ [Dig.digest b (nodeIn d e)]) (by omega) (by rw [hL]; simp) (fun a ha => by
          rw [ks_append, List.mem_append] at ha
          rcases ha with ha | ha
          · have := hpre a ha; omega
          · simp only [ks, List.map_cons, List.map_nil, List.mem_cons, List.not_mem_nil, or_false] at ha
            rcases ha with rfl | rfl <;> omega) (fun c hc => by have := g1 c hc; omega) (by rw [List.length_append, List.length_singleton]; omega) (by rw [List.length_append, List.length_singleton]; omega)
        refine ⟨R, Ev.step (fun k => spec_l2Up.l0.eq_2 ..) (ev_pos h2n ?_), ?_⟩
        · rw [e1 ()]
          refine ev_bind m1 (ev_bind m2 (ev_neg (by omega) (Ev.step (fun k => spec_l2Up.j1.eq_2 ..) (ev_neg (by decide) (ev_pos (by omega) (ev_some ?_))))))
          rw [e1 (), eh (), I_snoc]
          refine ev_neg (by omega) (ev_neg (by omega) (Ev.step (fun k => spec_l2Up.j2.eq_2 ..) (ev_neg (by rw [decide_eq_false (by omega)]; decide) (Ev.step (fun k => spec_l2Up.j3.eq_2 ..) (ev_pos (by omega) (ev_pos (by omega) (ev_pos (by omega) (ev_pos (by omega) (ev_pos (by omega) (ev_pos (by omega) ?_))))))))))
          rw [r1 (), r2 (), e2 ()]
          refine ev_bind (spec_node b d e) (ev_pos (by omega) ?_)
          rw [hnode ()]
          exact hR
        · rw [lev_pair b n (2 * q) d e t p (by omega)]
          generalize lev b n t p = o at hE
          cases o with
          | none => exact hE
          | some u =>
            simp only [Option.map_some, upEnd] at hE ⊢
            rw [hE, ks_cons, vs_cons, show 2 * q / 2 = q by omega]
            simp
      · have hxo : 2 * q + 2 ≤ x := by omega
        have hmem : ∀ z, z ∈ ks ((x, d) :: (x + 1, e) :: t) → 2 * q + 2 ≤ z := by
          intro z hz
          rw [ks_cons] at hz
          rcases List.mem_cons.1 hz with rfl | hz
          · exact hxo
          · have := (srt_cons hsd).1 z hz; omega
        obtain ⟨R, hR, hE⟩ := ih (q + 1) pre _ p nx ys (by omega) hL (fun a ha => by have := hpre a ha; omega) (fun c hc => by have := hmem c hc; omega) (by omega) (by omega)
        have hno : ∀ z, z < 2 * q + 2 → 2 * q ≤ z → z ∉ ks L := by
          intro z h1 h2 h3
          rw [hL, ks_append, List.mem_append] at h3
          rcases h3 with h3 | h3
          · have := hpre z h3; omega
          · have := hmem z h3; omega
        have m1 := spec_miss (m := ks L) (by omega) (2 * q) (hno _ (by omega) (by omega))
        have m2 := spec_miss (m := ks L) (by omega) (2 * q + 1) (hno _ (by omega) (by omega))
        refine ⟨R, Ev.step (fun k => spec_l2Up.l0.eq_2 ..) (ev_pos h2n ?_), hE⟩
        rw [e1 ()]
        refine ev_bind m1 (ev_bind m2 (ev_pos (by decide) (Ev.step (fun k => spec_l2Up.j1.eq_2 ..) (ev_pos (by decide) ?_))))
        rw [e2 ()]
        exact hR
    · have hsd : Srt ((x, d) :: t) := by
        have := hs; unfold Srt at this ⊢; rw [hL, ks_append, List.pairwise_append] at this; exact this.2.1
      have g1 := srt_solo hsd hh
      have hxq := hsuf x (by rw [ks_cons]; exact List.mem_cons_self)
      have hxn : x < n := hn _ (by rw [hL, ks_append, ks_cons]; simp)
      have hd : okd b d := hv (x, d) (by rw [hL]; simp)
      have hlt : pre.length + 1 ≤ L.length := by rw [hL]; simp only [List.length_append, List.length_cons]; omega
      have r1 : Unit → rd (vs L) (pre.length : Int) = d := fun _ => by rw [hL]; exact vs_at
      by_cases hxe : x / 2 = q
      · have hother : ∀ z, z ≠ x → 2 * q ≤ z → z < 2 * q + 2 → z ∉ ks L := by
          intro z h1 h2 h3 h4
          rw [hL, ks_append, ks_cons, List.mem_append, List.mem_cons] at h4
          rcases h4 with h4 | h4 | h4
          · have := hpre z h4; omega
          · exact h1 h4
          · have := g1 z h4; omega
        have mx := spec_hit (m := ks L) (by omega) x (ks pre) (ks t) (by rw [hL, ks_append, ks_cons]) (fun h => by have := hpre _ h; omega)
        rw [ks_length] at mx
        have hnext : ∀ (i : List (List Int)) (v : Int) (p' : List Int), solo b n x d p = some (i, v, p') → ∃ R, Ev (fun k => spec_l2Up.l0 k b (n : Int) (I (ks L)) (vs L) p' (I (nx ++ [q])) (ys ++ [v]) (2 * ((q + 1 : Nat) : Int))) R ∧ upEnd nx ys R (lev b n ((x, d) :: t) p) := by
          intro i v p' hso
          obtain ⟨R, hR, hE⟩ := ih (q + 1) (pre ++ [(x, d)]) t p' (nx ++ [q]) (ys ++ [v]) (by omega) (by rw [hL]; simp) (fun a ha => by
            rw [ks_append, List.mem_append] at ha
            rcases ha with ha | ha
            · have := hpre a ha; omega
            · simp only [ks, List.map_cons, List.map_nil, List.mem_singleton] at ha; omega) (fun c hc => by have := g1 c hc; omega) (by rw [List.length_append, List.length_singleton]; omega) (by rw [List.length_append, List.length_singleton]; omega)
          refine ⟨R, hR, ?_⟩
          rw [lev_solo b n x d t p hh, hso, Option.bind_some]
          simp only
          generalize lev b n t p' = o at hE
          cases o with
          | none => exact hE
          | some u =>
            simp only [Option.map_some, upEnd] at hE ⊢
            rw [hE, ks_cons, vs_cons, hxe]
            simp
        have hcan : ∀ q' p', p = q' :: p' → okd b q' → beside x < n → solo b n x d p = some ([stepIn x q' d], Dig.digest b (stepIn x q' d), p') := by
          intro q' p' e h1 h2
          subst e
          unfold solo
          rw [if_pos h2]
          simp only [if_pos h1]
        have hcant : beside x < n → (∀ q' p', p = q' :: p' → ¬ okd b q') → ∀ R : List Int × List Int × List Int × Bool, R.2.2.2 = false → upEnd nx ys R (lev b n ((x, d) :: t) p) := by
          intro h1 h2 R hR
          have : solo b n x d p = none := by
            unfold solo
            rw [if_pos h1]
            match p, h2 with
            | [], _ => rfl
            | q' :: p', h2 => simp only [if_neg (h2 q' p' rfl)]
          rw [lev_solo b n x d t p hh, this]
          exact hR
        by_cases hxev : x % 2 = 0
        · have hx2 : x = 2 * q := by omega
          subst hx2
          have m2 := spec_miss (m := ks L) (by omega) (2 * q + 1) (hother _ (by omega) (by omega) (by omega))
          have hbes : beside (2 * q) = 2 * q + 1 := if_pos hxev
          rw [hbes] at hcan hcant
          have est : ∀ q', stepIn (2 * q) q' d = nodeIn d q' := fun q' => if_neg (by omega)
          by_cases hl : 2 * q + 1 = n
          · obtain ⟨R, hR, hE⟩ := hnext [] d p (by unfold solo; rw [if_neg (by rw [hbes]; omega)])
            refine ⟨R, Ev.step (fun k => spec_l2Up.l0.eq_2 ..) (ev_pos h2n ?_), hE⟩
            rw [e1 ()]
            refine ev_bind mx (ev_bind m2 (ev_neg (by omega) (Ev.step (fun k => spec_l2Up.j1.eq_2 ..) (ev_neg (by decide) (ev_pos (by omega) (ev_some ?_))))))
            rw [e1 (), eh (), I_snoc, r1 (), e2 ()]
            exact ev_pos (by omega) (ev_pos (by omega) (ev_pos (by omega) (ev_pos (by omega) hR)))
          · have hb1 : 2 * q + 1 < n := by omega
            have hgo : ∀ R, Ev (fun k => spec_l2Up.j2 k b (n : Int) (I (ks L)) (vs L) p (I (nx ++ [q])) ys ((2 * q : Nat) : Int) (pre.length : Int) (-1) 0 true) R → Ev (fun k => spec_l2Up.l0 k b (n : Int) (I (ks L)) (vs L) p (I nx) ys ((2 * q : Nat) : Int)) R := by
              intro R hR
              refine Ev.step (fun k => spec_l2Up.l0.eq_2 ..) (ev_pos h2n ?_)
              rw [e1 ()]
              refine ev_bind mx (ev_bind m2 (ev_neg (by omega) (Ev.step (fun k => spec_l2Up.j1.eq_2 ..) (ev_neg (by decide) (ev_pos (by omega) (ev_some ?_))))))
              rw [e1 (), eh (), I_snoc]
              exact ev_neg (by omega) (ev_neg (by omega) hR)
            match p, hcan, hcant, hnext, hgo with
            | [], hcan, hcant, hnext, hgo =>
              exact ⟨_, hgo _ (Ev.step (fun k => spec_l2Up.j2.eq_2 ..) (ev_pos rfl (ev_pos rfl (ev_ret rfl)))), hcant hb1 (fun _ _ e => by cases e) _ rfl⟩
            | q' :: p', hcan, hcant, hnext, hgo =>
              have eq0 : rd (q' :: p') 0 = q' := rfl
              have ed0 : (q' :: p').drop 1 = p' := rfl
              by_cases hq : okd b q'
              · obtain ⟨R, hR, hE⟩ := hnext _ _ _ (hcan q' p' rfl hq hb1)
                have hnode : Unit → node b d q' = Dig.digest b (nodeIn d q') := fun _ => if_pos ⟨hd, hq⟩
                refine ⟨R, hgo R (Ev.step (fun k => spec_l2Up.j2.eq_2 ..) (ev_pos rfl (ev_neg (by simp only [List.length_cons]; omega) (ev_pos (by simp only [List.length_cons]; omega) ?_)))), hE⟩
                rw [eq0, ed0]
                refine ev_pure (spec_isdig b q') (ev_pos (decide_eq_true hq) (ev_pos (by simp only [List.length_cons]; omega) (Ev.step (fun k => spec_l2Up.j3.eq_2 ..) (ev_pos (by omega) (ev_pos (by omega) (ev_pos (by omega) (ev_neg (by decide) ?_)))))))
                rw [r1 (), e2 ()]
                refine ev_bind (spec_node b d q') (ev_pos (by omega) ?_)
                rw [hnode ()]
                rw [est q'] at hR
                exact hR
              · refine ⟨_, hgo _ (Ev.step (fun k => spec_l2Up.j2.eq_2 ..) (ev_pos rfl (ev_neg (by simp only [List.length_cons]; omega) (ev_pos (by simp only [List.length_cons]; omega) (ev_pure (spec_isdig b _) (ev_neg ?_ (ev_ret rfl))))))), hcant hb1 (fun _ _ e => by cases e; exact hq) _ rfl⟩
                rw [eq0]
                simp [hq]
        · have hx2 : x = 2 * q + 1 := by omega
          subst hx2
          have m2 := spec_miss (m := ks L) (by omega) (2 * q) (hother _ (by omega) (by omega) (by omega))
          have hbes : beside (2 * q + 1) = 2 * q := if_neg hxev
          rw [hbes] at hcan hcant
          have hb1 : 2 * q < n := by omega
          have est : ∀ q', stepIn (2 * q + 1) q' d = nodeIn q' d := fun q' => if_pos (by omega)
          have hgo : ∀ R, Ev (fun k => spec_l2Up.j2 k b (n : Int) (I (ks L)) (vs L) p (I (nx ++ [q])) ys ((2 * q : Nat) : Int) (-1) (pre.length : Int) 0 true) R → Ev (fun k => spec_l2Up.l0 k b (n : Int) (I (ks L)) (vs L) p (I nx) ys ((2 * q : Nat) : Int)) R := by
            intro R hR
            refine Ev.step (fun k => spec_l2Up.l0.eq_2 ..) (ev_pos h2n ?_)
            rw [e1 ()]
            refine ev_bind m2 (ev_bind mx (ev_pos (by decide) (Ev.step (fun k => spec_l2Up.j1.eq_2 ..) (ev_neg (by rw [decide_eq_false (by omega)]; decide) (ev_pos (by omega) (ev_some ?_))))))
            rw [e1 (), eh (), I_snoc]
            exact ev_neg (by omega) (ev_pos (by decide) hR)
          match p, hcan, hcant, hnext, hgo with
          | [], hcan, hcant, hnext, hgo =>
            exact ⟨_, hgo _ (Ev.step (fun k => spec_l2Up.j2.eq_2 ..) (ev_pos rfl (ev_pos rfl (ev_ret rfl)))), hcant hb1 (fun _ _ e => by cases e) _ rfl⟩
          | q' :: p', hcan, hcant, hnext, hgo =>
            have eq0 : rd (q' :: p') 0 = q' := rfl
            have ed0 : (q' :: p').drop 1 = p' := rfl
            by_cases hq : okd b q'
            · obtain ⟨R, hR, hE⟩ := hnext _ _ _ (hcan q' p' rfl hq hb1)
              have hnode : Unit → node b q' d = Dig.digest b (nodeIn q' d) := fun _ => if_pos ⟨hq, hd⟩
              refine ⟨R, hgo R (Ev.step (fun k => spec_l2Up.j2.eq_2 ..) (ev_pos rfl (ev_neg (by simp only [List.length_cons]; omega) (ev_pos (by simp only [List.length_cons]; omega) ?_)))), hE⟩
              rw [eq0, ed0]
              refine ev_pure (spec_isdig b q') (ev_pos (decide_eq_true hq) (ev_pos (by simp only [List.length_cons]; omega) (Ev.step (fun k => spec_l2Up.j3.eq_2 ..) (ev_neg (by decide) (ev_pos (by omega) (ev_pos (by omega) (ev_pos (by omega) ?_)))))))
              rw [r1 (), e2 ()]
              refine ev_bind (spec_node b q' d) (ev_pos (by omega) ?_)
              rw [hnode ()]
              rw [est q'] at hR
              exact hR
            · refine ⟨_, hgo _ (Ev.step (fun k => spec_l2Up.j2.eq_2 ..) (ev_pos rfl (ev_neg (by simp only [List.length_cons]; omega) (ev_pos (by simp only [List.length_cons]; omega) (ev_pure (spec_isdig b _) (ev_neg ?_ (ev_ret rfl))))))), hcant hb1 (fun _ _ e => by cases e; exact hq) _ rfl⟩
              rw [eq0]
              simp [hq]
      · have hxo : 2 * q + 2 ≤ x := by omega
        have hmem : ∀ z, z ∈ ks ((x, d) :: t) → 2 * q + 2 ≤ z := by
          intro z hz
          rw [ks_cons] at hz
          rcases List.mem_cons.1 hz with rfl | hz
          · exact hxo
          · have := (srt_cons hsd).1 z hz; omega
        obtain ⟨R, hR, hE⟩ := ih (q + 1) pre _ p nx ys (by omega) hL (fun a ha => by have := hpre a ha; omega) (fun c hc => by have := hmem c hc; omega) (by omega) (by omega)
        have hno : ∀ z, z < 2 * q + 2 → 2 * q ≤ z → z ∉ ks L := by
          intro z h1 h2 h3
          rw [hL, ks_append, List.mem_append] at h3
          rcases h3 with h3 | h3
          · have := hpre z h3; omega
          · have := hmem z h3; omega
        have m1 := spec_miss (m := ks L) (by omega) (2 * q) (hno _ (by omega) (by omega))
        have m2 := spec_miss (m := ks L) (by omega) (2 * q + 1) (hno _ (by omega) (by omega))
        refine ⟨R, Ev.step (fun k => spec_l2Up.l0.eq_2 ..) (ev_pos h2n ?_), hE⟩
        rw [e1 ()]
        refine ev_bind m1 (ev_bind m2 (ev_pos (by decide) (Ev.step (fun k => spec_l2Up.j1.eq_2 ..) (ev_pos (by decide) ?_))))
        rw [e2 ()]
        exact hR
/-- What the reference answers behind a way up. -/
def endS (b : Int) (many : Nat) : Option (List (List Int) × List Int × Int) → Int
  | none => -1
  | some (_, r, y) => if r = [] then Dig.digest b (topIn many y) else -1
theorem endS_map (b : Int) (many : Nat) (i : List (List Int)) (o : Option (List (List Int) × List Int × Int)) : endS b many (o.map fun v => (i ++ v.1, v.2)) = endS b many o := by
  cases o with
  | none => rfl
  | some v => obtain ⟨a, r, y⟩ := v; rfl
theorem spec_many_l1 {b : Int} (hb : 2 ≤ b ∧ b ≤ 60) (many : Nat) (hm : many ≤ 16) (K : Nat) : ∀ (n : Nat) (L : Pl) (p : List Int), n ≤ K + 1 → 1 ≤ n → n ≤ 16 → Srt L → (∀ x ∈ ks L, x < n) → (∀ z ∈ L, okd b z.2) → L ≠ [] →
    Ev (fun k => spec_ManyFrom.l1 k b (many : Int) (I (ks L)) p (vs L) (n : Int)) (endS b many (mups b (K + 1) n L p)) := by
  have hend : ∀ (L : Pl) (p : List Int), Srt L → (∀ x ∈ ks L, x < 1) → (∀ z ∈ L, okd b z.2) → L ≠ [] → Ev (fun k => spec_ManyFrom.l1 k b (many : Int) (I (ks L)) p (vs L) ((1 : Nat) : Int)) (endS b many (some ([], p, top0 L))) := by
    intro L p hs hn hv h0
    obtain ⟨y, rfl⟩ := one_L hs hn h0
    have hy : okd b y := hv (0, y) List.mem_cons_self
    refine Ev.step (fun k => spec_ManyFrom.l1.eq_2 ..) (ev_neg (by omega) ?_)
    unfold endS
    simp only
    by_cases hp : p = []
    · subst hp
      rw [if_pos rfl]
      exact ev_pos rfl (ev_pos (by simp [vs]) (ev_bind (spec_topin hm (okd_le hy).2) (ev_bind (spec_digest b _) (ev_ret rfl))))
    · rw [if_neg hp]
      exact ev_neg (by have := List.length_pos_iff.2 hp; omega) (ev_ret rfl)
  induction K with
  | zero =>
    intro n L p h1 h2 _ hs hn hv h0
    obtain rfl : n = 1 := by omega
    rw [mups_le b 0 1 L p (by omega)]
    exact hend L p hs hn hv h0
  | succ K ih =>
    intro n L p h1 h2 h16 hs hn hv h0
    by_cases hn1 : 1 < n
    · rw [mups_step b (K + 1) n L p hn1]
      have e1 : Unit → wrap64 ((n : Int) + 1) = ((n + 1 : Nat) : Int) := fun _ => wr_succ (by omega)
      have e2 : Unit → wrap64 (Int.tdiv ((n + 1 : Nat) : Int) 2) = (((n + 1) / 2 : Nat) : Int) := fun _ => half_nat (n + 1) (by omega)
      obtain ⟨R, hR, hE⟩ := spec_up (b := b) n h16 L hs hn hv ((n + 1) / 2) 0 [] L p [] [] (Nat.zero_add _) rfl (fun a ha => by cases ha) (fun _ _ => by omega) (Nat.zero_le _) (Nat.zero_le _)
      have hf : Ev (fun k => spec_l2Up.f k b (n : Int) (I (ks L)) (vs L) p) R := by unfold spec_l2Up.f; exact hR
      refine Ev.step (fun k => spec_ManyFrom.l1.eq_2 ..) (ev_pos (by omega) (ev_bind hf ?_))
      rw [e1 (), e2 ()]
      cases hlev : lev b n L p with
      | none =>
        rw [hlev] at hE
        exact ev_neg (by rw [show R.2.2.2 = false from hE]; exact Bool.false_ne_true) (ev_ret rfl)
      | some u =>
        rw [hlev] at hE
        have hE : R = (I ([] ++ ks u.2.1), [] ++ vs u.2.1, u.2.2, true) := hE
        obtain ⟨g1, g2, g3, g4, g5, used, g6, g7⟩ := lev_next hb hs hn hv hlev
        have h3 := ih ((n + 1) / 2) u.2.1 u.2.2 (by omega) (by omega) (by omega) g2 g3 g4 (lev_some (b := b) (n := n) h0 g1)
        subst hE
        simp only [Option.bind_some]
        rw [endS_map]
        exact ev_pos trivial h3
    · obtain rfl : n = 1 := by omega
      rw [mups_le b (K + 1) 1 L p (by omega)]
      exact hend L p hs hn hv h0
theorem spec_many_l0 {b : Int} (hb : 2 ≤ b ∧ b ≤ 60) (many : Nat) (m : List Nat) (hm : Asc 16 m) (l : List (List Int)) (hl : l.length = m.length) (p : List Int) (R : Int) (hbad : (¬ ∀ x ∈ l, x.length < 4000) → R = -1) (hfin : (∀ x ∈ l, x.length < 4000) → Ev (fun k => spec_ManyFrom.l1 k b (many : Int) (I m) p (vs (leafL b m l)) (many : Int)) R) :
    ∀ (l2 l1 : List (List Int)) (m1 m2 : List Nat), l = l1 ++ l2 → m = m1 ++ m2 → m1.length = l1.length → (∀ x ∈ l1, x.length < 4000) → Ev (fun k => spec_ManyFrom.l0 k b (many : Int) (I m) l p (vs (leafL b m1 l1)) (l1.length : Int)) R
  | [], l1, m1, m2, h1, h2, h3, h4 => by
    have hl1 : l = l1 := by rw [h1, List.append_nil]
    have hm1 : m2 = [] := by
      have e1 := congrArg List.length h2
      have e2 := congrArg List.length hl1
      rw [List.length_append] at e1
      exact List.length_eq_zero_iff.1 (by omega)
    have hm2 : m = m1 := by rw [h2, hm1, List.append_nil]
    have hfin := hfin (by rw [hl1]; exact h4)
    refine Ev.step (fun k => spec_ManyFrom.l0.eq_2 ..) (ev_neg (by rw [← hl1]; omega) ?_)
    rw [← hl1, ← hm2]
    exact hfin
  | x :: l2, l1, m1, m2, h1, h2, h3, h4 => by
    have e1 := congrArg List.length h1
    have e2 := congrArg List.length h2
    have e3 := asc_length hm
    simp only [List.length_append, List.length_cons] at e1 e2
    match m2, h2, e2 with
    | [], _, e2 => simp only [List.length_nil] at e2; omega
    | y :: m2, h2, e2 =>
      have hrx : Unit → rd_L1 l (l1.length : Int) = x := fun _ => by rw [h1]; exact rdB_at
      have hvl : (vs (leafL b m1 l1)).length = m1.length := by rw [vs_length, leafL_length b m1 l1 h3.symm]
      simp only [List.length_cons] at e2
      refine Ev.step (fun k => spec_ManyFrom.l0.eq_2 ..) (ev_pos (by omega) (ev_pos (by omega) ?_))
      rw [hrx ()]
      by_cases hx : x.length < 4000
      · have ih := spec_many_l0 hb many m hm l hl p R hbad hfin l2 (l1 ++ [x]) (m1 ++ [y]) m2 (by rw [h1]; simp) (by rw [h2]; simp) (by simp [h3]) (fun z hz => by
          rcases List.mem_append.1 hz with hz | hz
          · exact h4 z hz
          · rw [List.mem_singleton] at hz; subst hz; exact hx)
        rw [leafL_app b m1 [y] l1 [x] h3, List.length_append] at ih
        refine ev_neg (by omega) (ev_bind (spec_leaf b (by omega)) (ev_pos (by omega) ?_))
        rw [wr_succ (by omega)]
        have e : vs (leafL b m1 l1 ++ leafL b [y] [x]) = vs (leafL b m1 l1) ++ [Dig.digest b (0 :: x)] := List.map_append
        rw [e] at ih
        exact ih
      · rw [hbad (fun h => hx (h x (by rw [h1]; simp)))]
        exact ev_pos (by omega) (ev_ret rfl)
theorem spec_manyfrom (b many : Int) (at_ : List Int) (l : List (List Int)) (p : List Int) (ha : at_.length ≤ 1048576) (hl : l.length ≤ 1048576) : Ev (fun k => spec_ManyFrom.f k b many at_ l p) (manyFrom b many at_ l p) := by
  unfold spec_ManyFrom.f
  have hno : ∀ a : Bool, a = true → ¬ manyOk b many at_ l → Ev (fun k => spec_ManyFrom.j0 k b many at_ l p a) (manyFrom b many at_ l p) := by
    intro a ha h
    subst ha
    unfold manyFrom
    rw [if_neg h]
    exact Ev.step (fun k => spec_ManyFrom.j0.eq_2 ..) (ev_pos rfl (ev_ret rfl))
  refine ev_pure (spec_in_eq _ _ _) ?_
  by_cases hb : 2 ≤ b ∧ b ≤ 60
  · refine ev_pos (decide_eq_true hb) (ev_pure (spec_in_eq _ _ _) ?_)
    by_cases h1 : 1 ≤ many ∧ many ≤ 16
    · refine ev_pos (decide_eq_true h1) (ev_bind (spec_plc many ⟨by omega, by omega⟩ at_ ha) ?_)
      by_cases h2 : plcs many at_ = true
      · refine ev_pos h2 ?_
        by_cases h3 : l.length = at_.length
        · obtain ⟨n, rfl⟩ := Int.eq_ofNat_of_zero_le (by omega : 0 ≤ many)
          obtain ⟨m, rfl, hm⟩ := plcs_nat h2
          have hml := asc_length hm
          have hm16 : Asc 16 m := ⟨hm.1, fun x hx => by have := hm.2 x hx; omega⟩
          have hpos := plcs_pos h2
          have h3' := h3
          rw [I_length] at h3' hpos
          have hks := leafL_ks b m l h3'
          refine Ev.step (fun k => spec_ManyFrom.j0.eq_2 ..) (ev_neg (by rw [bne_iff_ne]; exact fun h => h (by omega)) ?_)
          refine spec_many_l0 hb n m hm16 l h3' p _ (fun hbad => ?_) (fun hs => ?_) l [] [] m rfl rfl rfl (fun z hz => (by cases hz))
          · unfold manyFrom
            exact if_neg (fun h => hbad h.2.2.2)
          · have hu : manyOk b (n : Int) (I m) l := ⟨⟨hb, h1⟩, h2, h3, hs⟩
            have hsr : Srt (leafL b m l) := by unfold Srt; rw [hks]; exact hm.1
            have hr := spec_many_l1 hb n (by omega) 15 n (leafL b m l) p (by omega) (by omega) (by omega) hsr (by rw [hks]; exact hm.2) (leafL_okd hb m l hs) (by intro e; rw [e] at hks; rw [← hks] at hpos; exact absurd hpos (by decide))
            rw [hks] at hr
            refine ev_eq hr ?_
            unfold manyFrom mway
            rw [if_pos hu, toNat_I, Int.toNat_natCast]
            generalize mups b (15 + 1) n (leafL b m l) p = o
            cases o with
            | none => rfl
            | some o => obtain ⟨i, r, y⟩ := o; rfl
        · exact hno _ (by rw [bne_iff_ne]; omega) (fun h => h3 h.2.2.1)
      · exact ev_neg h2 (hno _ rfl (fun h => h2 h.2.1))
    · exact ev_neg (by simp only [decide_eq_true_eq]; exact h1) (hno _ rfl (fun h => h1 h.1.2))
  · exact ev_neg (by simp only [decide_eq_true_eq]; exact hb) (hno _ rfl (fun h => hb h.1.1))
theorem manyFrom_ge (b many : Int) (at_ : List Int) (l : List (List Int)) (p : List Int) : -1 ≤ manyFrom b many at_ l p := by
  unfold manyFrom
  by_cases h : manyOk b many at_ l
  · rw [if_pos h]
    generalize mway b many at_ l p = o
    cases o with
    | none => exact Int.le_refl _
    | some o =>
      obtain ⟨i, r, y⟩ := o
      simp only
      split
      · have := Dig.digest_range h.1.1.1 h.1.1.2 (l := topIn many.toNat y) (by have := topIn_le many.toNat y; omega)
        exact Int.le_trans (by decide) this.1
      · exact Int.le_refl _
  · rw [if_neg h]
    exact Int.le_refl _
/-- ManyProven's answer. -/
def manyProven (b root many : Int) (at_ : List Int) (l : List (List Int)) (p : List Int) : Bool := decide (0 ≤ manyFrom b many at_ l p ∧ manyFrom b many at_ l p = root)
theorem impl_manyproven (b root many : Int) (at_ : List Int) (l : List (List Int)) (p : List Int) (ha : at_.length ≤ 1048576) (hl : l.length ≤ 1048576) : Ev (fun k => impl_ManyProven.f k b root many at_ l p) (manyProven b root many at_ l p) := by
  have hg := manyFrom_ge b many at_ l p
  have hi := impl_manyfrom b many at_ l p ha hl
  unfold impl_ManyProven.f manyProven
  generalize manyFrom b many at_ l p = x at hg hi
  by_cases h0 : root = -1
  · exact ev_pos h0 (ev_ret (decide_eq_false (by omega)).symm)
  · exact ev_neg h0 (ev_bind hi (ev_ret (by rw [Bool.eq_iff_iff]; simp only [beq_iff_eq, decide_eq_true_eq]; omega)))
theorem spec_manyproven (b root many : Int) (at_ : List Int) (l : List (List Int)) (p : List Int) (ha : at_.length ≤ 1048576) (hl : l.length ≤ 1048576) : Ev (fun k => spec_ManyProven.f k b root many at_ l p) (manyProven b root many at_ l p) := by
  have hs := spec_manyfrom b many at_ l p ha hl
  unfold spec_ManyProven.f manyProven
  generalize manyFrom b many at_ l p = x at hs
  refine ev_bind hs ?_
  by_cases h0 : x ≥ 0
  · exact ev_pos h0 (ev_ret (by rw [Bool.eq_iff_iff]; simp only [beq_iff_eq, decide_eq_true_eq]; omega))
  · exact ev_neg h0 (ev_ret (decide_eq_false (by omega)).symm)
theorem beside_add (a : Nat) : beside (a + 2) = beside a + 2 := by
  unfold beside
  by_cases h : a % 2 = 0
  · rw [if_pos h, if_pos (by omega)]
  · rw [if_neg h, if_neg (by omega)]
    omega
/-- A level's number is the digest of the two below, or the one below that is alone. -/
theorem abv_getD {b : Int} : ∀ (l : List Int) (a : Nat), a < l.length → (∀ x ∈ l, okd b x) → (abv b l).getD (a / 2) 0 = if beside a < l.length then Dig.digest b (stepIn a (l.getD (beside a) 0) (l.getD a 0)) else l.getD a 0
  | [], a, h, _ => absurd h (Nat.not_lt_zero _)
  | [x], a, h, _ => by
    have : a = 0 := by simp only [List.length_singleton] at h; omega
    subst this
    rfl
  | x :: y :: l, a, h, ho => by
    have hn : node b x y = Dig.digest b (nodeIn x y) := by
      unfold node
      rw [if_pos ⟨ho x (by simp), ho y (by simp)⟩]
    match a, h with
    | 0, _ =>
      rw [if_pos (by simp [beside])]
      exact hn
    | 1, _ =>
      rw [if_pos (by simp [beside])]
      exact hn
    | a + 2, h =>
      have hi := abv_getD l a (by simp only [List.length_cons] at h; omega) (fun z hz => ho z (by simp [hz]))
      have e1 : (a + 2) / 2 = a / 2 + 1 := by omega
      have e2 : stepIn (a + 2) ((x :: y :: l).getD (beside (a + 2)) 0) ((x :: y :: l).getD (a + 2) 0) = stepIn a (l.getD (beside a) 0) (l.getD a 0) := by
        rw [beside_add]
        unfold stepIn
        rw [show (a + 2) % 2 = a % 2 by omega]
        rfl
      rw [e1, e2, beside_add]
      show (abv b l).getD (a / 2) 0 = if beside a + 2 < l.length + 1 + 1 then _ else l.getD a 0
      rw [hi]
      by_cases h3 : beside a < l.length
      · rw [if_pos h3, if_pos (by omega)]
      · rw [if_neg h3, if_neg (by omega)]
theorem beside_ne (a : Nat) : beside a ≠ a := by
  unfold beside
  split <;> omega
theorem strs_map (l : List Int) : (strOfNums l).toList = l.map (fun n => UInt8.ofNat n.toNat) := ByteArray.toList_mk _
/-- As the two programs compare two texts. -/
def same (p q : List Int) : Bool := (strOfNums p).toList == (strOfNums q).toList
theorem same_imp (p : List Int) : ∀ q : List Int, (∀ x ∈ p, 0 ≤ x ∧ x < 256) → (∀ x ∈ q, 0 ≤ x ∧ x < 256) → same p q = true → p = q := by
  induction p with
  | nil =>
    intro q _ _ h
    cases q with
    | nil => rfl
    | cons y q => simp [same, strs_map] at h
  | cons x p ih =>
    intro q hp hq h
    cases q with
    | nil => simp [same, strs_map] at h
    | cons y q =>
      unfold same at h
      rw [strs_map, strs_map, List.map_cons, List.map_cons, beq_iff_eq, List.cons.injEq] at h
      obtain ⟨h1, h2⟩ := h
      have hx := hp x List.mem_cons_self
      have hy := hq y List.mem_cons_self
      have e : x.toNat = y.toNat := by
        have := congrArg UInt8.toNat h1
        simp only [UInt8.toNat_ofNat'] at this
        omega
      have exy : x = y := by omega
      subst exy
      rw [ih q (fun z hz => hp z (List.mem_cons_of_mem _ hz)) (fun z hz => hq z (List.mem_cons_of_mem _ hz)) (by unfold same; rw [strs_map, strs_map, beq_iff_eq]; exact h2)]
/-- The last of the first so many places where two lists of texts are unlike. -/
def lastU (p q : List (List Int)) : Nat → List Int × List Int × Bool
  | 0 => ([], [], false)
  | n + 1 => if same (p.getD n []) (q.getD n []) = true then lastU p q n else (p.getD n [], q.getD n [], true)
theorem impl_lastu_l0 (p q : List (List Int)) (hp : ∀ x ∈ p, x.length ≤ 1048576) (hq : ∀ x ∈ q, x.length ≤ 1048576) (hl : q.length = p.length) (n : Nat) (hn : n ≤ p.length) (hm : p.length ≤ 1000) : Ev (fun k => impl_lastUnlike.l0 k p q ((n : Int) - 1)) (lastU p q n) := by
  induction n with
  | zero => exact Ev.step (fun k => impl_lastUnlike.l0.eq_2 ..) (ev_neg (by omega) (ev_ret rfl))
  | succ n ih =>
    have e : ((n + 1 : Nat) : Int) - 1 = (n : Int) := by omega
    have e2 : wrap64 ((n : Int) - 1) = (n : Int) - 1 := wr (by omega) (by omega)
    have ep : rd_L1 p (n : Int) = p.getD n [] := by unfold rd_L1; rw [Int.toNat_natCast]
    have eq : rd_L1 q (n : Int) = q.getD n [] := by unfold rd_L1; rw [Int.toNat_natCast]
    have h1 : (p.getD n []).length ≤ 1048576 := by
      rw [List.getD_eq_getElem?_getD, List.getElem?_eq_getElem (by omega)]
      exact hp _ (List.getElem_mem _)
    have h2 : (q.getD n []).length ≤ 1048576 := by
      rw [List.getD_eq_getElem?_getD, List.getElem?_eq_getElem (by omega)]
      exact hq _ (List.getElem_mem _)
    rw [e]
    refine Ev.step (fun k => impl_lastUnlike.l0.eq_2 ..) (ev_pos (by omega) (ev_pos (by omega) (ev_pos (by omega) (ev_pos (by omega) ?_))))
    rw [ep, eq, e2]
    unfold lastU
    refine ev_pure (a := same (p.getD n []) (q.getD n [])) rfl ?_
    by_cases h : same (p.getD n []) (q.getD n []) = true
    · rw [if_pos h]
      exact ev_pos h (ih (by omega))
    · rw [if_neg h]
      refine ev_neg h (ev_pure (a := (p.getD n [], q.getD n [])) ?_ (ev_ret rfl))
      unfold impl_pairOf.f bytes_Clone.f
      rw [if_pos (by omega), if_pos (by omega)]
      rfl
theorem stepM_le (a : Nat) (q x : Int) : (stepIn a q x).length ≤ 17 := by
  by_cases h : a % 2 = 1
  · have e : stepIn a q x = nodeIn q x := if_pos h
    rw [e]
    exact nodeIn_le _ _
  · have e : stepIn a q x = nodeIn x q := if_neg h
    rw [e]
    exact nodeIn_le _ _
theorem solo_rows {b : Int} {n x : Nat} {d : Int} {p : List Int} {s} (h : solo b n x d p = some s) : ∀ z ∈ s.1, z.length ≤ 17 := by
  unfold solo at h
  split at h
  · match p, h with
    | q :: p, h =>
      simp only at h
      split at h
      · cases h
        intro z hz
        rw [List.mem_singleton] at hz
        subst hz
        exact stepM_le _ _ _
      · cases h
  · cases h
    intro z hz
    cases hz
theorem solo_same {b : Int} {n x : Nat} {d d' : Int} {p : List Int} {s s'} (h : solo b n x d p = some s) (h' : solo b n x d' p = some s') : s.1.length = s'.1.length ∧ s.2.2 = s'.2.2 := by
  unfold solo at h h'
  split at h
  · rename_i hb
    rw [if_pos hb] at h'
    match p, h, h' with
    | q :: p, h, h' =>
      simp only at h h'
      split at h
      · rename_i hq
        rw [if_pos hq] at h'
        cases h
        cases h'
        exact ⟨rfl, rfl⟩
      · cases h
  · rename_i hb
    rw [if_neg hb] at h'
    cases h
    cases h'
    exact ⟨rfl, rfl⟩
theorem lev_rows {b : Int} (n N : Nat) : ∀ (L : Pl) (p : List Int) (u), L.length ≤ N → lev b n L p = some u → ∀ z ∈ u.1, z.length ≤ 17 := by
  induction N with
  | zero =>
    intro L p u hN h
    have : L = [] := List.length_eq_zero_iff.1 (by omega)
    subst this
    rw [lev_nil] at h
    cases h
    intro z hz
    cases hz
  | succ N ih =>
    intro L p u hN h
    rcases pl_cases L with rfl | ⟨x, d, e, t, rfl, hx⟩ | ⟨x, d, t, rfl, hh⟩
    · rw [lev_nil] at h
      cases h
      intro z hz
      cases hz
    · rw [lev_pair b n x d e t p hx] at h
      obtain ⟨u', h', rfl⟩ := Option.map_eq_some_iff.1 h
      simp only [List.length_cons] at hN
      intro z hz
      rcases List.mem_cons.1 hz with rfl | hz
      · exact nodeIn_le _ _
      · exact ih t p u' (by omega) h' z hz
    · rw [lev_solo b n x d t p hh] at h
      obtain ⟨s, hs', h⟩ := Option.bind_eq_some_iff.1 h
      obtain ⟨u', h', rfl⟩ := Option.map_eq_some_iff.1 h
      simp only [List.length_cons] at hN
      intro z hz
      rcases List.mem_append.1 hz with hz | hz
      · exact solo_rows hs' z hz
      · exact ih t s.2.2 u' (by omega) h' z hz
theorem lev_same {b : Int} (n N : Nat) : ∀ (L L' : Pl) (p : List Int) (u u'), L.length ≤ N → ks L = ks L' → lev b n L p = some u → lev b n L' p = some u' → u.1.length = u'.1.length ∧ u.2.2 = u'.2.2 ∧ ks u.2.1 = ks u'.2.1 := by
  induction N with
  | zero =>
    intro L L' p u u' hN hk h h'
    have : L = [] := List.length_eq_zero_iff.1 (by omega)
    subst this
    have : L' = [] := by
      match L', hk with
      | [], _ => rfl
    subst this
    rw [lev_nil] at h h'
    cases h
    cases h'
    exact ⟨rfl, rfl, rfl⟩
  | succ N ih =>
    intro L L' p u u' hN hk h h'
    rcases pl_cases L with rfl | ⟨x, d, e, t, rfl, hx⟩ | ⟨x, d, t, rfl, hh⟩
    · have : L' = [] := by
        match L', hk with
        | [], _ => rfl
      subst this
      rw [lev_nil] at h h'
      cases h
      cases h'
      exact ⟨rfl, rfl, rfl⟩
    · match L', hk with
      | (x', d') :: (y', e') :: t', hk =>
        rw [ks_cons, ks_cons, ks_cons, ks_cons] at hk
        injection hk with k1 hk
        injection hk with k2 k3
        subst k1
        subst k2
        rw [lev_pair b n x d e t p hx] at h
        rw [lev_pair b n x d' e' t' p hx] at h'
        obtain ⟨v, hv, rfl⟩ := Option.map_eq_some_iff.1 h
        obtain ⟨v', hv', rfl⟩ := Option.map_eq_some_iff.1 h'
        simp only [List.length_cons] at hN
        obtain ⟨i1, i2, i3⟩ := ih t t' p v v' (by omega) k3 hv hv'
        exact ⟨by simp only [List.length_cons, i1], i2, by rw [ks_cons, ks_cons, i3]⟩
    · match L', hk with
      | (x', d') :: t', hk =>
        rw [ks_cons, ks_cons] at hk
        injection hk with k1 k2
        subst k1
        have hh' : ∀ z ∈ t'.head?, ¬ (x % 2 = 0 ∧ z.1 = x + 1) := by
          intro z hz
          match t, t', k2, hh, hz with
          | (y, e) :: t, (y', e') :: t', k2, hh, hz =>
            cases hz
            rw [ks_cons, ks_cons] at k2
            injection k2 with k4 _
            have := hh (y, e) rfl
            rw [← k4]
            exact this
          | _, [], _, _, hz => cases hz
          | [], (y', e') :: t', k2, _, _ => cases k2
        rw [lev_solo b n x d t p hh] at h
        rw [lev_solo b n x d' t' p hh'] at h'
        obtain ⟨s, hs, h⟩ := Option.bind_eq_some_iff.1 h
        obtain ⟨s', hs', h'⟩ := Option.bind_eq_some_iff.1 h'
        obtain ⟨v, hv, rfl⟩ := Option.map_eq_some_iff.1 h
        obtain ⟨v', hv', rfl⟩ := Option.map_eq_some_iff.1 h'
        obtain ⟨j1, j2⟩ := solo_same hs hs'
        rw [← j2] at hv'
        simp only [List.length_cons] at hN
        obtain ⟨i1, i2, i3⟩ := ih t t' s.2.2 v v' (by omega) k2 hv hv'
        exact ⟨by simp only [List.length_append, i1, j1], i2, by rw [ks_cons, ks_cons, i3]⟩
theorem mups_rows {b : Int} (k : Nat) : ∀ (n : Nat) (L : Pl) (p : List Int) (v), mups b k n L p = some v → ∀ z ∈ v.1, z.length ≤ 17 := by
  induction k with
  | zero => intro n L p v h; unfold mups at h; cases h; intro z hz; cases hz
  | succ k ih =>
    intro n L p v h
    unfold mups at h
    split at h
    · obtain ⟨u, hu, h⟩ := Option.bind_eq_some_iff.1 h
      obtain ⟨w, hw, rfl⟩ := Option.map_eq_some_iff.1 h
      intro z hz
      rcases List.mem_append.1 hz with hz | hz
      · exact lev_rows n L.length L p u (Nat.le_refl _) hu z hz
      · exact ih _ _ _ _ hw z hz
    · cases h
      intro z hz
      cases hz
theorem mups_same {b : Int} (k : Nat) : ∀ (n : Nat) (L L' : Pl) (p : List Int) (v v'), ks L = ks L' → mups b k n L p = some v → mups b k n L' p = some v' → v.1.length = v'.1.length := by
  induction k with
  | zero => intro n L L' p v v' _ h h'; unfold mups at h h'; cases h; cases h'; rfl
  | succ k ih =>
    intro n L L' p v v' hk h h'
    unfold mups at h h'
    split at h
    · rename_i hn
      rw [if_pos hn] at h'
      obtain ⟨u, hu, h⟩ := Option.bind_eq_some_iff.1 h
      obtain ⟨w, hw, rfl⟩ := Option.map_eq_some_iff.1 h
      obtain ⟨u', hu', h'⟩ := Option.bind_eq_some_iff.1 h'
      obtain ⟨w', hw', rfl⟩ := Option.map_eq_some_iff.1 h'
      obtain ⟨i1, i2, i3⟩ := lev_same n L.length L L' p u u' (Nat.le_refl _) hk hu hu'
      rw [← i2] at hw'
      have := ih _ _ _ _ _ _ i3 hw hw'
      simp only [List.length_append, i1, this]
    · rename_i hn
      rw [if_neg hn] at h'
      cases h
      cases h'
      rfl
theorem manyOk_len {b many : Int} {at_ : List Int} {l : List (List Int)} (h : manyOk b many at_ l) : l.length ≤ 16 := by
  obtain ⟨h1, h2, h3, h4⟩ := h
  obtain ⟨n, rfl⟩ := Int.eq_ofNat_of_zero_le (by omega : 0 ≤ many)
  obtain ⟨m, rfl, hm⟩ := plcs_nat h2
  have := asc_length hm
  rw [I_length] at h3
  omega
theorem climbedM_facts (b many : Int) (at_ : List Int) (l : List (List Int)) (p : List Int) :
    ((climbedM b many at_ l p).1.length ≤ 300 ∧ ∀ z ∈ (climbedM b many at_ l p).1, z.length ≤ 4000) ∧ (((climbedM b many at_ l p).2 = true ∧ 0 ≤ manyFrom b many at_ l p) ∨ ((climbedM b many at_ l p).2 = false ∧ manyFrom b many at_ l p = -1)) := by
  unfold climbedM manyFrom
  by_cases hu : manyOk b many at_ l
  · have hb := hu.1.1
    have hbl := fun i r y => @bad_left b hb many at_ l p hu i r y
    have hl := manyOk_len hu
    have hrow := fun v => @mups_rows b 16 many.toNat (leafL b (at_.map Int.toNat) l) p v
    rw [if_pos hu]
    change ∀ v, mway b many at_ l p = some v → _ at hrow
    generalize mway b many at_ l p = o at hbl hrow
    by_cases h5 : ∀ q ∈ p, okd b q
    · have hc : manyOk b many at_ l ∧ ∀ q ∈ p, okd b q := ⟨hu, h5⟩
      rw [if_pos hc]
      cases o with
      | none => exact ⟨⟨Nat.zero_le _, fun z hz => (by cases hz)⟩, .inr ⟨rfl, rfl⟩⟩
      | some o =>
        obtain ⟨i, r, y⟩ := o
        have hi := (hbl i r y rfl).1
        have hr := hrow _ rfl
        have ht := topIn_le many.toNat y
        simp only at hr ⊢
        refine ⟨⟨by simp only [List.length_append, List.length_map, List.length_singleton]; omega, fun z hz => ?_⟩, ?_⟩
        · rcases List.mem_append.1 hz with hz | hz
          · obtain ⟨x, hx, rfl⟩ := List.mem_map.1 hz
            have := hu.2.2.2 x hx
            simp only [List.length_cons]
            omega
          · rcases List.mem_append.1 hz with hz | hz
            · have := hr z hz; omega
            · rw [List.mem_singleton.1 hz]; omega
        · by_cases he : r = []
          · rw [if_pos he]
            exact .inl ⟨decide_eq_true he, (Dig.digest_range hb.1 hb.2 (by omega)).1⟩
          · rw [if_neg he]
            exact .inr ⟨decide_eq_false he, rfl⟩
    · have hc : ¬ (manyOk b many at_ l ∧ ∀ q ∈ p, okd b q) := fun h => h5 h.2
      rw [if_neg hc]
      refine ⟨⟨Nat.zero_le _, fun z hz => (by cases hz)⟩, .inr ⟨rfl, ?_⟩⟩
      cases o with
      | none => rfl
      | some o =>
        obtain ⟨i, r, y⟩ := o
        simp only []
        exact if_neg ((hbl i r y rfl).2 h5)
  · have hc : ¬ (manyOk b many at_ l ∧ ∀ q ∈ p, okd b q) := fun h => hu h.1
    rw [if_neg hu, if_neg hc]
    exact ⟨⟨Nat.zero_le _, fun z hz => (by cases hz)⟩, .inr ⟨rfl, rfl⟩⟩
/-- What a way up that is right is made of. -/
theorem climbedM_true {b many : Int} {at_ : List Int} {l : List (List Int)} {p : List Int} (h : (climbedM b many at_ l p).2 = true) : manyOk b many at_ l ∧ (∀ q ∈ p, okd b q) ∧ ∃ i y, mway b many at_ l p = some (i, [], y) ∧ (climbedM b many at_ l p).1 = l.map (fun x => 0 :: x) ++ (i ++ [topIn many.toNat y]) := by
  unfold climbedM at h ⊢
  by_cases hc : manyOk b many at_ l ∧ ∀ q ∈ p, okd b q
  · rw [if_pos hc] at h ⊢
    generalize mway b many at_ l p = o at h
    cases o with
    | none => cases h
    | some o =>
      obtain ⟨i, r, y⟩ := o
      simp only at h
      obtain rfl := of_decide_eq_true h
      exact ⟨hc.1, hc.2, i, y, rfl, rfl⟩
  · rw [if_neg hc] at h
    cases h
theorem climbedM_len {b many : Int} {at_ : List Int} {l l' : List (List Int)} {p : List Int} (h : (climbedM b many at_ l p).2 = true) (h' : (climbedM b many at_ l' p).2 = true) : (climbedM b many at_ l' p).1.length = (climbedM b many at_ l p).1.length := by
  obtain ⟨h1, _, i, y, h2, h3⟩ := climbedM_true h
  obtain ⟨h1', _, i', y', h2', h3'⟩ := climbedM_true h'
  have e : l.length = l'.length := h1.2.2.1.trans h1'.2.2.1.symm
  have hm : (at_.map Int.toNat).length = at_.length := List.length_map _
  have hk : ks (leafL b (at_.map Int.toNat) l) = ks (leafL b (at_.map Int.toNat) l') := by
    rw [leafL_ks b _ l (by rw [hm]; exact h1.2.2.1), leafL_ks b _ l' (by rw [hm]; exact h1'.2.2.1)]
  have := mups_same 16 _ _ _ p _ _ hk h2 h2'
  simp only at this
  rw [h3, h3']
  simp only [List.length_append, List.length_map, List.length_singleton, this, e]
/-- FromMany's answer. -/
def fromMany (b many : Int) (at_ : List Int) (x y : List (List Int)) (p : List Int) : List Int × List Int × Bool :=
  if (climbedM b many at_ x p).2 = true ∧ (climbedM b many at_ y p).2 = true ∧ manyFrom b many at_ x p = manyFrom b many at_ y p then lastU (climbedM b many at_ x p).1 (climbedM b many at_ y p).1 (climbedM b many at_ x p).1.length else ([], [], false)
theorem lastU_le (p q : List (List Int)) (hp : ∀ z ∈ p, z.length ≤ 4000) (hq : ∀ z ∈ q, z.length ≤ 4000) (n : Nat) : (lastU p q n).1.length ≤ 4000 ∧ (lastU p q n).2.1.length ≤ 4000 := by
  have hd : ∀ (l : List (List Int)), (∀ z ∈ l, z.length ≤ 4000) → ∀ n, (l.getD n []).length ≤ 4000 := by
    intro l hl n
    rw [List.getD_eq_getElem?_getD]
    by_cases h : n < l.length
    · rw [List.getElem?_eq_getElem h]
      exact hl _ (List.getElem_mem h)
    · rw [List.getElem?_eq_none (by omega)]
      exact Nat.zero_le _
  induction n with
  | zero => exact ⟨Nat.zero_le _, Nat.zero_le _⟩
  | succ n ih =>
    unfold lastU
    split
    · exact ih
    · exact ⟨hd p hp n, hd q hq n⟩
theorem impl_frommany (b many : Int) (at_ : List Int) (x y : List (List Int)) (p : List Int) (ha : at_.length ≤ 1048576) (hx : x.length ≤ 1048576) (hy : y.length ≤ 1048576) : Ev (fun k => impl_FromMany.f k b many at_ x y p) (fromMany b many at_ x y p) := by
  unfold impl_FromMany.f fromMany
  refine ev_bind (impl_climbM b many at_ x p ha) (ev_bind (impl_climbM b many at_ y p ha) ?_)
  have f1 := climbedM_facts b many at_ x p
  have f2 := climbedM_facts b many at_ y p
  have l1 := impl_lastofM b many at_ x p hx
  have l2 := impl_lastofM b many at_ y p hy
  have hlen := @climbedM_len b many at_ x y p
  generalize climbedM b many at_ x p = r1 at f1 l1 hlen ⊢
  generalize climbedM b many at_ y p = r2 at f2 l2 hlen ⊢
  generalize manyFrom b many at_ x p = d1 at f1 l1 ⊢
  generalize manyFrom b many at_ y p = d2 at f2 l2 ⊢
  by_cases h1 : r1.2 = true
  · refine ev_pos h1 ?_
    by_cases h2 : r2.2 = true
    · rw [h1] at l1
      rw [h2] at l2
      refine ev_pos h2 (ev_pure l1 (ev_pure l2 ?_))
      by_cases h3 : d1 = d2
      · rw [if_pos ⟨h1, h2, h3⟩]
        refine ev_pos h3 ?_
        have hl := hlen h1 h2
        have hn := f1.1.1
        have e : wrap64 ((r1.1.length : Int) - 1) = (r1.1.length : Int) - 1 := wr (by omega) (by omega)
        have hu := impl_lastu_l0 r1.1 r2.1 (fun z hz => by have := f1.1.2 z hz; omega) (fun z hz => by have := f2.1.2 z hz; omega) hl r1.1.length (Nat.le_refl _) (by omega)
        refine ev_bind (a := lastU r1.1 r2.1 r1.1.length) ?_ (ev_ret rfl)
        unfold impl_lastUnlike.f
        rw [e]
        exact hu
      · rw [if_neg (fun h => h3 h.2.2)]
        exact ev_neg h3 (ev_ret rfl)
    · rw [if_neg (fun h => h2 h.2.1)]
      exact ev_neg h2 (ev_ret rfl)
  · rw [if_neg (fun h => h1 h.1)]
    exact ev_neg h1 (ev_ret rfl)
/-- The two texts collide. -/
def coll (b : Int) (p q : List Int) : Bool := decide (0 ≤ Dig.digest b p) && (decide (Dig.digest b p = Dig.digest b q) && !((strOfNums p).toList == (strOfNums q).toList))
theorem impl_coll (b : Int) (p q : List Int) : impl_Collides.f b p q = some (coll b p q) := by
  unfold impl_Collides.f coll bytes_Equal.f
  rw [impl_digest, Option.bind_some]
  generalize Dig.digest b p = x
  by_cases h : x ≥ 0
  · rw [if_pos h, Option.bind_some]
    by_cases hs : ((strOfNums p).toList == (strOfNums q).toList) = true
    · rw [if_pos hs, hs]
      simp
    · rw [if_neg hs, impl_digest, Option.bind_some]
      generalize Dig.digest b q = y
      simp only [Bool.not_eq_true] at hs
      rw [hs]
      simp [h]
      try rfl
  · rw [if_neg h]
    simp [h]
    try omega
theorem be_inj (n : Nat) : ∀ x y : Nat, x < 256 ^ n → y < 256 ^ n → be n x = be n y → x = y := by
  induction n with
  | zero => intro x y hx hy _; simp at hx hy; omega
  | succ n ih =>
    intro x y hx hy h
    simp only [be] at h
    obtain ⟨h1, h2⟩ := List.append_inj' h rfl
    have h3 := ih (x / 256) (y / 256) (by rw [Nat.pow_succ] at hx; omega) (by rw [Nat.pow_succ] at hy; omega) h1
    have h4 : ((x % 256 : Nat) : Int) = ((y % 256 : Nat) : Int) := by injection h2
    omega
theorem eightOf_inj {x y : Int} (hx : 0 ≤ x ∧ x < 1152921504606846976) (hy : 0 ≤ y ∧ y < 1152921504606846976) (h : eightOf x = eightOf y) : x = y := by
  unfold eightOf at h
  rw [if_neg (by omega), if_neg (by omega)] at h
  have := be_inj 8 x.toNat y.toNat (by omega) (by omega) h
  omega
theorem okd_lt {b x : Int} (h : okd b x) : 0 ≤ x ∧ x < 1152921504606846976 := by
  obtain ⟨⟨h1, h2⟩, h3, h4⟩ := h
  have : (2 : Int) ^ b.toNat ≤ 2 ^ 60 := by
    exact_mod_cast Nat.pow_le_pow_right (by decide) (by omega : b.toNat ≤ 60)
  omega
theorem nodeIn_inj {b x y x' y' : Int} (hx : okd b x) (hy : okd b y) (hx' : okd b x') (hy' : okd b y') (h : nodeIn x y = nodeIn x' y') : x = x' ∧ y = y' := by
  unfold nodeIn at h
  injection h with _ h
  have hl : (eightOf x).length = (eightOf x').length := by
    unfold eightOf
    rw [if_neg (by have := hx.2.1; omega), if_neg (by have := hx'.2.1; omega), be_length, be_length]
  obtain ⟨h1, h2⟩ := List.append_inj h hl
  exact ⟨eightOf_inj (okd_lt hx) (okd_lt hx') h1, eightOf_inj (okd_lt hy) (okd_lt hy') h2⟩
theorem stepIn_inj {b x q x' q' : Int} {a : Nat} (hx : okd b x) (hq : okd b q) (hx' : okd b x') (hq' : okd b q') (h : stepIn a q x = stepIn a q' x') : x = x' ∧ q = q' := by
  unfold stepIn at h
  split at h
  · exact (nodeIn_inj hq hx hq' hx' h).symm
  · exact nodeIn_inj hx hq hx' hq' h
theorem be_bytes (n : Nat) : ∀ x : Nat, ∀ z ∈ be n x, 0 ≤ z ∧ z < 256 := by
  induction n with
  | zero => intro x z hz; cases hz
  | succ n ih =>
    intro x z hz
    simp only [be] at hz
    rcases List.mem_append.1 hz with hz | hz
    · exact ih _ z hz
    · rw [List.mem_singleton.1 hz]; omega
theorem eightOf_bytes (x : Int) : ∀ z ∈ eightOf x, 0 ≤ z ∧ z < 256 := by
  unfold eightOf
  split
  · intro z hz; cases hz
  · exact be_bytes 8 _
theorem nodeIn_bytes (x y : Int) : ∀ z ∈ nodeIn x y, 0 ≤ z ∧ z < 256 := by
  intro z hz
  rcases List.mem_cons.1 hz with rfl | hz
  · decide
  · rcases List.mem_append.1 hz with hz | hz <;> exact eightOf_bytes _ z hz
theorem stepIn_bytes (a : Nat) (q x : Int) : ∀ z ∈ stepIn a q x, 0 ≤ z ∧ z < 256 := by
  unfold stepIn
  split <;> exact nodeIn_bytes _ _
theorem coll_of {b : Int} {p q : List Int} (h0 : 0 ≤ Dig.digest b p) (h : Dig.digest b p = Dig.digest b q) (hs : same p q = false) : coll b p q = true := by
  unfold coll
  rw [decide_eq_true h0, decide_eq_true h]
  show (true && (true && !(same p q))) = true
  rw [hs]
  rfl
theorem same_cons (a : Int) (p q : List Int) : same (a :: p) (a :: q) = same p q := by
  unfold same
  rw [strs_map, strs_map, strs_map, strs_map, List.map_cons, List.map_cons]
  rw [Bool.eq_iff_iff]
  simp
theorem topIn_bytes {many : Nat} (hm : many ≤ 16) (x : Int) : ∀ z ∈ topIn many x, 0 ≤ z ∧ z < 256 := by
  intro z hz
  rcases List.mem_cons.1 hz with rfl | hz
  · decide
  · rcases List.mem_cons.1 hz with rfl | hz
    · omega
    · exact eightOf_bytes _ z hz
theorem topIn_inj {b : Int} {m m' : Nat} {x x' : Int} (hx : okd b x) (hx' : okd b x') (h : topIn m x = topIn m' x') : m = m' ∧ x = x' := by
  unfold topIn at h
  injection h with _ h
  injection h with h1 h2
  exact ⟨by omega, eightOf_inj (okd_lt hx) (okd_lt hx') h2⟩
theorem lastU_append (p q r s : List (List Int)) (h : q.length = p.length) : ∀ n, n ≤ p.length → lastU (p ++ r) (q ++ s) n = lastU p q n := by
  intro n
  induction n with
  | zero => intro _; rfl
  | succ n ih =>
    intro hn
    have e1 : (p ++ r).getD n [] = p.getD n [] := by rw [List.getD_eq_getElem?_getD, List.getElem?_append_left (by omega), List.getD_eq_getElem?_getD]
    have e2 : (q ++ s).getD n [] = q.getD n [] := by rw [List.getD_eq_getElem?_getD, List.getElem?_append_left (by omega), List.getD_eq_getElem?_getD]
    unfold lastU
    rw [e1, e2, ih (by omega)]
theorem lastU_snoc (p q : List (List Int)) (u v : List Int) (h : q.length = p.length) : lastU (p ++ [u]) (q ++ [v]) (p.length + 1) = if same u v = true then lastU p q p.length else (u, v, true) := by
  have e1 : (p ++ [u]).getD p.length [] = u := by rw [List.getD_eq_getElem?_getD, List.getElem?_append_right (Nat.le_refl _), Nat.sub_self]; rfl
  have e2 : (q ++ [v]).getD p.length [] = v := by rw [← h, List.getD_eq_getElem?_getD, List.getElem?_append_right (Nat.le_refl _), Nat.sub_self]; rfl
  have e3 := lastU_append p q [u] [v] h p.length (Nat.le_refl _)
  generalize p ++ [u] = p' at e1 e3 ⊢
  generalize q ++ [v] = q' at e2 e3 ⊢
  generalize p.length = n at e1 e2 e3 ⊢
  unfold lastU
  rw [e1, e2, e3]
  cases n <;> rfl
theorem lastU_app (p q r s : List (List Int)) (h : q.length = p.length) : ∀ n, lastU (p ++ r) (q ++ s) (p.length + n) = if (lastU r s n).2.2 = true then lastU r s n else lastU p q p.length := by
  intro n
  induction n with
  | zero =>
    have e := lastU_append p q r s h p.length (Nat.le_refl _)
    rw [Nat.add_zero, e, if_neg (by simp [lastU])]
  | succ n ih =>
    have e1 : (p ++ r).getD (p.length + n) [] = r.getD n [] := by rw [List.getD_eq_getElem?_getD, List.getElem?_append_right (by omega), Nat.add_sub_cancel_left, List.getD_eq_getElem?_getD]
    have e2 : (q ++ s).getD (p.length + n) [] = s.getD n [] := by rw [← h, List.getD_eq_getElem?_getD, List.getElem?_append_right (by omega), Nat.add_sub_cancel_left, List.getD_eq_getElem?_getD]
    have e3 : ∀ (a c : List (List Int)) (m : Nat), lastU a c (m + 1) = if same (a.getD m []) (c.getD m []) = true then lastU a c m else (a.getD m [], c.getD m [], true) := fun a c m => by rw [lastU]
    rw [← Nat.add_assoc, e3, e3, e1, e2, ih]
    by_cases hs : same (r.getD n []) (s.getD n []) = true
    · rw [if_pos hs, if_pos hs]
    · rw [if_neg hs, if_neg hs, if_pos rfl]
theorem lastU_yes (p q : List (List Int)) : ∀ n, (lastU p q n).2.2 = true → ∃ j, j < n ∧ (lastU p q n).1 = p.getD j [] ∧ (lastU p q n).2.1 = q.getD j [] ∧ same (p.getD j []) (q.getD j []) = false := by
  intro n
  induction n with
  | zero => intro h; exact absurd h (by simp [lastU])
  | succ n ih =>
    intro h
    unfold lastU at h ⊢
    by_cases hs : same (p.getD n []) (q.getD n []) = true
    · rw [if_pos hs] at h ⊢
      obtain ⟨j, h1, h2⟩ := ih h
      exact ⟨j, by omega, h2⟩
    · rw [if_neg hs]
      exact ⟨n, Nat.lt_succ_self _, rfl, rfl, by simpa using hs⟩
theorem lastU_no (p q : List (List Int)) : ∀ n, (lastU p q n).2.2 = false → ∀ j, j < n → same (p.getD j []) (q.getD j []) = true := by
  intro n
  induction n with
  | zero => intro _ j hj; omega
  | succ n ih =>
    intro h j hj
    unfold lastU at h
    by_cases hs : same (p.getD n []) (q.getD n []) = true
    · rw [if_pos hs] at h
      by_cases hjn : j = n
      · rw [hjn]; exact hs
      · exact ih h j (by omega)
    · rw [if_neg hs] at h
      exact absurd h (by simp)
/-- Row by row one digest. -/
def oneD (b : Int) (p q : List (List Int)) : Prop := ∀ j, j < p.length → Dig.digest b (p.getD j []) = Dig.digest b (q.getD j [])
/-- Row by row one text. -/
def oneT (p q : List (List Int)) : Prop := ∀ j, j < p.length → same (p.getD j []) (q.getD j []) = true
theorem oneD_cons {b : Int} {x y : List Int} {p q : List (List Int)} (h : Dig.digest b x = Dig.digest b y) (k : oneD b p q) : oneD b (x :: p) (y :: q) := by
  intro j hj
  cases j with
  | zero => exact h
  | succ j => exact k j (by rw [List.length_cons] at hj; omega)
theorem oneT_head {x y : List Int} {p q : List (List Int)} (h : oneT (x :: p) (y :: q)) : same x y = true ∧ oneT p q :=
  ⟨h 0 (Nat.succ_pos _), fun j hj => h (j + 1) (by rw [List.length_cons]; omega)⟩
theorem rows_told {b : Int} {p q : List (List Int)} (hd : oneD b p q) : ((lastU p q p.length).2.2 = true ∧ Dig.digest b (lastU p q p.length).1 = Dig.digest b (lastU p q p.length).2.1 ∧ same (lastU p q p.length).1 (lastU p q p.length).2.1 = false) ∨ ((lastU p q p.length).2.2 = false ∧ oneT p q) := by
  cases h : (lastU p q p.length).2.2 with
  | true =>
    obtain ⟨j, h1, h2, h3, h4⟩ := lastU_yes p q _ h
    refine .inl ⟨rfl, ?_, ?_⟩
    · rw [h2, h3]; exact hd j h1
    · rw [h2, h3]; exact h4
  | false => exact .inr ⟨rfl, lastU_no p q _ h⟩
theorem stepM_inj {b x q x' : Int} {a : Nat} (hx : okd b x) (hq : okd b q) (hx' : okd b x') (h : stepIn a q x = stepIn a q x') : x = x' := (stepIn_inj hx hq hx' hq h).1
theorem solo_told {b : Int} {n x : Nat} {d d' : Int} {p : List Int} {s s'} (hd : okd b d) (hd' : okd b d') (h : solo b n x d p = some s) (h' : solo b n x d' p = some s') (he : s.2.1 = s'.2.1) : oneD b s.1 s'.1 ∧ (oneT s.1 s'.1 → d = d') := by
  unfold solo at h h'
  split at h
  · rename_i hb
    rw [if_pos hb] at h'
    match p, h, h' with
    | q :: p, h, h' =>
      simp only at h h'
      split at h
      · rename_i hq
        rw [if_pos hq] at h'
        cases h
        cases h'
        refine ⟨oneD_cons he (fun j hj => absurd hj (Nat.not_lt_zero _)), fun ht => ?_⟩
        have hs := (oneT_head ht).1
        exact stepM_inj hd hq hd' (same_imp _ _ (stepIn_bytes _ _ _) (stepIn_bytes _ _ _) hs)
      · cases h
  · rename_i hb
    rw [if_neg hb] at h'
    cases h
    cases h'
    exact ⟨fun j hj => absurd hj (Nat.not_lt_zero _), fun _ => he⟩
theorem oneD_app {b : Int} {p q r s : List (List Int)} (hl : p.length = q.length) (h1 : oneD b p q) (h2 : oneD b r s) : oneD b (p ++ r) (q ++ s) := by
  intro j hj
  rw [List.length_append] at hj
  by_cases h : j < p.length
  · rw [List.getD_eq_getElem?_getD, List.getElem?_append_left h, List.getD_eq_getElem?_getD, List.getElem?_append_left (by omega), ← List.getD_eq_getElem?_getD, ← List.getD_eq_getElem?_getD]
    exact h1 j h
  · rw [List.getD_eq_getElem?_getD, List.getElem?_append_right (by omega), List.getD_eq_getElem?_getD, List.getElem?_append_right (by omega), ← hl, ← List.getD_eq_getElem?_getD, ← List.getD_eq_getElem?_getD]
    exact h2 (j - p.length) (by omega)
theorem oneT_app {p q r s : List (List Int)} (hl : p.length = q.length) (h : oneT (p ++ r) (q ++ s)) : oneT p q ∧ oneT r s := by
  constructor
  · intro j hj
    have := h j (by rw [List.length_append]; omega)
    rw [List.getD_eq_getElem?_getD, List.getElem?_append_left hj, List.getD_eq_getElem?_getD, List.getElem?_append_left (by omega), ← List.getD_eq_getElem?_getD, ← List.getD_eq_getElem?_getD] at this
    exact this
  · intro j hj
    have := h (p.length + j) (by rw [List.length_append]; omega)
    rw [List.getD_eq_getElem?_getD, List.getElem?_append_right (by omega), List.getD_eq_getElem?_getD, List.getElem?_append_right (by omega), ← hl, Nat.add_sub_cancel_left, ← List.getD_eq_getElem?_getD, ← List.getD_eq_getElem?_getD] at this
    exact this
theorem solo_head {t t' : Pl} {x : Nat} (hk : ks t = ks t') (hh : ∀ z ∈ t.head?, ¬ (x % 2 = 0 ∧ z.1 = x + 1)) : ∀ z ∈ t'.head?, ¬ (x % 2 = 0 ∧ z.1 = x + 1) := by
  intro z hz
  match t, t', hk, hh, hz with
  | (y, e) :: t, (y', e') :: t', k2, hh, hz =>
    cases hz
    rw [ks_cons, ks_cons] at k2
    injection k2 with k4 _
    have := hh (y, e) rfl
    rw [← k4]
    exact this
  | _, [], _, _, hz => cases hz
  | [], (y', e') :: t', k2, _, _ => cases k2
/-- A level with one level above: one digest row by row, and where the rows are alike, one level. -/
theorem lev_told {b : Int} (n N : Nat) : ∀ (L L' : Pl) (p : List Int) (u u'), L.length ≤ N → ks L = ks L' → (∀ z ∈ L, okd b z.2) → (∀ z ∈ L', okd b z.2) → lev b n L p = some u → lev b n L' p = some u' → u.2.1 = u'.2.1 → oneD b u.1 u'.1 ∧ (oneT u.1 u'.1 → L = L') := by
  have nil2 : ∀ L' : Pl, ks ([] : Pl) = ks L' → L' = [] := by
    intro L' hk
    match L', hk with
    | [], _ => rfl
  induction N with
  | zero =>
    intro L L' p u u' hN hk _ _ h h' _
    have : L = [] := List.length_eq_zero_iff.1 (by omega)
    subst this
    obtain rfl := nil2 L' hk
    rw [lev_nil] at h h'
    cases h
    cases h'
    exact ⟨fun j hj => absurd hj (Nat.not_lt_zero _), fun _ => rfl⟩
  | succ N ih =>
    intro L L' p u u' hN hk hv hv' h h' he
    rcases pl_cases L with rfl | ⟨x, d, e, t, rfl, hx⟩ | ⟨x, d, t, rfl, hh⟩
    · obtain rfl := nil2 L' hk
      rw [lev_nil] at h h'
      cases h
      cases h'
      exact ⟨fun j hj => absurd hj (Nat.not_lt_zero _), fun _ => rfl⟩
    · match L', hk with
      | (x', d') :: (y', e') :: t', hk =>
        rw [ks_cons, ks_cons, ks_cons, ks_cons] at hk
        injection hk with k1 hk
        injection hk with k2 k3
        subst k1
        subst k2
        rw [lev_pair b n x d e t p hx] at h
        rw [lev_pair b n x d' e' t' p hx] at h'
        obtain ⟨v, hw, rfl⟩ := Option.map_eq_some_iff.1 h
        obtain ⟨v', hw', rfl⟩ := Option.map_eq_some_iff.1 h'
        simp only [List.length_cons] at hN
        injection he with he1 he2
        injection he1 with _ he3
        obtain ⟨i1, i2⟩ := ih t t' p v v' (by omega) k3 (fun z hz => hv z (List.mem_cons_of_mem _ (List.mem_cons_of_mem _ hz))) (fun z hz => hv' z (List.mem_cons_of_mem _ (List.mem_cons_of_mem _ hz))) hw hw' he2
        refine ⟨oneD_cons he3 i1, fun ht => ?_⟩
        obtain ⟨t1, t2⟩ := oneT_head ht
        obtain ⟨rfl, rfl⟩ := nodeIn_inj (hv (x, d) List.mem_cons_self) (hv (x + 1, e) (List.mem_cons_of_mem _ List.mem_cons_self)) (hv' (x, d') List.mem_cons_self) (hv' (x + 1, e') (List.mem_cons_of_mem _ List.mem_cons_self)) (same_imp _ _ (nodeIn_bytes _ _) (nodeIn_bytes _ _) t1)
        rw [i2 t2]
    · match L', hk with
      | (x', d') :: t', hk =>
        rw [ks_cons, ks_cons] at hk
        injection hk with k1 k2
        subst k1
        rw [lev_solo b n x d t p hh] at h
        rw [lev_solo b n x d' t' p (solo_head k2 hh)] at h'
        obtain ⟨s, hs, h⟩ := Option.bind_eq_some_iff.1 h
        obtain ⟨s', hs', h'⟩ := Option.bind_eq_some_iff.1 h'
        obtain ⟨v, hw, rfl⟩ := Option.map_eq_some_iff.1 h
        obtain ⟨v', hw', rfl⟩ := Option.map_eq_some_iff.1 h'
        obtain ⟨j1, j2⟩ := solo_same hs hs'
        rw [← j2] at hw'
        simp only [List.length_cons] at hN
        injection he with he1 he2
        injection he1 with _ he3
        obtain ⟨i1, i2⟩ := ih t t' s.2.2 v v' (by omega) k2 (fun z hz => hv z (List.mem_cons_of_mem _ hz)) (fun z hz => hv' z (List.mem_cons_of_mem _ hz)) hw hw' he2
        obtain ⟨s1, s2⟩ := solo_told (hv (x, d) List.mem_cons_self) (hv' (x, d') List.mem_cons_self) hs hs' he3
        refine ⟨oneD_app j1 s1 i1, fun ht => ?_⟩
        obtain ⟨t1, t2⟩ := oneT_app j1 ht
        have e5 : d = d' := s2 t1
        rw [e5, i2 t2]
/-- Two ways up of several leaves with one end. -/
theorem mups_told {b : Int} (hb : 2 ≤ b ∧ b ≤ 60) (k : Nat) : ∀ (n : Nat) (L L' : Pl) (p : List Int) (v v'), n ≤ k → 1 ≤ n → Srt L → ks L = ks L' → (∀ x ∈ ks L, x < n) → (∀ z ∈ L, okd b z.2) → (∀ z ∈ L', okd b z.2) → L ≠ [] → mups b k n L p = some v → mups b k n L' p = some v' → v.2.2 = v'.2.2 →
    ((lastU v.1 v'.1 v.1.length).2.2 = true ∧ Dig.digest b (lastU v.1 v'.1 v.1.length).1 = Dig.digest b (lastU v.1 v'.1 v.1.length).2.1 ∧ same (lastU v.1 v'.1 v.1.length).1 (lastU v.1 v'.1 v.1.length).2.1 = false) ∨ ((lastU v.1 v'.1 v.1.length).2.2 = false ∧ L = L') := by
  induction k with
  | zero => intro n L L' p v v' h1 h2; omega
  | succ k ih =>
    intro n L L' p v v' h1 h2 hs hk hn hv hv' h0 h h' he
    have hs' : Srt L' := by unfold Srt; rw [← hk]; exact hs
    have hn' : ∀ x ∈ ks L', x < n := by rw [← hk]; exact hn
    have h0' : L' ≠ [] := by
      intro e
      rw [e] at hk
      match L, h0, hk with
      | z :: t, _, hk => cases hk
    by_cases hn1 : 1 < n
    · rw [mups_step b k n L p hn1] at h
      rw [mups_step b k n L' p hn1] at h'
      obtain ⟨u, hu, h⟩ := Option.bind_eq_some_iff.1 h
      obtain ⟨w, hw, rfl⟩ := Option.map_eq_some_iff.1 h
      obtain ⟨u', hu', h'⟩ := Option.bind_eq_some_iff.1 h'
      obtain ⟨w', hw', rfl⟩ := Option.map_eq_some_iff.1 h'
      obtain ⟨a1, a2, a3, a4, _, _⟩ := lev_next hb hs hn hv hu
      obtain ⟨b1, b2, b3, b4, _, _⟩ := lev_next hb hs' hn' hv' hu'
      obtain ⟨c1, c2, c3⟩ := lev_same n L.length L L' p u u' (Nat.le_refl _) hk hu hu'
      rw [← c2] at hw'
      have hi := ih ((n + 1) / 2) u.2.1 u'.2.1 u.2.2 w w' (by omega) (by omega) a2 c3 a3 a4 b4 (lev_some (b := b) (n := n) h0 a1) hw hw' he
      have ea := lastU_app u.1 u'.1 w.1 w'.1 c1.symm w.1.length
      simp only [List.length_append]
      rw [ea]
      rcases hi with ⟨t1, t2, t3⟩ | ⟨t1, t2⟩
      · rw [if_pos t1]
        exact .inl ⟨t1, t2, t3⟩
      · rw [if_neg (by rw [t1]; decide)]
        obtain ⟨l1, l2⟩ := lev_told n L.length L L' p u u' (Nat.le_refl _) hk hv hv' hu hu' t2
        rcases rows_told l1 with r | ⟨r1, r2⟩
        · exact .inl r
        · exact .inr ⟨r1, l2 r2⟩
    · rw [mups_le b k n L p (by omega)] at h
      rw [mups_le b k n L' p (by omega)] at h'
      cases h
      cases h'
      obtain rfl : n = 1 := by omega
      obtain ⟨y, rfl⟩ := one_L hs hn h0
      obtain ⟨y', rfl⟩ := one_L hs' hn' h0'
      have : y = y' := he
      subst this
      exact .inr ⟨rfl, rfl⟩
theorem leafs_one {b : Int} : ∀ (m : List Nat) (x y : List (List Int)), x.length = m.length → y.length = m.length → leafL b m x = leafL b m y → oneD b (x.map fun z => 0 :: z) (y.map fun z => 0 :: z)
  | [], [], [], _, _, _ => fun j hj => absurd hj (Nat.not_lt_zero _)
  | i :: m, u :: x, v :: y, hx, hy, h => by
    unfold leafL at h
    rw [List.zip_cons_cons, List.zip_cons_cons, List.map_cons, List.map_cons] at h
    injection h with h1 h2
    injection h1 with _ h3
    exact oneD_cons h3 (leafs_one m x y (by simpa using hx) (by simpa using hy) h2)
  | [], _ :: _, _, hx, _, _ => by cases hx
  | [], [], _ :: _, _, hy, _ => by cases hy
  | _ :: _, [], _, hx, _, _ => by cases hx
  | _ :: _, _ :: _, [], _, hy, _ => by cases hy
theorem oneT_zip : ∀ (x y : List (List Int)), x.length = y.length → oneT (x.map fun z => 0 :: z) (y.map fun z => 0 :: z) → (x.zip y).all likeB = true
  | [], y, _, _ => by rw [List.zip_nil_left]; rfl
  | u :: x, v :: y, hl, h => by
    rw [List.map_cons, List.map_cons] at h
    obtain ⟨h1, h2⟩ := oneT_head h
    rw [same_cons] at h1
    rw [List.zip_cons_cons, List.all_cons, oneT_zip x y (by simpa using hl) h2, Bool.and_true]
    exact h1
  | _ :: _, [], hl, _ => by cases hl
theorem manyFrom_of {b many : Int} {at_ : List Int} {l : List (List Int)} {p : List Int} {i : List (List Int)} {y : Int} (hm : manyOk b many at_ l) (hw : mway b many at_ l p = some (i, [], y)) : manyFrom b many at_ l p = Dig.digest b (topIn many.toNat y) := by
  unfold manyFrom
  rw [if_pos hm, hw]
  exact if_pos rfl
theorem mups_end {b : Int} (hb : 2 ≤ b ∧ b ≤ 60) (k : Nat) : ∀ (n : Nat) (L : Pl) (p : List Int) (v), Srt L → (∀ x ∈ ks L, x < n) → (∀ z ∈ L, okd b z.2) → L ≠ [] → mups b k n L p = some v → okd b v.2.2 := by
  have htop : ∀ L : Pl, (∀ z ∈ L, okd b z.2) → L ≠ [] → okd b (top0 L) := by
    intro L hv h0
    match L, h0 with
    | (x, d) :: t, _ => exact hv (x, d) List.mem_cons_self
  induction k with
  | zero =>
    intro n L p v _ _ hv h0 h
    unfold mups at h
    cases h
    exact htop L hv h0
  | succ k ih =>
    intro n L p v hs hn hv h0 h
    by_cases hn1 : 1 < n
    · rw [mups_step b k n L p hn1] at h
      obtain ⟨u, hu, h⟩ := Option.bind_eq_some_iff.1 h
      obtain ⟨w, hw, rfl⟩ := Option.map_eq_some_iff.1 h
      obtain ⟨a1, a2, a3, a4, _, _⟩ := lev_next hb hs hn hv hu
      exact ih ((n + 1) / 2) u.2.1 u.2.2 w a2 a3 a4 (lev_some (b := b) (n := n) h0 a1) hw
    · rw [mups_le b k n L p (by omega)] at h
      cases h
      exact htop L hv h0
theorem climbM_told {b many : Int} {at_ : List Int} {x y : List (List Int)} {p : List Int} (h : (climbedM b many at_ x p).2 = true) (h' : (climbedM b many at_ y p).2 = true) (he : manyFrom b many at_ x p = manyFrom b many at_ y p) :
    0 ≤ manyFrom b many at_ x p ∧ (((lastU (climbedM b many at_ x p).1 (climbedM b many at_ y p).1 (climbedM b many at_ x p).1.length).2.2 = true ∧ coll b (lastU (climbedM b many at_ x p).1 (climbedM b many at_ y p).1 (climbedM b many at_ x p).1.length).1 (lastU (climbedM b many at_ x p).1 (climbedM b many at_ y p).1 (climbedM b many at_ x p).1.length).2.1 = true)
    ∨ ((lastU (climbedM b many at_ x p).1 (climbedM b many at_ y p).1 (climbedM b many at_ x p).1.length).2.2 = false ∧ x.length = y.length ∧ (x.zip y).all likeB = true)) := by
  have hle := lastU_le _ _ (climbedM_facts b many at_ x p).1.2 (climbedM_facts b many at_ y p).1.2 (climbedM b many at_ x p).1.length
  obtain ⟨hm, _, i, z, hw, e⟩ := climbedM_true h
  obtain ⟨hm', _, i', z', hw', e'⟩ := climbedM_true h'
  rw [manyFrom_of hm hw] at he ⊢
  rw [manyFrom_of hm' hw'] at he
  have hb := hm.1.1
  have ht0 : 0 ≤ Dig.digest b (topIn many.toNat z) := (Dig.digest_range hb.1 hb.2 (by have := topIn_le many.toNat z; omega)).1
  refine ⟨ht0, ?_⟩
  have mk : ∀ t : List Int × List Int × Bool, t.1.length ≤ 4000 → Dig.digest b t.1 = Dig.digest b t.2.1 → same t.1 t.2.1 = false → coll b t.1 t.2.1 = true := fun t h1 h2 h3 => coll_of (Dig.digest_range hb.1 hb.2 h1).1 h2 h3
  obtain ⟨⟨_, hn1, hn16⟩, hp, hl, hs4⟩ := hm
  obtain ⟨_, _, hl', hs4'⟩ := hm'
  obtain ⟨n, rfl⟩ := Int.eq_ofNat_of_zero_le (by omega : 0 ≤ many)
  have hpos := plcs_pos hp
  obtain ⟨m, rfl, hasc⟩ := plcs_nat hp
  unfold mway at hw hw'
  rw [toNat_I, Int.toNat_natCast] at hw hw'
  rw [I_length] at hl hl' hpos
  have hks := leafL_ks b m x hl
  have hks' := leafL_ks b m y hl'
  have hsrt : Srt (leafL b m x) := by unfold Srt; rw [hks]; exact hasc.1
  have hlt : ∀ q ∈ ks (leafL b m x), q < n := by rw [hks]; exact hasc.2
  have hne : leafL b m x ≠ [] := by
    intro e0
    have := leafL_length b m x hl
    rw [e0] at this
    rw [List.length_nil] at this
    omega
  have hsrt' : Srt (leafL b m y) := by unfold Srt; rw [hks']; exact hasc.1
  have hlt' : ∀ q ∈ ks (leafL b m y), q < n := by rw [hks']; exact hasc.2
  have hne' : leafL b m y ≠ [] := by
    intro e0
    have := leafL_length b m y hl'
    rw [e0] at this
    rw [List.length_nil] at this
    omega
  have hv := leafL_okd hb m x hs4
  have hv' := leafL_okd hb m y hs4'
  have hz : okd b z := mups_end hb 16 n _ p _ hsrt hlt hv hne hw
  have hz' : okd b z' := mups_end hb 16 n _ p _ hsrt' hlt' hv' hne' hw'
  have hil : i.length = i'.length := mups_same 16 n _ _ p _ _ (hks.trans hks'.symm) hw hw'
  rw [Int.toNat_natCast] at e e' he ht0
  have e2 : (climbedM b (n : Int) (I m) x p).1.length = (x.map fun z => 0 :: z).length + (i.length + 1) := by rw [e, List.length_append, List.length_append, List.length_singleton]
  rw [e2] at hle ⊢
  rw [e, e'] at hle ⊢
  rw [lastU_app _ _ _ _ (by rw [List.length_map, List.length_map]; omega), lastU_snoc _ _ _ _ hil.symm] at hle ⊢
  by_cases hs : same (topIn n z) (topIn n z') = true
  · rw [if_pos hs] at hle ⊢
    obtain ⟨_, ez⟩ := topIn_inj hz hz' (same_imp _ _ (topIn_bytes (by omega) z) (topIn_bytes (by omega) z') hs)
    subst ez
    rcases mups_told hb 16 n _ _ p _ _ (by omega) (by omega) hsrt (hks.trans hks'.symm) hlt hv hv' hne hw hw' rfl with ⟨t1, t2, t3⟩ | ⟨t1, t2⟩
    · simp only at t1 t2 t3
      rw [if_pos t1] at hle ⊢
      exact .inl ⟨t1, mk _ hle.1 t2 t3⟩
    · simp only at t1
      rw [if_neg (by rw [t1]; decide)] at hle ⊢
      rcases rows_told (leafs_one m x y hl hl' t2) with ⟨r1, r2, r3⟩ | ⟨r1, r2⟩
      · exact .inl ⟨r1, mk _ hle.1 r2 r3⟩
      · exact .inr ⟨r1, by omega, oneT_zip x y (by omega) r2⟩
  · rw [if_neg hs] at hle ⊢
    rw [if_pos rfl]
    exact .inl ⟨rfl, coll_of ht0 he (by simpa using hs)⟩
theorem manyFrom_yes {b many : Int} {at_ : List Int} {x : List (List Int)} {p : List Int} (h : 0 ≤ manyFrom b many at_ x p) : (climbedM b many at_ x p).2 = true := by
  rcases (climbedM_facts b many at_ x p).2 with g | g
  · exact g.1
  · have := g.2; omega
theorem fromMany_told (b many : Int) (at_ : List Int) (x y : List (List Int)) (p : List Int) :
    ((fromMany b many at_ x y p).2.2 = true → coll b (fromMany b many at_ x y p).1 (fromMany b many at_ x y p).2.1 = true ∧ 0 ≤ manyFrom b many at_ x p ∧ manyFrom b many at_ x p = manyFrom b many at_ y p)
    ∧ ((fromMany b many at_ x y p).2.2 = false → 0 ≤ manyFrom b many at_ x p → manyFrom b many at_ x p = manyFrom b many at_ y p → x.length = y.length ∧ (x.zip y).all likeB = true) := by
  unfold fromMany
  by_cases h : (climbedM b many at_ x p).2 = true ∧ (climbedM b many at_ y p).2 = true ∧ manyFrom b many at_ x p = manyFrom b many at_ y p
  · rw [if_pos h]
    obtain ⟨h0, hor⟩ := climbM_told h.1 h.2.1 h.2.2
    rcases hor with ⟨h1, h2⟩ | ⟨h1, h2⟩
    · exact ⟨fun _ => ⟨h2, h0, h.2.2⟩, (fun h3 => absurd (h1.symm.trans h3) (by decide))⟩
    · exact ⟨(fun h3 => absurd (h1.symm.trans h3) (by decide)), fun _ _ _ => h2⟩
  · rw [if_neg h]
    refine ⟨(fun h3 => absurd h3 (by decide)), fun _ h0 he => absurd ⟨manyFrom_yes h0, manyFrom_yes (by rw [← he]; exact h0), he⟩ h⟩
/-- A level's path is what its way up takes. -/
theorem lev_path {b : Int} (hb : 2 ≤ b ∧ b ≤ 60) {l : List Int} (ho : ∀ x ∈ l, okd b x) (N : Nat) : ∀ (pre : List Nat) (L : Pl) (t : List Int), L.length ≤ N → Srt L → (∀ x ∈ ks L, x < l.length) → (∀ z ∈ L, z.2 = l.getD z.1 0) → (∀ a ∈ pre, ∀ x ∈ ks L, a / 2 < x / 2) →
    ∃ i U, lev b l.length L ((ks L).flatMap (emit l (pre ++ ks L)) ++ t) = some (i, U, t) ∧ ∀ z ∈ U, z.2 = (abv b l).getD z.1 0 := by
  have hget : ∀ x, x < l.length → okd b (l.getD x 0) := fun x hx => by
    rw [List.getD_eq_getElem?_getD, List.getElem?_eq_getElem hx]
    exact ho _ (List.getElem_mem hx)
  induction N with
  | zero =>
    intro pre L t hN _ _ _ _
    have : L = [] := List.length_eq_zero_iff.1 (by omega)
    subst this
    exact ⟨[], [], by rw [show ks ([] : Pl) = [] from rfl, List.flatMap_nil, List.nil_append, lev_nil], fun z hz => by cases hz⟩
  | succ N ih =>
    intro pre L t hN hs hn hv hp
    rcases pl_cases L with rfl | ⟨x, d, e, s, rfl, hx⟩ | ⟨x, d, s, rfl, hh⟩
    · exact ⟨[], [], by rw [show ks ([] : Pl) = [] from rfl, List.flatMap_nil, List.nil_append, lev_nil], fun z hz => by cases hz⟩
    · rw [ks_cons, ks_cons] at hn hp ⊢
      obtain ⟨g1, g2⟩ := srt_pair hs hx
      simp only [List.length_cons] at hN
      have hx1 := hn (x + 1) (by simp)
      have e0 : pre ++ x :: (x + 1) :: ks s = (pre ++ [x, x + 1]) ++ ks s := by simp
      obtain ⟨i, U, h1, h2⟩ := ih (pre ++ [x, x + 1]) s t (by omega) g2 (fun z hz => hn z (List.mem_cons_of_mem _ (List.mem_cons_of_mem _ hz))) (fun z hz => hv z (List.mem_cons_of_mem _ (List.mem_cons_of_mem _ hz))) (fun a ha z hz => by
        rcases List.mem_append.1 ha with ha | ha
        · exact hp a ha z (List.mem_cons_of_mem _ (List.mem_cons_of_mem _ hz))
        · have := g1 z hz
          simp only [List.mem_cons, List.not_mem_nil, or_false] at ha
          omega)
      have m1 : emit l (pre ++ x :: (x + 1) :: ks s) x = [] := by
        unfold emit
        rw [if_neg]
        rintro ⟨_, hc⟩
        apply hc
        unfold beside
        rw [if_pos hx]
        simp
      have m2 : emit l (pre ++ x :: (x + 1) :: ks s) (x + 1) = [] := by
        unfold emit
        rw [if_neg]
        rintro ⟨_, hc⟩
        apply hc
        unfold beside
        rw [if_neg (by omega)]
        simp
      refine ⟨nodeIn d e :: i, (x / 2, Dig.digest b (nodeIn d e)) :: U, ?_, ?_⟩
      · rw [List.flatMap_cons, List.flatMap_cons, m1, m2, List.nil_append, List.nil_append, e0, lev_pair b _ x d e s _ hx, h1]
        rfl
      · intro z hz
        rcases List.mem_cons.1 hz with rfl | hz
        · have hd : d = l.getD x 0 := hv (x, d) List.mem_cons_self
          have he : e = l.getD (x + 1) 0 := hv (x + 1, e) (List.mem_cons_of_mem _ List.mem_cons_self)
          have hb1 : beside x = x + 1 := by unfold beside; rw [if_pos hx]
          show Dig.digest b (nodeIn d e) = (abv b l).getD (x / 2) 0
          rw [abv_getD l x (by omega) ho, hb1, if_pos hx1, hd, he]
          unfold stepIn
          rw [if_neg (by omega)]
        · exact h2 z hz
    · rw [ks_cons] at hn hp ⊢
      have g1 := srt_solo hs hh
      simp only [List.length_cons] at hN
      have hxn := hn x List.mem_cons_self
      have hd : d = l.getD x 0 := hv (x, d) List.mem_cons_self
      have e0 : pre ++ x :: ks s = (pre ++ [x]) ++ ks s := by simp
      obtain ⟨i, U, h1, h2⟩ := ih (pre ++ [x]) s t (by omega) (srt_cons hs).2 (fun z hz => hn z (List.mem_cons_of_mem _ hz)) (fun z hz => hv z (List.mem_cons_of_mem _ hz)) (fun a ha z hz => by
        rcases List.mem_append.1 ha with ha | ha
        · exact hp a ha z (List.mem_cons_of_mem _ hz)
        · rw [List.mem_singleton] at ha
          subst ha
          exact g1 z hz)
      have hbs : beside x ∉ pre ++ x :: ks s := by
        have hh2 : beside x / 2 = x / 2 := by unfold beside; split <;> omega
        intro hc
        rcases List.mem_append.1 hc with hc | hc
        · have := hp _ hc x List.mem_cons_self
          omega
        · rcases List.mem_cons.1 hc with hc | hc
          · exact beside_ne x hc
          · have := g1 _ hc
            omega
      rw [List.flatMap_cons, lev_solo b _ x d s _ hh]
      by_cases hbx : beside x < l.length
      · have m1 : emit l (pre ++ x :: ks s) x = [l.getD (beside x) 0] := by
          unfold emit
          rw [if_pos ⟨hbx, hbs⟩, rd_nat]
        refine ⟨stepIn x (l.getD (beside x) 0) d :: i, (x / 2, Dig.digest b (stepIn x (l.getD (beside x) 0) d)) :: U, ?_, ?_⟩
        · rw [m1, e0, List.append_assoc, List.singleton_append]
          have hs1 : solo b l.length x d (l.getD (beside x) 0 :: ((ks s).flatMap (emit l (pre ++ [x] ++ ks s)) ++ t)) = some ([stepIn x (l.getD (beside x) 0) d], Dig.digest b (stepIn x (l.getD (beside x) 0) d), (ks s).flatMap (emit l (pre ++ [x] ++ ks s)) ++ t) := by
            unfold solo
            rw [if_pos hbx]
            show (if okd b (l.getD (beside x) 0) then _ else _) = _
            rw [if_pos (hget _ hbx)]
          rw [hs1, Option.bind_some, h1]
          rfl
        · intro z hz
          rcases List.mem_cons.1 hz with rfl | hz
          · show Dig.digest b (stepIn x (l.getD (beside x) 0) d) = (abv b l).getD (x / 2) 0
            rw [abv_getD l x hxn ho, if_pos hbx, hd]
          · exact h2 z hz
      · have m1 : emit l (pre ++ x :: ks s) x = [] := by
          unfold emit
          rw [if_neg (fun hc => hbx hc.1)]
        refine ⟨i, (x / 2, d) :: U, ?_, ?_⟩
        · rw [m1, e0, List.nil_append]
          have hs1 : ∀ p, solo b l.length x d p = some ([], d, p) := fun p => by unfold solo; rw [if_neg hbx]
          rw [hs1, Option.bind_some, h1]
          rfl
        · intro z hz
          rcases List.mem_cons.1 hz with rfl | hz
          · show d = (abv b l).getD (x / 2) 0
            rw [abv_getD l x hxn ho, if_neg hbx, hd]
          · exact h2 z hz
theorem mups_path {b : Int} (hb : 2 ≤ b ∧ b ≤ 60) (k : Nat) : ∀ (l : List Int) (L : Pl) (t : List Int), 1 ≤ l.length → l.length ≤ k + 1 → Srt L → L ≠ [] → (∀ x ∈ ks L, x < l.length) → (∀ x ∈ l, okd b x) → (∀ z ∈ L, z.2 = l.getD z.1 0) → ∃ i, mups b (k + 1) l.length L (mpo b k l (ks L) ++ t) = some (i, t, apex b k l) := by
  have one : ∀ (k : Nat) (l : List Int) (L : Pl) (t : List Int), l.length = 1 → Srt L → L ≠ [] → (∀ x ∈ ks L, x < l.length) → (∀ z ∈ L, z.2 = l.getD z.1 0) → mups b (k + 1) l.length L t = some ([], t, rd l 0) := by
    intro k l L t h1 hs h0 hn hv
    obtain ⟨y, rfl⟩ := one_L hs (by rw [← h1]; exact hn) h0
    have hy : y = l.getD 0 0 := hv (0, y) List.mem_cons_self
    rw [mups_le b k _ _ _ (by omega), show rd l 0 = l.getD 0 0 from rd_nat l 0, ← hy]
    rfl
  induction k with
  | zero =>
    intro l L t h1 h2 hs h0 hn ho hv
    exact ⟨[], one 0 l L t (by omega) hs h0 hn hv⟩
  | succ k ih =>
    intro l L t h1 h2 hs h0 hn ho hv
    unfold mpo apex
    by_cases h : l.length = 1
    · rw [if_pos h, if_pos h]
      exact ⟨[], one (k + 1) l L t h hs h0 hn hv⟩
    · rw [if_neg h, if_neg h]
      have hl := abv_length b l
      obtain ⟨i, U, e1, e2⟩ := lev_path hb ho L.length [] L (mpo b k (abv b l) (up1 (ks L)) ++ t) (Nat.le_refl _) hs hn hv (fun a ha => by cases ha)
      rw [List.nil_append, ← List.append_assoc] at e1
      have hvo : ∀ z ∈ L, okd b z.2 := fun z hz => by
        rw [hv z hz, List.getD_eq_getElem?_getD, List.getElem?_eq_getElem (hn z.1 (List.mem_map_of_mem (f := Prod.fst) hz))]
        exact ho _ (List.getElem_mem _)
      obtain ⟨a1, a2, a3, a4, _, _⟩ := lev_next hb hs hn hvo e1
      simp only at a1 a2 a3 a4
      obtain ⟨j, e3⟩ := ih (abv b l) U t (by omega) (by omega) a2 (lev_some (b := b) (n := l.length) (u := (i, U, ([] : List Int))) h0 a1) (by rw [hl]; exact a3) (abv_okd hb l ho) e2
      rw [a1, hl] at e3
      refine ⟨i ++ j, ?_⟩
      rw [mups_step b (k + 1) l.length L _ (by omega)]
      show (lev b l.length L (outs l (ks L) ++ mpo b k (abv b l) (up1 (ks L)) ++ t)).bind _ = _
      unfold outs
      rw [e1, Option.bind_some]
      simp only
      rw [e3]
      rfl
theorem plc_I {n : Nat} : ∀ (m : List Nat) (p : Int), m.Pairwise (· < ·) → (∀ x ∈ m, x < n) → (∀ x ∈ m, p < (x : Int)) → plc (n : Int) p (I m) = true
  | [], p, _, _, _ => by unfold I; rw [List.map_nil, plc]
  | x :: m, p, hs, hn, hp => by
    obtain ⟨h1, h2⟩ := List.pairwise_cons.1 hs
    have hx := hn x List.mem_cons_self
    have hpx := hp x List.mem_cons_self
    have hi := plc_I m (x : Int) h2 (fun y hy => hn y (List.mem_cons_of_mem _ hy)) (fun y hy => by have := h1 y hy; omega)
    have e : I (x :: m) = (x : Int) :: I m := rfl
    rw [e, plc, hi, decide_eq_true (by omega : (0 : Int) ≤ (x : Int)), decide_eq_true (by omega : (x : Int) ≤ (n : Int) - 1), decide_eq_true hpx]
    rfl
theorem plcs_I {n : Nat} {m : List Nat} (h : Asc n m) (h0 : m ≠ []) : plcs (n : Int) (I m) = true := by
  have : 0 < m.length := by
    cases m with
    | nil => exact absurd rfl h0
    | cons x m => exact Nat.succ_pos _
  unfold plcs
  rw [plc_I m (-1) h.1 h.2 (fun x hx => by omega), I_length, decide_eq_true this]
  rfl
/-- Several leaves' path leads to the root. -/
theorem manyFrom_path {b : Int} {l : List (List Int)} (h : lok b l) {m : List Nat} (hm : Asc l.length m) (h0 : m ≠ []) : manyFrom b (l.length : Int) (I m) (m.map fun x => l.getD x []) (mpo b 15 (leafs b l) m) = treeRoot b l := by
  have hl := leafs_length b l
  have ho := leafs_okd h.1.1 h.2
  have h16 := h.1.2
  have hlen : (m.map fun x => l.getD x []).length = m.length := List.length_map _
  have hks := leafL_ks b m (m.map fun x => l.getD x []) hlen
  have hval : ∀ (m : List Nat), (∀ x ∈ m, x < l.length) → ∀ z ∈ leafL b m (m.map fun x => l.getD x []), z.2 = (leafs b l).getD z.1 0 := by
    intro m hx z hz
    unfold leafL at hz
    obtain ⟨y, hy, rfl⟩ := List.mem_map.1 hz
    have e : ∀ m : List Nat, m.zip (m.map fun x => l.getD x []) = m.map fun x => (x, l.getD x []) := by
      intro m
      induction m with
      | nil => rfl
      | cons a m ih => rw [List.map_cons, List.zip_cons_cons, ih]; rfl
    rw [e] at hy
    obtain ⟨x, hx2, rfl⟩ := List.mem_map.1 hy
    unfold leafs
    have hxl := hx x hx2
    have e3 : (l.map fun x => Dig.digest b (0 :: x)).getD x 0 = Dig.digest b (0 :: l[x]) := by
      rw [List.getD_eq_getElem?_getD, List.getElem?_map, List.getElem?_eq_getElem hxl]
      rfl
    have e4 : l.getD x [] = l[x] := by
      rw [List.getD_eq_getElem?_getD, List.getElem?_eq_getElem hxl]
      rfl
    show Dig.digest b (0 :: l.getD x []) = (l.map fun x => Dig.digest b (0 :: x)).getD x 0
    rw [e3, e4]
  have hne : leafL b m (m.map fun x => l.getD x []) ≠ [] := by
    intro e
    rw [e] at hks
    exact h0 hks.symm
  obtain ⟨i, e⟩ := mups_path h.1.1 15 (leafs b l) (leafL b m (m.map fun x => l.getD x [])) [] (by omega) (by omega) (by unfold Srt; rw [hks]; exact hm.1) hne (by rw [hks, hl]; exact hm.2) ho (hval m hm.2)
  rw [hks, hl, List.append_nil] at e
  have hmo : manyOk b (l.length : Int) (I m) (m.map fun x => l.getD x []) := by
    refine ⟨⟨h.1.1, by omega, by omega⟩, plcs_I hm h0, by rw [hlen, I_length], fun x hx => ?_⟩
    obtain ⟨y, hy, rfl⟩ := List.mem_map.1 hx
    exact h.2 _ (getD_mem (hm.2 y hy))
  have hw : mway b (l.length : Int) (I m) (m.map fun x => l.getD x []) (mpo b 15 (leafs b l) m) = some (i, [], apex b 15 (leafs b l)) := by
    unfold mway
    rw [toNat_I, Int.toNat_natCast]
    exact e
  rw [manyFrom_of hmo hw, Int.toNat_natCast]
  unfold treeRoot topOfL
  rw [if_pos h]
/-- A leaf's path alone is what several leaves' path is for it. -/
theorem pth_mpo (b : Int) (k : Nat) : ∀ (l : List Int) (a : Nat), 1 ≤ l.length → l.length ≤ k + 1 → a < l.length → pth a (lvs b k l) = mpo b k l [a] := by
  have one : ∀ (l : List Int) (a : Nat), l.length = 1 → a < l.length → pth a [l] = [] := by
    intro l a h1 ha
    obtain rfl : a = 0 := by omega
    unfold pth
    rw [if_neg (by unfold beside; rw [if_pos rfl]; omega)]
    rfl
  induction k with
  | zero =>
    intro l a h1 h2 ha
    unfold lvs mpo
    exact one l a (by omega) ha
  | succ k ih =>
    intro l a h1 h2 ha
    unfold lvs mpo
    by_cases h : l.length = 1
    · rw [if_pos h, if_pos h]
      exact one l a h ha
    · rw [if_neg h, if_neg h]
      have hl := abv_length b l
      have hu : up1 [a] = [a / 2] := rfl
      have ho : outs l [a] = if beside a < l.length then [l.getD (beside a) 0] else [] := by
        unfold outs
        rw [List.flatMap_cons, List.flatMap_nil, List.append_nil]
        unfold emit
        by_cases hb : beside a < l.length
        · rw [if_pos hb, if_pos ⟨hb, fun hc => beside_ne a (List.mem_singleton.1 hc)⟩, rd_nat]
        · rw [if_neg hb, if_neg (fun hc => hb hc.1)]
      rw [hu, ho, ← ih (abv b l) (a / 2) (by omega) (by omega) (by omega)]
      rfl
theorem and_bits_lt (x : Int) (j : Nat) (hj : j ≤ 62) (y : Int) (hy : y = ((2 ^ j - 1 : Nat) : Int)) : 0 ≤ Go.bits .and .i64 x y ∧ Go.bits .and .i64 x y < 2 ^ j := by
  subst hy
  have hp : 0 < 2 ^ j := Nat.two_pow_pos j
  have hle : (BitVec.ofInt 64 x &&& BitVec.ofInt 64 ((2 ^ j - 1 : Nat) : Int)).toNat ≤ 2 ^ j - 1 := by
    rw [BitVec.toNat_and, BitVec.ofInt_natCast, BitVec.toNat_ofNat]
    exact Nat.le_trans Nat.and_le_right (Nat.mod_le _ _)
  have h62 : 2 ^ j ≤ 2 ^ 62 := Nat.pow_le_pow_right (by decide) hj
  have e62 : (2 : Nat) ^ 62 = 4611686018427387904 := by decide
  have ec : (2 : Int) ^ j = ((2 ^ j : Nat) : Int) := by simp
  have h0 : (0 : Int) ≤ (((BitVec.ofInt 64 x &&& BitVec.ofInt 64 ((2 ^ j - 1 : Nat) : Int)).toNat : Nat) : Int) := Int.natCast_nonneg _
  have h1 : (((BitVec.ofInt 64 x &&& BitVec.ofInt 64 ((2 ^ j - 1 : Nat) : Int)).toNat : Nat) : Int) < 2 ^ 63 := by
    have : (2 : Int) ^ 63 = 9223372036854775808 := by decide
    omega
  have e : Go.bits .and .i64 x ((2 ^ j - 1 : Nat) : Int) = (((BitVec.ofInt 64 x &&& BitVec.ofInt 64 ((2 ^ j - 1 : Nat) : Int)).toNat : Nat) : Int) := wraps_i64 _ h0 h1
  rw [e, ec]
  omega
theorem and255 (x : Int) : 0 ≤ Go.bits .and .i64 x 255 ∧ Go.bits .and .i64 x 255 < 256 := by
  have := and_bits_lt x 8 (by decide) 255 (by decide)
  simpa using this
/-- Where a cursor stands: inside its bytes. -/
def Cur (b : List Int) (i : Int) : Prop := 0 ≤ i ∧ i ≤ b.length ∧ b.length ≤ 1048576
theorem d_new (l : List Int) (hl : l.length ≤ 1048576) : ∃ h, Ev (fun k => spec_l1New.f k l) (l, 0, h) := by
  have key : ∀ (n i : Nat) (h : Int), i + n = l.length → ∃ h', Ev (fun k => spec_l1New.l0 k l h (i : Int)) (l, 0, h') := by
    intro n
    induction n with
    | zero =>
      intro i h hi
      exact ⟨h, Ev.step (fun k => spec_l1New.l0.eq_2 ..) (ev_neg (by omega) (ev_ret rfl))⟩
    | succ n ih =>
      intro i h hi
      by_cases h4 : (i : Int) < 4000
      · obtain ⟨h', e⟩ := ih (i + 1) _ (by omega)
        refine ⟨h', Ev.step (fun k => spec_l1New.l0.eq_2 ..) (ev_pos (by omega) (ev_pos h4 (ev_pos (by omega) ?_)))⟩
        rw [wr_succ (by omega)]
        exact e
      · exact ⟨h, Ev.step (fun k => spec_l1New.l0.eq_2 ..) (ev_pos (by omega) (ev_neg h4 (ev_ret rfl)))⟩
  obtain ⟨h, e⟩ := key l.length 0 (wrap64 (88088 + (l.length : Int))) (Nat.zero_add _)
  exact ⟨h, e⟩
theorem d_cur {l : List Int} (hl : l.length ≤ 1048576) : Cur l 0 := ⟨Int.le_refl _, by omega, hl⟩
theorem d_byte {b : List Int} {i : Int} (h : Int) (hc : Cur b i) : ∃ v i' h', spec_l1Byte.f b i h = some (v, i', h') ∧ 0 ≤ v ∧ v < 256 ∧ Cur b i' := by
  obtain ⟨h0, h1, h2⟩ := hc
  unfold spec_l1Byte.f
  by_cases hi : i < (b.length : Int)
  · rw [if_pos hi, if_pos h0]
    exact ⟨_, _, _, rfl, (and255 _).1, (and255 _).2, by rw [wr (by omega) (by omega)]; omega, by rw [wr (by omega) (by omega)]; omega, h2⟩
  · rw [if_neg hi]
    exact ⟨_, _, _, rfl, (and255 _).1, (and255 _).2, h0, h1, h2⟩
theorem d_below {b : List Int} {i : Int} (h : Int) (hc : Cur b i) (n : Int) (hn : n ≤ 1000000) : ∃ v i' h', spec_l1Below.f b i h n = some (v, i', h') ∧ 0 ≤ v ∧ (v < n ∨ v = 0) ∧ Cur b i' := by
  unfold spec_l1Below.f
  by_cases h0 : n ≤ 0
  · rw [if_pos h0]
    exact ⟨_, _, _, rfl, Int.le_refl _, .inr rfl, hc⟩
  rw [if_neg h0]
  obtain ⟨v, i1, h1, e1, v0, v1, c1⟩ := d_byte h hc
  by_cases h256 : n ≤ 256
  · rw [if_pos h256, e1, Option.bind_some, if_neg (by omega)]
    refine ⟨_, _, _, rfl, ?_, .inl ?_, c1⟩
    · rw [Int.tmod_eq_emod_of_nonneg v0]; exact Int.emod_nonneg _ (by omega)
    · rw [Int.tmod_eq_emod_of_nonneg v0]; exact Int.emod_lt_of_pos _ (by omega)
  · rw [if_neg h256, e1, Option.bind_some]
    obtain ⟨x, i2, h2, e2, x0, x1, c2⟩ := d_byte h1 c1
    rw [e2, Option.bind_some]
    obtain ⟨y, i3, h3, e3, y0, y1, c3⟩ := d_byte h2 c2
    rw [e3, Option.bind_some]
    obtain ⟨z, i4, h4, e4, z0, z1, c4⟩ := d_byte h3 c3
    rw [e4, Option.bind_some, if_neg (by omega)]
    have ew : wrap64 ((wrap64 ((wrap64 ((wrap64 (v * 16777216)) + (wrap64 (x * 65536)))) + (wrap64 (y * 256)))) + z) = v * 16777216 + x * 65536 + y * 256 + z := by
      rw [wr (n := v * 16777216) (by omega) (by omega), wr (n := x * 65536) (by omega) (by omega), wr (n := v * 16777216 + x * 65536) (by omega) (by omega), wr (n := y * 256) (by omega) (by omega), wr (n := v * 16777216 + x * 65536 + y * 256) (by omega) (by omega), wr (by omega) (by omega)]
    refine ⟨_, _, _, rfl, ?_, .inl ?_, c4⟩
    · show 0 ≤ Int.tmod (wrap64 ((wrap64 ((wrap64 ((wrap64 (v * 16777216)) + (wrap64 (x * 65536)))) + (wrap64 (y * 256)))) + z)) n
      rw [ew, Int.tmod_eq_emod_of_nonneg (by omega)]
      exact Int.emod_nonneg _ (by omega)
    · show Int.tmod (wrap64 ((wrap64 ((wrap64 ((wrap64 (v * 16777216)) + (wrap64 (x * 65536)))) + (wrap64 (y * 256)))) + z)) n < n
      rw [ew, Int.tmod_eq_emod_of_nonneg (by omega)]
      exact Int.emod_lt_of_pos _ (by omega)
theorem d_data {b : List Int} {i : Int} (h : Int) (hc : Cur b i) (n : Nat) (hn : n ≤ 1000) : ∃ l i' h', Ev (fun k => spec_l1DrawData.f k b i h (n : Int)) (l, i', h') ∧ l.length ≤ n ∧ (∀ x ∈ l, 0 ≤ x ∧ x < 256) ∧ Cur b i' := by
  have key : ∀ (m : Nat) (o : List Int) (i h : Int), o.length + m ≤ 1000 → Cur b i → (∀ x ∈ o, 0 ≤ x ∧ x < 256) → ∃ l i' h', Ev (fun k => spec_l1DrawData.l0 k o (m : Int) b i h) (l, i', h') ∧ l.length = o.length + m ∧ (∀ x ∈ l, 0 ≤ x ∧ x < 256) ∧ Cur b i' := by
    intro m
    induction m with
    | zero =>
      intro o i h ho hc hb
      exact ⟨o, i, h, Ev.step (fun k => spec_l1DrawData.l0.eq_2 ..) (ev_neg (by omega) (ev_ret rfl)), rfl, hb, hc⟩
    | succ m ih =>
      intro o i h ho hc hb
      obtain ⟨v, i1, h1, e1, v0, v1, c1⟩ := d_byte h hc
      have ev : v % 256 = v := by omega
      obtain ⟨l, i2, h2, e2, hl, hx, c2⟩ := ih (o ++ [v]) i1 h1 (by simp only [List.length_append, List.length_singleton]; omega) c1 (by
        intro x hx
        rcases List.mem_append.1 hx with hx | hx
        · exact hb x hx
        · rw [List.mem_singleton.1 hx]; exact ⟨v0, v1⟩)
      refine ⟨l, i2, h2, Ev.step (fun k => spec_l1DrawData.l0.eq_2 ..) (ev_pos (by omega) (ev_pure e1 (ev_pos (by omega) ?_))), by rw [hl, List.length_append, List.length_singleton]; omega, hx, c2⟩
      have ew : wrap64 (((m + 1 : Nat) : Int) - 1) = (m : Int) := by rw [wr (by omega) (by omega)]; omega
      rw [ew]
      show Ev (fun k => spec_l1DrawData.l0 k (o ++ [v % 256]) (m : Int) b i1 h1) _
      rw [ev]
      exact e2
  obtain ⟨v, i1, h1, e1, v0, v1, c1⟩ := d_below h hc (n : Int) (by omega)
  obtain ⟨m, rfl⟩ := Int.eq_ofNat_of_zero_le v0
  obtain ⟨l, i2, h2, e2, hl, hx, c2⟩ := key m [] i1 h1 (by simp; omega) c1 (by simp)
  refine ⟨l, i2, h2, ?_, by rw [hl]; simp; omega, hx, c2⟩
  unfold spec_l1DrawData.f
  exact ev_pure e1 e2
theorem d_pick {b : List Int} {i : Int} (h : Int) (hc : Cur b i) (l : List Int) (h0 : 0 < l.length) (h1 : l.length ≤ 100) : ∃ v i' h', spec_l1PickInt.f b i h l = some (v, i', h') ∧ v ∈ l ∧ Cur b i' := by
  obtain ⟨v, i', h', e, v0, v1, c⟩ := d_below h hc (l.length : Int) (by omega)
  unfold spec_l1PickInt.f
  rw [e, Option.bind_some]
  have hv : v < (l.length : Int) := by omega
  rw [if_pos v0, if_pos hv]
  refine ⟨_, _, _, rfl, ?_, c⟩
  show rd l v ∈ l
  unfold rd
  rw [List.getD_eq_getElem?_getD, List.getElem?_eq_getElem (by omega)]
  exact List.getElem_mem _
theorem d_once {b : List Int} {i : Int} (h : Int) (hc : Cur b i) (n : Int) (hn : n ≤ 1000000) : ∃ v i' h', spec_l1Once.f b i h n = some (v, i', h') ∧ Cur b i' := by
  obtain ⟨v, i', h', e, _, _, c⟩ := d_below h hc n hn
  unfold spec_l1Once.f
  rw [e, Option.bind_some]
  exact ⟨_, _, _, rfl, c⟩
theorem small_l0 (m : Nat) : ∀ {b : List Int} (o : List (List Int)) (i h : Int), o.length + m ≤ 16 → Cur b i → (∀ x ∈ o, x.length ≤ 4 ∧ ∀ z ∈ x, 0 ≤ z ∧ z < 256) →
    ∃ (bits : Int) (ls : List (List Int)) (i' h' : Int), Ev (fun k => spec_l3DrawSmall.l0 k o (m : Int) b i h) (bits, ls, i', h') ∧ (2 ≤ bits ∧ bits ≤ 60) ∧ ls.length = o.length + m ∧ (∀ x ∈ ls, x.length ≤ 4 ∧ ∀ z ∈ x, 0 ≤ z ∧ z < 256) ∧ Cur b i' := by
  induction m with
  | zero =>
    intro b o i h h1 hc ho
    obtain ⟨v, i', h', e, hv, c⟩ := d_pick h hc [2, 3, 4, 2, 3, 8, 60, 5] (by decide) (by decide)
    refine ⟨v, o, i', h', Ev.step (fun k => spec_l3DrawSmall.l0.eq_2 ..) (ev_neg (by omega) (ev_pure e (ev_ret rfl))), ?_, rfl, ho, c⟩
    simp only [List.mem_cons, List.not_mem_nil, or_false] at hv
    omega
  | succ m ih =>
    intro b o i h h1 hc ho
    obtain ⟨d, i1, hh, e1, hd, hx, c1⟩ := d_data h hc 4 (by decide)
    obtain ⟨bits, ls, i2, h2, e, hb, hl, hk, c2⟩ := ih (o ++ [d]) i1 hh (by rw [List.length_append, List.length_singleton]; omega) c1 (fun x hx' => by
      rcases List.mem_append.1 hx' with hx' | hx'
      · exact ho x hx'
      · rw [List.mem_singleton] at hx'
        subst hx'
        exact ⟨hd, hx⟩)
    refine ⟨bits, ls, i2, h2, Ev.step (fun k => spec_l3DrawSmall.l0.eq_2 ..) (ev_pos (by omega) (ev_bind e1 (ev_pos (by omega) ?_))), hb, by rw [hl, List.length_append, List.length_singleton]; omega, hk, c2⟩
    rw [show wrap64 (((m + 1 : Nat) : Int) - 1) = (m : Int) by rw [wr (by omega) (by omega)]; omega]
    exact e
theorem d_small {b : List Int} {i : Int} (h : Int) (hc : Cur b i) : ∃ (bits : Int) (ls : List (List Int)) (i' h' : Int), Ev (fun k => spec_l3DrawSmall.f k b i h) (bits, ls, i', h') ∧ lok bits ls ∧ ls.length ≤ 6 ∧ (∀ x ∈ ls, x.length ≤ 4 ∧ ∀ z ∈ x, 0 ≤ z ∧ z < 256) ∧ Cur b i' := by
  obtain ⟨d, i1, h1, e1, hd, hx, c1⟩ := d_data h hc 4 (by decide)
  obtain ⟨v, i2, h2, e2, v0, v1, c2⟩ := d_below h1 c1 6 (by decide)
  obtain ⟨m, rfl⟩ := Int.eq_ofNat_of_zero_le v0
  obtain ⟨bits, ls, i3, h3, e3, hb, hl, hk, c3⟩ := small_l0 m [d] i2 h2 (by simp only [List.length_singleton]; omega) c2 (fun x hx' => by rw [List.mem_singleton] at hx'; subst hx'; exact ⟨hd, hx⟩)
  rw [List.length_singleton] at hl
  refine ⟨bits, ls, i3, h3, ?_, ⟨⟨hb, by omega, by omega⟩, fun x hx' => by have := (hk x hx').1; omega⟩, by omega, hk, c3⟩
  unfold spec_l3DrawSmall.f
  exact ev_bind e1 (ev_pure e2 e3)
theorem at_ok {m : List Nat} (hm : ∀ c ∈ m, c < 256) (hl : m.length ≤ 1048576) (i : Nat) (hi : i ≤ 1000000) : ∃ n : Nat, n < 256 ∧ laws_at.f (I m) (i : Int) = some (n : Int) := by
  unfold laws_at.f
  by_cases h : i < m.length
  · refine ⟨m.getD i 0, getD_lt hm (by decide) i, ?_⟩
    have := getD_lt hm (by decide) i
    rw [if_pos (by rw [I_length]; omega), if_pos (by omega), rd_I, wrn (by omega)]
  · refine ⟨(i * 7 + m.length) % 256, Nat.mod_lt _ (by decide), ?_⟩
    rw [if_neg (by rw [I_length]; omega), I_length, wr (n := (i : Int) * 7) (by omega) (by omega), wr (by omega) (by omega), Int.tmod_eq_emod_of_nonneg (by omega)]
    congr 1
theorem draw_l0 (m : Nat) : ∀ {b : List Int} (o : List (List Int)) (i h : Int), o.length + m ≤ 16 → 1 ≤ o.length → Cur b i → (∀ x ∈ o, x.length < 4000) →
    ∃ (bits : Int) (ls : List (List Int)), Ev (fun k => spec_DrawLeaves.l0 k o (m : Int) b i h) (bits, ls) ∧ lok bits ls := by
  induction m with
  | zero =>
    intro b o i h h1 h2 hc ho
    obtain ⟨v, i', h', e, hv, _⟩ := d_pick h hc [2, 3, 4, 8, 16, 32, 60, 5] (by decide) (by decide)
    refine ⟨v, o, Ev.step (fun k => spec_DrawLeaves.l0.eq_2 ..) (ev_neg (by omega) (ev_pure e (ev_ret rfl))), ⟨⟨?_, by omega, by omega⟩, ho⟩⟩
    simp only [List.mem_cons, List.not_mem_nil, or_false] at hv
    omega
  | succ m ih =>
    intro b o i h h1 h2 hc ho
    obtain ⟨d, i1, hh, e1, hd, _, c1⟩ := d_data h hc 5 (by decide)
    obtain ⟨bits, ls, e, hk⟩ := ih (o ++ [d]) i1 hh (by rw [List.length_append, List.length_singleton]; omega) (by rw [List.length_append]; omega) c1 (fun x hx => by
      rcases List.mem_append.1 hx with hx | hx
      · exact ho x hx
      · rw [List.mem_singleton] at hx
        subst hx
        omega)
    refine ⟨bits, ls, Ev.step (fun k => spec_DrawLeaves.l0.eq_2 ..) (ev_pos (by omega) (ev_bind e1 (ev_pos (by omega) ?_))), hk⟩
    rw [show wrap64 (((m + 1 : Nat) : Int) - 1) = (m : Int) by rw [wr (by omega) (by omega)]; omega]
    exact e
theorem draw_leaves (l : List Int) (hl : l.length ≤ 1048576) : ∃ (bits : Int) (ls : List (List Int)), Ev (fun k => spec_DrawLeaves.f k l) (bits, ls) ∧ lok bits ls := by
  obtain ⟨h0, e0⟩ := d_new l hl
  obtain ⟨d, i1, h1, e1, hd, _, c1⟩ := d_data h0 (d_cur hl) 5 (by decide)
  obtain ⟨v, i2, h2, e2, v0, v1, c2⟩ := d_below h1 c1 10 (by decide)
  obtain ⟨m, rfl⟩ := Int.eq_ofNat_of_zero_le v0
  obtain ⟨bits, ls, e, hk⟩ := draw_l0 m [d] i2 h2 (by simp only [List.length_singleton]; omega) (by simp) c2 (fun x hx => by rw [List.mem_singleton] at hx; subst hx; omega)
  refine ⟨bits, ls, ?_, hk⟩
  unfold spec_DrawLeaves.f
  exact ev_bind e0 (ev_bind e1 (ev_pure e2 e))
theorem treeRoot_in {b : Int} {l : List (List Int)} (h : lok b l) : 0 ≤ treeRoot b l ∧ treeRoot b l < 2 ^ b.toNat := by
  unfold treeRoot
  rw [if_pos h]
  exact Dig.digest_range h.1.1.1 h.1.1.2 (by have := topIn_le l.length (apex b 15 (leafs b l)); unfold topOfL; omega)
theorem places_l0 (n : Nat) (hn : n ≤ 100) (q : Nat) : ∀ (j : Nat) (o : List Int) {b : List Int} (i h : Int), j + q = n → o.length ≤ j → Cur b i → ∃ (m : List Int) (i' h' : Int), Ev (fun k => spec_l2DrawPlaces.l0 k (n : Int) o (j : Int) b i h) (m, i', h') ∧ m.length ≤ n + 1 ∧ Cur b i' := by
  induction q with
  | zero =>
    intro j o b i h hj ho hc
    obtain ⟨v, i1, h1, e1, v0, v1, c1⟩ := d_below h hc 15 (by decide)
    by_cases v_0 : v = 0
    · exact ⟨o ++ [(n : Int)], i1, h1, Ev.step (fun k => spec_l2DrawPlaces.l0.eq_2 ..) (ev_neg (by omega) (ev_pure e1 (ev_pos v_0 (ev_pos (by omega) (ev_ret rfl))))), by rw [List.length_append, List.length_singleton]; omega, c1⟩
    by_cases v_1 : v = 1
    · obtain ⟨u, i2, h2, e2, _, _, c2⟩ := d_below h1 c1 3 (by decide)
      exact ⟨[wrap64 (u - 1)] ++ o, i2, h2, Ev.step (fun k => spec_l2DrawPlaces.l0.eq_2 ..) (ev_neg (by omega) (ev_pure e1 (ev_neg v_0 (ev_pos v_1 (ev_pure e2 (ev_some (ev_pos (by simp only [List.length_singleton]; omega) (ev_ret rfl)))))))), by rw [List.length_append, List.length_singleton]; omega, c2⟩
    · exact ⟨o, i1, h1, Ev.step (fun k => spec_l2DrawPlaces.l0.eq_2 ..) (ev_neg (by omega) (ev_pure e1 (ev_neg v_0 (ev_neg v_1 (ev_ret rfl))))), by omega, c1⟩
  | succ q ih =>
    intro j o b i h hj ho hc
    obtain ⟨v, i1, h1, e1, c1⟩ := d_once h hc 2 (by decide)
    by_cases hv : v = true
    · obtain ⟨m, i2, h2, e2, hm, c2⟩ := ih (j + 1) (o ++ [(j : Int)]) i1 h1 (by omega) (by rw [List.length_append, List.length_singleton]; omega) c1
      refine ⟨m, i2, h2, Ev.step (fun k => spec_l2DrawPlaces.l0.eq_2 ..) (ev_pos (by omega) (ev_pure e1 (ev_pos hv (ev_pos (by omega) ?_)))), hm, c2⟩
      rw [wr_succ (by omega)]
      exact e2
    · obtain ⟨m, i2, h2, e2, hm, c2⟩ := ih (j + 1) o i1 h1 (by omega) (by omega) c1
      refine ⟨m, i2, h2, Ev.step (fun k => spec_l2DrawPlaces.l0.eq_2 ..) (ev_pos (by omega) (ev_pure e1 (ev_neg hv ?_))), hm, c2⟩
      rw [wr_succ (by omega)]
      exact e2
theorem d_places {n : Nat} (hn : n ≤ 100) {b : List Int} {i : Int} (h : Int) (hc : Cur b i) : ∃ (m : List Int) (i' h' : Int), Ev (fun k => spec_l2DrawPlaces.f k b i h (n : Int)) (m, i', h') ∧ m.length ≤ n + 1 ∧ Cur b i' := by
  unfold spec_l2DrawPlaces.f
  exact places_l0 n hn n 0 [] i h (Nat.zero_add _) (Nat.le_refl _) hc
theorem lists1_l0 {ls : List (List Int)} (hn : ls.length ≤ 1000) (hk : ∀ x ∈ ls, x.length ≤ 1000) (n : Nat) : ∀ i : Nat, i + n = ls.length → Ev (fun k => spec_l1Lists.l0 k ls (ls.take i) (i : Int)) ls := by
  induction n with
  | zero =>
    intro i hi
    rw [List.take_of_length_le (by omega)]
    exact Ev.step (fun k => spec_l1Lists.l0.eq_2 ..) (ev_neg (by omega) (ev_ret rfl))
  | succ n ih =>
    intro i hi
    have hm := hk _ (getD_mem (l := ls) (i := i) (by omega))
    have hlen : (ls.take i).length = i := by rw [List.length_take]; omega
    refine Ev.step (fun k => spec_l1Lists.l0.eq_2 ..) (ev_pos (by omega) (ev_pos (by omega) (ev_pure (a := ls.getD i []) ?_ (ev_pos (by omega) ?_))))
    · rw [rdB_nat]
      unfold spec_l1Bytes.f
      rw [Option.bind_some, if_pos (by simp only [List.length_nil]; omega), List.nil_append]
    · rw [wr_succ (by omega), take_getD ls [] i (by omega)]
      exact ih (i + 1) (by omega)
theorem d_many {c : List Int} {i : Int} (h : Int) (hc : Cur c i) (n : Nat) (hn : n ≤ 100) : ∃ x i' h', spec_l1Below.f c i h 20 = some (x, i', h') ∧ wrap64 ((n : Int) + wrap64 (Int.tdiv x 19)) = wrap64 ((n : Int) + wrap64 (Int.tdiv x 19)) := by
  obtain ⟨v, i1, h1, e1, _⟩ := d_below h hc 20 (by decide)
  exact ⟨v, i1, h1, e1, rfl⟩
/-- The loop that seeks other leaves. -/
theorem many_l1 (bits : Int) (ls : List (List Int)) (hls : ls.length ≤ 100) (at_ : List Int) (hat : at_.length ≤ 1000) (p : List Int) (a : List (List Int)) (root : Int) (n : Nat) : ∀ (j : Nat) (l : List (List Int)) {c : List Int} (i h : Int), j + n = 30 → l.length ≤ 1000 → Cur c i →
    ∃ (m : Int) (y : List (List Int)), Ev (fun k => spec_DrawFromMany.l1 k bits ls at_ p a root l (j : Int) c i h) (bits, m, at_, a, y, p) ∧ y.length ≤ 1000 := by
  induction n with
  | zero =>
    intro j l c i h hj hl hc
    obtain ⟨v, i1, h1, e1, _⟩ := d_many h hc ls.length hls
    exact ⟨_, l, Ev.step (fun k => spec_DrawFromMany.l1.eq_2 ..) (ev_neg (by omega) (ev_pure e1 (ev_ret rfl))), hl⟩
  | succ n ih =>
    intro j l c i h hj hl hc
    by_cases h0 : (l.length : Int) > 0
    · obtain ⟨v, i1, h1, e1, v0, v1, c1⟩ := d_below h hc (l.length : Int) (by omega)
      obtain ⟨q, rfl⟩ := Int.eq_ofNat_of_zero_le v0
      obtain ⟨d, i2, h2, e2, _, _, c2⟩ := d_data h1 c1 4 (by decide)
      have hlen : (l.set q d).length = l.length := List.length_set
      have ep := spec_manyproven bits root (ls.length : Int) at_ (l.set q d) p (by omega) (by rw [hlen]; omega)
      have hq : (q : Int) < (l.length : Int) := by omega
      have key : ∀ (o : Bool) (i3 h3 : Int), Cur c i3 → ∃ (m : Int) (y : List (List Int)), Ev (fun k => if o = true then spec_DrawFromMany.l1 k bits ls at_ p a root (l.set q d) ((j + 1 : Nat) : Int) c i3 h3 else spec_DrawFromMany.l1 k bits ls at_ p a root ((l.set q d).set q (rd_L1 l (q : Int))) ((j + 1 : Nat) : Int) c i3 h3) (bits, m, at_, a, y, p) ∧ y.length ≤ 1000 := by
        intro o i3 h3 c3
        by_cases ho : o = true
        · obtain ⟨m, y, e, hy⟩ := ih (j + 1) (l.set q d) i3 h3 (by omega) (by rw [hlen]; omega) c3
          exact ⟨m, y, ev_pos ho e, hy⟩
        · obtain ⟨m, y, e, hy⟩ := ih (j + 1) ((l.set q d).set q (rd_L1 l (q : Int))) i3 h3 (by omega) (by rw [List.length_set, hlen]; omega) c3
          exact ⟨m, y, ev_neg ho e, hy⟩
      by_cases hp : manyProven bits root (ls.length : Int) at_ (l.set q d) p = true
      · have es : spec_l1Same.f (rd_L1 l (q : Int)) (rd_L1 (l.set q d) (q : Int)) = some (same (rd_L1 l (q : Int)) (rd_L1 (l.set q d) (q : Int))) := rfl
        by_cases hs : same (rd_L1 l (q : Int)) (rd_L1 (l.set q d) (q : Int)) = true
        · obtain ⟨o, i3, h3, e3, c3⟩ := d_once h2 c2 20 (by decide)
          obtain ⟨m, y, e, hy⟩ := key o i3 h3 c3
          refine ⟨m, y, Ev.step (fun k => spec_DrawFromMany.l1.eq_2 ..) (ev_pos (by omega) (ev_pos h0 (ev_pure e1 (ev_pos (Int.natCast_nonneg _) (ev_pos hq (ev_bind e2 (ev_some ?_))))))), hy⟩
          rw [wr_succ (by omega), Int.toNat_natCast]
          exact ev_bind ep (ev_pos hp (ev_pure es (ev_pos hs (ev_pure e3 e))))
        · obtain ⟨u, i3, h3, e3, _⟩ := d_many h2 c2 ls.length hls
          refine ⟨wrap64 ((ls.length : Int) + wrap64 (Int.tdiv u 19)), l.set q d, Ev.step (fun k => spec_DrawFromMany.l1.eq_2 ..) (ev_pos (by omega) (ev_pos h0 (ev_pure e1 (ev_pos (Int.natCast_nonneg _) (ev_pos hq (ev_bind e2 (ev_some ?_))))))), by rw [hlen]; omega⟩
          rw [Int.toNat_natCast]
          exact ev_bind ep (ev_pos hp (ev_pure es (ev_neg hs (ev_pure e3 (ev_ret rfl)))))
      · obtain ⟨o, i3, h3, e3, c3⟩ := d_once h2 c2 20 (by decide)
        obtain ⟨m, y, e, hy⟩ := key o i3 h3 c3
        refine ⟨m, y, Ev.step (fun k => spec_DrawFromMany.l1.eq_2 ..) (ev_pos (by omega) (ev_pos h0 (ev_pure e1 (ev_pos (Int.natCast_nonneg _) (ev_pos hq (ev_bind e2 (ev_some ?_))))))), hy⟩
        rw [wr_succ (by omega), Int.toNat_natCast]
        exact ev_bind ep (ev_neg hp (ev_pure e3 e))
    · obtain ⟨v, i1, h1, e1, _⟩ := d_many h hc ls.length hls
      exact ⟨_, l, Ev.step (fun k => spec_DrawFromMany.l1.eq_2 ..) (ev_pos (by omega) (ev_neg h0 (ev_pure e1 (ev_ret rfl)))), hl⟩
theorem many_l0 (bits : Int) (ls : List (List Int)) (hls : ls.length ≤ 100) (hrow : ∀ x ∈ ls, x.length ≤ 1000) (at_ : List Int) (hat : at_.length ≤ 1000) (p : List Int) {c : List Int} (i h : Int) (hc : Cur c i) (n : Nat) : ∀ (j : Nat) (a : List (List Int)), j + n = at_.length → a.length ≤ j → (∀ x ∈ a, x.length ≤ 1000) →
    ∃ (m : Int) (x y : List (List Int)), Ev (fun k => spec_DrawFromMany.l0 k bits ls at_ p a (j : Int) c i h) (bits, m, at_, x, y, p) ∧ x.length ≤ 1000 ∧ y.length ≤ 1000 := by
  induction n with
  | zero =>
    intro j a hj ha hr
    obtain ⟨m, y, e, hy⟩ := many_l1 bits ls hls at_ hat p a (treeRoot bits ls) 30 0 a i h rfl (by omega) hc
    refine ⟨m, a, y, Ev.step (fun k => spec_DrawFromMany.l0.eq_2 ..) (ev_neg (by omega) (ev_bind (spec_treeroot bits ls (by omega)) (ev_bind (a := a) ?_ e))), by omega, hy⟩
    unfold spec_l1Lists.f
    exact lists1_l0 (by omega) hr a.length 0 (Nat.zero_add _)
  | succ n ih =>
    intro j a hj ha hr
    have hin := sin_val (rd at_ (j : Int)) 0 (wrap64 ((ls.length : Int) - 1))
    rw [wr (n := (ls.length : Int) - 1) (by omega) (by omega)] at hin
    by_cases hq : 0 ≤ rd at_ (j : Int) ∧ rd at_ (j : Int) ≤ (ls.length : Int) - 1
    · obtain ⟨q, eq⟩ := Int.eq_ofNat_of_zero_le hq.1
      have hm := hrow _ (getD_mem (l := ls) (i := q) (by omega))
      obtain ⟨m, x, y, e, hx, hy⟩ := ih (j + 1) (a ++ [ls.getD q []]) (by omega) (by rw [List.length_append, List.length_singleton]; omega) (fun z hz => by
        rcases List.mem_append.1 hz with hz | hz
        · exact hr z hz
        · rw [List.mem_singleton] at hz
          subst hz
          exact hm)
      refine ⟨m, x, y, Ev.step (fun k => spec_DrawFromMany.l0.eq_2 ..) (ev_pos (by omega) (ev_pos (by omega) ?_)), hx, hy⟩
      rw [wr (n := (ls.length : Int) - 1) (by omega) (by omega)]
      refine ev_pure hin (ev_pos (by rw [decide_eq_true hq.1, decide_eq_true hq.2]; rfl) (ev_pos hq.1 (ev_pos (by omega) (ev_pure (a := ls.getD q []) ?_ (ev_pos (by omega) ?_)))))
      · rw [eq, rdB_nat]
        unfold spec_l1Bytes.f
        rw [Option.bind_some, if_pos (by simp only [List.length_nil]; omega), List.nil_append]
      · rw [wr_succ (by omega)]
        exact e
    · obtain ⟨m, x, y, e, hx, hy⟩ := ih (j + 1) a (by omega) (by omega) hr
      refine ⟨m, x, y, Ev.step (fun k => spec_DrawFromMany.l0.eq_2 ..) (ev_pos (by omega) (ev_pos (by omega) ?_)), hx, hy⟩
      rw [wr (n := (ls.length : Int) - 1) (by omega) (by omega)]
      refine ev_pure hin (ev_neg ?_ ?_)
      · simp only [Bool.and_eq_true, decide_eq_true_eq]
        exact hq
      · rw [wr_succ (by omega)]
        exact e
theorem draw_frommany (l : List Int) (hl : l.length ≤ 1048576) : ∃ (w m : Int) (at_ : List Int) (x y : List (List Int)) (p : List Int), Ev (fun k => spec_DrawFromMany.f k l) (w, m, at_, x, y, p) ∧ at_.length ≤ 1000 ∧ x.length ≤ 1000 ∧ y.length ≤ 1000 := by
  obtain ⟨h0, e0⟩ := d_new l hl
  obtain ⟨bits, ls, i1, h1, e1, hk, hn, hb, c1⟩ := d_small h0 (d_cur hl)
  obtain ⟨at_, i2, h2, e2, ha, c2⟩ := d_places (n := ls.length) (by omega) h1 c1
  have e3 := spec_many bits ls at_ (by omega) (by omega)
  obtain ⟨m, x, y, e, hx, hy⟩ := many_l0 bits ls (by omega) (fun x hx => by have := (hb x hx).1; omega) at_ (by omega) (manyOf bits ls at_).1 i2 h2 c2 at_.length 0 [] (Nat.zero_add _) (Nat.le_refl _) (fun x hx => by cases hx)
  refine ⟨bits, m, at_, x, y, (manyOf bits ls at_).1, ?_, by omega, hx, hy⟩
  unfold spec_DrawFromMany.f
  exact ev_bind e0 (ev_bind e1 (ev_bind e2 (ev_bind e3 e)))
theorem many_tail {c : List Int} (hc : c.length ≤ 1048576) (p : List Int) (hp : p.length ≤ 1000) (n : Nat) : ∀ j : Nat, j + n = p.length → Ev (fun k => laws_FnMany.l1 k c p p (j : Int)) true := by
  induction n with
  | zero =>
    intro j hj
    obtain ⟨w, m, at_, x, y, q, e, h1, h2, h3⟩ := draw_frommany c hc
    have ht := fromMany_told w m at_ x y q
    have hf := impl_frommany w m at_ x y q (by omega) (by omega) (by omega)
    have r1 := impl_manyfrom w m at_ x q (by omega) (by omega)
    have r2 := impl_manyfrom w m at_ y q (by omega) (by omega)
    generalize fromMany w m at_ x y q = f at ht hf
    generalize manyFrom w m at_ x q = u at ht r1
    generalize manyFrom w m at_ y q = v at ht r2
    refine Ev.step (fun k => laws_FnMany.l1.eq_2 ..) (ev_neg (by omega) (ev_bind e (ev_bind hf (ev_bind r1 (ev_bind r2 ?_)))))
    by_cases hq : f.2.2 = true
    · obtain ⟨t1, t2, t3⟩ := ht.1 hq
      exact ev_pos hq (ev_pure (impl_coll w f.1 f.2.1) (ev_pos t1 (ev_pos t2 (ev_ret (by rw [t3]; exact beq_self_eq_true _)))))
    · refine ev_neg hq ?_
      by_cases h0 : u < 0
      · exact ev_pos h0 (ev_ret rfl)
      · refine ev_neg h0 ?_
        by_cases huv : u = v
        · obtain ⟨t1, t2⟩ := ht.2 (by simpa using hq) (by omega) huv
          refine ev_pos huv (ev_pure (a := true) ?_ (ev_ret rfl))
          unfold laws_sameLists.f
          rw [t2, decide_eq_true t1]
          rfl
        · exact ev_neg huv (ev_ret rfl)
  | succ n ih =>
    intro j hj
    refine Ev.step (fun k => laws_FnMany.l1.eq_2 ..) (ev_pos (by omega) (ev_pos (by omega) (ev_pos (by omega) (ev_pos rfl ?_))))
    rw [wr_succ (by omega)]
    exact ih (j + 1) (by omega)
theorem mpo_1000 {b : Int} {l : List (List Int)} (h : lok b l) {m : List Nat} (hm : Asc l.length m) : (mpo b 15 (leafs b l) m).length ≤ 1000 := by
  have hl := leafs_length b l
  have := mpo_le b 15 (leafs b l) m (by rw [hl]; exact hm) (by have := h.1.2; omega)
  omega
theorem many_j1 {c : List Int} (hc : c.length ≤ 1048576) {b : Int} {l : List (List Int)} (h : lok b l) {m : List Nat} (hm : Asc l.length m) (h0 : m ≠ []) : Ev (fun k => laws_FnMany.j1 k c b l (I m) false) true := by
  have h16 := h.1.2
  have hl := leafs_length b l
  match m, h0 with
  | a :: m, _ =>
    have ha := hm.2 a List.mem_cons_self
    have hml := asc_length hm
    have er : rd (I (a :: m)) 0 = (a : Int) := rfl
    have hp := impl_pathof b l (a : Int)
    have hpo : pathOf b l (a : Int) = (pth a (lvs b 15 (leafs b l)), true) := by
      unfold pathOf
      rw [if_pos ⟨h, by omega, by omega⟩, Int.toNat_natCast]
    rw [hpo, pth_mpo b 15 (leafs b l) a (by omega) (by omega) (by omega)] at hp
    have h1 : Asc l.length [a] := ⟨List.pairwise_singleton _ _, fun x hx => by rw [List.mem_singleton] at hx; omega⟩
    have hq := impl_many b l (I [a]) (by omega) (by simp [I])
    have hmo : manyOf b l (I [a]) = (mpo b 15 (leafs b l) [a], true) := by
      unfold manyOf
      rw [if_pos h, if_pos (plcs_I h1 (by simp)), toNat_I]
    rw [hmo] at hq
    have hle := mpo_1000 h h1
    generalize mpo b 15 (leafs b l) [a] = p at hp hq hle
    refine Ev.step (fun k => laws_FnMany.j1.eq_2 ..) (ev_neg (by decide) (ev_pos (by rw [I_length, List.length_cons]; omega) ?_))
    rw [er]
    refine ev_bind hp (ev_bind hq (ev_pos rfl (ev_pos rfl ?_)))
    show Ev (fun k => laws_FnMany.j2 k c p p ((p.length : Int) != (p.length : Int))) true
    rw [bne_self_eq_false]
    exact Ev.step (fun k => laws_FnMany.j2.eq_2 ..) (ev_neg (by decide) (many_tail hc p hle p.length 0 (Nat.zero_add _)))
theorem many_loop {c : List Nat} (hw : ∀ x ∈ c, x < 256) (hc : c.length ≤ 1048576) {b : Int} {l : List (List Int)} (h : lok b l) (v : Nat) (hv : laws_at.f (I c) 30 = some (v : Int)) (n : Nat) : ∀ (i : Nat) (m : List Nat), i + n = l.length → m.Pairwise (· < ·) → (∀ x ∈ m, x < i) → (v % l.length < i → v % l.length ∈ m) →
    Ev (fun k => laws_FnMany.l0 k (I c) b l (treeRoot b l) (I m) (m.map fun x => l.getD x []) (i : Int)) true := by
  have h16 := h.1.2
  induction n with
  | zero =>
    intro i m hi hs hm hq
    have hm' : Asc l.length m := ⟨hs, fun x hx => by have := hm x hx; omega⟩
    have hml := asc_length hm'
    have h0 : m ≠ [] := by
      have := hq (by have := Nat.mod_lt v (show 0 < l.length by omega); omega)
      intro e
      rw [e] at this
      cases this
    have hmo : manyOf b l (I m) = (mpo b 15 (leafs b l) m, true) := by
      unfold manyOf
      rw [if_pos h, if_pos (plcs_I hm' h0), toNat_I]
    have e1 := impl_many b l (I m) (by omega) (by rw [I_length]; omega)
    rw [hmo] at e1
    have hr := manyFrom_path h hm' h0
    have e2 := impl_manyproven b (treeRoot b l) (l.length : Int) (I m) (m.map fun x => l.getD x []) (mpo b 15 (leafs b l) m) (by rw [I_length]; omega) (by rw [List.length_map]; omega)
    have e3 := impl_manyfrom b (l.length : Int) (I m) (m.map fun x => l.getD x []) (mpo b 15 (leafs b l) m) (by rw [I_length]; omega) (by rw [List.length_map]; omega)
    unfold manyProven at e2
    rw [hr] at e2 e3
    have ht := (treeRoot_in h).1
    refine Ev.step (fun k => laws_FnMany.l0.eq_2 ..) (ev_neg (by omega) (ev_bind e1 (ev_pos rfl (ev_bind e2 (ev_pos (decide_eq_true ⟨ht, rfl⟩) (ev_bind e3 ?_))))))
    rw [bne_self_eq_false]
    exact many_j1 (by rw [I_length]; exact hc) h hm' h0
  | succ n ih =>
    intro i m hi hs hm hq
    have hml := asc_length (n := l.length) ⟨hs, fun x hx => by have := hm x hx; omega⟩
    have hms : m.length ≤ i := by
      have := asc_length (n := i) ⟨hs, hm⟩
      exact this
    have hadd := ih (i + 1) (m ++ [i]) (by omega) (List.pairwise_append.2 ⟨hs, List.pairwise_singleton _ _, fun x hx y hy => by rw [List.mem_singleton] at hy; have := hm x hx; omega⟩) (fun x hx => by
      rcases List.mem_append.1 hx with hx | hx
      · have := hm x hx; omega
      · rw [List.mem_singleton] at hx; omega) (fun hlt => by
      by_cases he : v % l.length = i
      · rw [he]; simp
      · exact List.mem_append_left _ (hq (by omega)))
    rw [← I_snoc, List.map_append] at hadd
    have hadd' : Ev (fun k => laws_FnMany.l0 k (I c) b l (treeRoot b l) (I m ++ [(i : Int)]) ((m.map fun x => l.getD x []) ++ [rd_L1 l (i : Int)]) (wrap64 ((i : Int) + 1))) true := by
      rw [wr_succ (by omega), rdB_nat]
      exact hadd
    obtain ⟨u, _, hu⟩ := at_ok hw hc i (by omega)
    have hlm : (I m).length < 17592186044416 := by rw [I_length]; omega
    have hlx : (m.map fun x => l.getD x []).length < 5864062014805 := by rw [List.length_map]; omega
    refine Ev.step (fun k => laws_FnMany.l0.eq_2 ..) (ev_pos (by omega) (ev_pure hu ?_))
    by_cases he : Int.tmod (u : Int) 2 = 0
    · exact ev_pos he (ev_pos hlm (ev_pos (by omega) (ev_pos hlx hadd')))
    · have em : Int.tmod (v : Int) (l.length : Int) = ((v % l.length : Nat) : Int) := by
        rw [Int.tmod_eq_emod_of_nonneg (by omega)]
        rfl
      refine ev_neg he (ev_pure hv (ev_neg (by omega) ?_))
      rw [em]
      by_cases hvi : (i : Int) = ((v % l.length : Nat) : Int)
      · exact ev_pos hvi (ev_pos hlm (ev_pos (by omega) (ev_pos hlx hadd')))
      · refine ev_neg hvi ?_
        rw [wr_succ (by omega)]
        exact ih (i + 1) m (by omega) hs (fun x hx => by have := hm x hx; omega) (fun hlt => hq (by omega))
theorem FnMany : laws_FnMany.Pure := by
  intro l hl _ wb
  obtain ⟨m, rfl, hm⟩ := bytes_of wb
  refine Ev.rounds ?_
  unfold laws_FnMany.f
  refine ev_pure (a := decide (((I m).length : Int) > 1048576)) rfl ?_
  by_cases h : ((I m).length : Int) > 1048576
  · exact ev_pos (by simp [h]) (ev_ret rfl)
  refine ev_neg (by simp only [decide_eq_true_eq]; exact h) ?_
  rw [I_length] at h
  obtain ⟨b, ls, e, hk⟩ := draw_leaves (I m) (by rw [I_length]; omega)
  obtain ⟨v, _, hv⟩ := at_ok hm (by omega) 30 (by decide)
  exact ev_bind e (ev_bind (impl_treeroot b ls) (many_loop hm (by omega) hk v hv ls.length 0 [] (Nat.zero_add _) .nil (fun x hx => by cases hx) (fun hlt => absurd hlt (Nat.not_lt_zero _))))

end Go.Proofs.Ytchjajbkaiefdaa.Pure
