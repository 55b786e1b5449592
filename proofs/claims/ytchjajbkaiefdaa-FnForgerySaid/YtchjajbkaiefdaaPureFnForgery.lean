/- Two drawn lists of leaves with one root are alike, or two texts with one digest are told; so with two leaves at one place; a pair that collides is told as it is: for every text of bytes. -/
import Derived.Test.YtchjajbkaiefdaaPFnForgeryx16
import Derived.Test.YtchjajbkaiefdaaKit
import Derived.Test.YtchjajbkaiefdaaDig
namespace Go.Proofs.Ytchjajbkaiefdaa.Pure
open Go.RowKit Go.Proofs.Ytchjajbkaiefdaa Go.Proofs.Ytchjajbkaiefdaa.PFnForgery Go.Proofs.YtchjajbkaiefdaaW.PrintWords Go.Proofs.YtchjajbkaiefdaaW.PrintLast Go.Proofs.YtchjajbkaiefdaaW.PrintMore Go.Proofs.Ytchjajbkaiefdaa.K
set_option linter.unusedVariables false

theorem rdB_nat (l : List (List Int)) (i : Nat) : rd_L1 l (i : Int) = l.getD i [] := by unfold rd_L1; rw [Int.toNat_natCast]
theorem getD_mem {l : List (List Int)} {i : Nat} (h : i < l.length) : l.getD i [] ∈ l := by
  rw [List.getD_eq_getElem?_getD, List.getElem?_eq_getElem h]
  exact List.getElem_mem h
theorem dropB {l : List (List Int)} {i : Nat} (h : i < l.length) : l.drop i = l.getD i [] :: l.drop (i + 1) := drop_getD l [] i h
theorem digest_a (a0 : Int) (l : List Int) (h1 : 2 ≤ a0 ∧ a0 ≤ 60) (h2 : l.length ≤ 4000) : impl_Squeeze.f a0 l 1 = some ([Dig.out a0 (Dig.rnds 6 (Dig.taken l))], true) := by
  unfold impl_Squeeze.f
  rw [if_pos h1, if_pos h2, if_pos (by decide)]
  generalize Dig.rnds 6 (Dig.taken l) = s
  simp only [Int.toNat_one, Dig.squeeze]
theorem digest_b (a0 : Int) (l : List Int) (h : ¬ ((2 ≤ a0 ∧ a0 ≤ 60) ∧ l.length ≤ 4000)) : impl_Squeeze.f a0 l 1 = some ([], false) := by
  unfold impl_Squeeze.f
  by_cases h1 : 2 ≤ a0 ∧ a0 ≤ 60
  · rw [if_pos h1, if_neg (fun h2 => h ⟨h1, h2⟩)]
  · rw [if_neg h1]
theorem digest_fin (x : Int) : ((some ([x], true) : Option (List Int × Bool)).bind fun bt => (if bt.2 = true then (if 0 < (bt.1.length : Int) then (some (rd bt.1 0)) else (none)) else (some (-1)))) = some x := by
  rw [Option.bind_some, if_pos rfl, if_pos (by simp)]
  rfl
theorem digest_non : ((some ([], false) : Option (List Int × Bool)).bind fun bt => (if bt.2 = true then (if 0 < (bt.1.length : Int) then (some (rd bt.1 0)) else (none)) else (some (-1)))) = some (-1) := by
  rw [Option.bind_some, if_neg (by simp)]
theorem impl_digest (a0 : Int) (l : List Int) : impl_Digest.f a0 l = some (Dig.digest a0 l) := by
  unfold impl_Digest.f
  by_cases h1 : 2 ≤ a0 ∧ a0 ≤ 60
  · by_cases h2 : l.length ≤ 4000
    · have e : Dig.digest a0 l = Dig.out a0 (Dig.rnds 6 (Dig.taken l)) := by
        unfold Dig.digest
        rw [if_pos h1, if_pos h2]
      rw [digest_a a0 l h1 h2, e]
      exact digest_fin _
    · have e : Dig.digest a0 l = -1 := by
        unfold Dig.digest
        rw [if_pos h1, if_neg h2]
      rw [digest_b a0 l (fun h => h2 h.2), e]
      exact digest_non
  · have e : Dig.digest a0 l = -1 := by
      unfold Dig.digest
      rw [if_neg h1]
    rw [digest_b a0 l (fun h => h1 h.1), e]
    exact digest_non

theorem spec_turn13 (x : Int) : spec_l1Turn.f x 13 = some (Dig.r13 x) := by
  have e : wrap64 (64 - 13) = 51 := by unfold wrap64; decide
  unfold spec_l1Turn.f
  rw [e, if_pos (by decide), if_pos (by decide)]
  have e1 : shl .u64 x 13 = IntKind.u64.wrap (x * 8192) := by
    unfold shl
    rw [show (2 : Int) ^ min (13 : Int).toNat IntKind.u64.bits = 8192 by decide]
  have e2 : shr .u64 x 51 = x / 2251799813685248 := by
    unfold shr
    rw [show (2 : Int) ^ min (51 : Int).toNat IntKind.u64.bits = 2251799813685248 by decide]
  rw [e1, e2]
  rfl
theorem spec_turn29 (x : Int) : spec_l1Turn.f x 29 = some (Dig.r29 x) := by
  have e : wrap64 (64 - 29) = 35 := by unfold wrap64; decide
  unfold spec_l1Turn.f
  rw [e, if_pos (by decide), if_pos (by decide)]
  have e1 : shl .u64 x 29 = IntKind.u64.wrap (x * 536870912) := by
    unfold shl
    rw [show (2 : Int) ^ min (29 : Int).toNat IntKind.u64.bits = 536870912 by decide]
  have e2 : shr .u64 x 35 = x / 34359738368 := by
    unfold shr
    rw [show (2 : Int) ^ min (35 : Int).toNat IntKind.u64.bits = 34359738368 by decide]
  rw [e1, e2]
  rfl
theorem spec_turn41 (x : Int) : spec_l1Turn.f x 41 = some (Dig.r41 x) := by
  have e : wrap64 (64 - 41) = 23 := by unfold wrap64; decide
  unfold spec_l1Turn.f
  rw [e, if_pos (by decide), if_pos (by decide)]
  have e1 : shl .u64 x 41 = IntKind.u64.wrap (x * 2199023255552) := by
    unfold shl
    rw [show (2 : Int) ^ min (41 : Int).toNat IntKind.u64.bits = 2199023255552 by decide]
  have e2 : shr .u64 x 23 = x / 8388608 := by
    unfold shr
    rw [show (2 : Int) ^ min (23 : Int).toNat IntKind.u64.bits = 8388608 by decide]
  rw [e1, e2]
  rfl
theorem spec_round (a b c : Int) : spec_l1Round.f a b c = some (Dig.rnd (a, b, c)) := by
  unfold spec_l1Round.f
  simp only [spec_turn13, spec_turn29, spec_turn41, Option.bind_some, Dig.rnd0_left, Dig.rnd1_left, Dig.rnd2_left]
  rfl
theorem spec_out_l0 (bits : Int) (hb : 0 ≤ bits) (m : Nat) (hm : m ≤ 1000) (n : Nat) : ∀ (i : Nat) (a b c : Int), i + n = m →
    Ev (fun k => spec_l1Out.l0 k bits (m : Int) (i : Int) a b c) (Dig.out bits (Dig.rnds n (a, b, c))) := by
  induction n with
  | zero =>
    intro i a b c hi
    refine Ev.step (fun k => spec_l1Out.l0.eq_2 ..) ?_
    exact ev_neg (by omega) (ev_pos hb (ev_ret rfl))
  | succ n ih =>
    intro i a b c hi
    refine Ev.step (fun k => spec_l1Out.l0.eq_2 ..) ?_
    refine ev_pos (by omega) (ev_pure (spec_round a b c) ?_)
    rw [wr_succ (by omega)]
    exact ih (i + 1) _ _ _ (by omega)
theorem spec_out {bits : Int} (hb : 0 ≤ bits) (a b c : Int) (m : Nat) (hm : m ≤ 1000) : Ev (fun k => spec_l1Out.f k bits a b c (m : Int)) (Dig.out bits (Dig.rnds m (a, b, c))) := by
  unfold spec_l1Out.f
  exact spec_out_l0 bits hb m hm m 0 a b c (Nat.zero_add _)
theorem spec_digest_l0 {bits : Int} (hb : 0 ≤ bits) (l : List Int) (hl : l.length ≤ 4000) (n : Nat) : ∀ (i : Nat) (a b c : Int), i + n = l.length → Dig.takes (l.take i) (1, 2, 3) = (a, b, c) →
    Ev (fun k => spec_Digest.l0 k bits l (i : Int) a b c) (Dig.out bits (Dig.rnds 6 (Dig.taken l))) := by
  induction n with
  | zero =>
    intro i a b c hi hs
    refine Ev.step (fun k => spec_Digest.l0.eq_2 ..) ?_
    rw [List.take_of_length_le (by omega)] at hs
    refine ev_neg (by omega) ?_
    have e : Dig.taken l = (Go.bits .xor .u64 a (IntKind.u64.wrap (l.length : Int)), b, c) := by
      unfold Dig.taken
      rw [hs]
      rfl
    refine ev_bind (a := Dig.out bits (Dig.rnds 6 (Dig.taken l))) ?_ (ev_ret rfl)
    rw [e]
    exact spec_out hb _ _ _ 6 (by decide)
  | succ n ih =>
    intro i a b c hi hs
    refine Ev.step (fun k => spec_Digest.l0.eq_2 ..) ?_
    refine ev_pos (by omega) (ev_pos (by omega) (ev_pure (spec_round _ _ _) (ev_pure (spec_round _ _ _) ?_)))
    rw [wr_succ (by omega)]
    refine ih (i + 1) _ _ _ (by omega) ?_
    have et : l.take (i + 1) = l.take i ++ [rd l (i : Int)] := by
      rw [rd_nat, take_getD l 0 i (by omega)]
    rw [et, Dig.takes_snoc, hs]
    rfl
theorem spec_digest (a0 : Int) (l : List Int) : Ev (fun k => spec_Digest.f k a0 l) (Dig.digest a0 l) := by
  unfold spec_Digest.f Dig.digest
  refine ev_pure (a := decide (2 ≤ a0 ∧ a0 ≤ 60)) (by unfold spec_l1In.f; by_cases h : a0 ≥ 2 <;> simp [h]) ?_
  by_cases h1 : 2 ≤ a0 ∧ a0 ≤ 60
  · rw [if_pos h1]
    refine ev_pos (by simp [h1]) ?_
    refine Ev.step (fun k => spec_Digest.j0.eq_2 ..) ?_
    by_cases h2 : l.length ≤ 4000
    · rw [if_pos h2]
      refine ev_neg (by simp; omega) ?_
      exact spec_digest_l0 (by omega) l h2 l.length 0 1 2 3 (Nat.zero_add _) rfl
    · rw [if_neg h2]
      exact ev_pos (by simp; omega) (ev_ret rfl)
  · rw [if_neg h1]
    refine ev_neg (by simp; omega) ?_
    refine Ev.step (fun k => spec_Digest.j0.eq_2 ..) ?_
    exact ev_pos rfl (ev_ret rfl)
/-- The last n bytes of a number, the highest first. -/
def be : Nat → Nat → List Int
  | 0, _ => []
  | n + 1, x => be n (x / 256) ++ [((x % 256 : Nat) : Int)]
theorem be_length (n : Nat) : ∀ x, (be n x).length = n := by
  induction n with
  | zero => intro x; rfl
  | succ n ih => intro x; simp [be, ih]
/-- The eight bytes of a number, nothing below 0. -/
def eightOf (x : Int) : List Int := if x < 0 then [] else be 8 x.toNat
theorem impl_high_l0 (n : Nat) : ∀ (x : Nat) (t : List Int), n ≤ 8 → t.length = 8 - n →
    Ev (fun k => impl_high.l0 k (x : Int) (List.replicate n 0 ++ t) ((n : Int) - 1)) (be n x ++ t) := by
  induction n with
  | zero =>
    intro x t _ _
    refine Ev.step (fun k => impl_high.l0.eq_2 ..) ?_
    exact ev_neg (by omega) (ev_ret rfl)
  | succ n ih =>
    intro x t hn ht
    refine Ev.step (fun k => impl_high.l0.eq_2 ..) ?_
    refine ev_pos (by omega) (ev_pos (by omega) (ev_pos (by rw [List.length_append, List.length_replicate, ht]; omega) ?_))
    have e1 : wrap64 (((n + 1 : Nat) : Int) - 1 - 1) = (n : Int) - 1 := by rw [wr (by omega) (by omega)]; omega
    have e2 : (((n + 1 : Nat) : Int) - 1).toNat = n := by omega
    have e3 : (x : Int) / 256 = ((x / 256 : Nat) : Int) := by omega
    have e4 : (x : Int) % 256 = ((x % 256 : Nat) : Int) := by omega
    rw [e1, e2, e3, e4]
    have e5 : (List.replicate (n + 1) (0 : Int) ++ t).set n ((x % 256 : Nat) : Int) = List.replicate n 0 ++ (((x % 256 : Nat) : Int) :: t) := by
      rw [List.replicate_succ', List.append_assoc, List.set_append_right _ _ (by rw [List.length_replicate]; exact Nat.le_refl _), List.length_replicate, Nat.sub_self]
      rfl
    rw [e5]
    have := ih (x / 256) (((x % 256 : Nat) : Int) :: t) (by omega) (by rw [List.length_cons, ht]; omega)
    simp only [be, List.append_assoc, List.singleton_append]
    exact this
theorem impl_eight {x : Int} (hx : x ≤ 9223372036854775807) : Ev (fun k => impl_Eight.f k x) (eightOf x) := by
  unfold impl_Eight.f eightOf
  by_cases h : x < 0
  · rw [if_pos h]
    exact ev_pos h (ev_ret rfl)
  · rw [if_neg h]
    refine ev_neg h (ev_bind (a := be 8 x.toNat) ?_ (ev_ret rfl))
    unfold impl_high.f
    refine ev_pos (by decide) (ev_pos (by decide) ?_)
    have := impl_high_l0 8 x.toNat [] (by decide) rfl
    rw [Int.toNat_of_nonneg (by omega)] at this
    simpa [wrap64] using this
theorem spec_eight_l0 (x : Nat) (hx : x ≤ 9223372036854775807) (n : Nat) : ∀ (i : Nat), i + n = 8 →
    Ev (fun k => spec_Eight.l0 k (x : Int) (be i (x / 256 ^ n)) ((n : Int) - 1)) (be 8 x) := by
  induction n with
  | zero =>
    intro i hi
    refine Ev.step (fun k => spec_Eight.l0.eq_2 ..) ?_
    obtain rfl : i = 8 := by omega
    refine ev_neg (by omega) (ev_ret ?_)
    rw [Nat.pow_zero, Nat.div_one]
  | succ n ih =>
    intro i hi
    refine Ev.step (fun k => spec_Eight.l0.eq_2 ..) ?_
    have e1 : wrap64 (8 * (((n + 1 : Nat) : Int) - 1)) = ((8 * n : Nat) : Int) := by rw [wr (by omega) (by omega)]; omega
    have e2 : wrap64 (((n + 1 : Nat) : Int) - 1 - 1) = (n : Int) - 1 := by rw [wr (by omega) (by omega)]; omega
    have e3 : shr .i64 (x : Int) ((8 * n : Nat) : Int) = ((x / 256 ^ n : Nat) : Int) := by
      unfold shr
      have e : (256 : Nat) ^ n = 2 ^ (8 * n) := by rw [show (256 : Nat) = 2 ^ 8 from rfl, ← Nat.pow_mul]
      rw [Int.toNat_natCast, Nat.min_eq_left (show 8 * n ≤ IntKind.i64.bits by show 8 * n ≤ 64; omega), e]
      simp
    have e4 : ((x / 256 ^ n : Nat) : Int) % 256 = ((x / 256 ^ n % 256 : Nat) : Int) := by omega
    rw [e1, e2]
    refine ev_pos (by omega) (ev_pos (by omega) (ev_pos (by rw [be_length]; omega) ?_))
    rw [e3, e4]
    have := ih (i + 1) (by omega)
    have e5 : be (i + 1) (x / 256 ^ n) = be i (x / 256 ^ (n + 1)) ++ [((x / 256 ^ n % 256 : Nat) : Int)] := by
      rw [Nat.pow_succ, ← Nat.div_div_eq_div_mul]
      rfl
    rw [e5] at this
    exact this
theorem spec_eight {x : Int} (hx : x ≤ 9223372036854775807) : Ev (fun k => spec_Eight.f k x) (eightOf x) := by
  unfold spec_Eight.f eightOf
  refine ev_some ?_
  by_cases h : x < 0
  · rw [if_pos h]
    exact ev_pos h (ev_ret rfl)
  · rw [if_neg h]
    refine ev_neg h ?_
    have := spec_eight_l0 x.toNat (by omega) 8 0 rfl
    rw [Int.toNat_of_nonneg (by omega)] at this
    exact this
theorem impl_leafin {l : List Int} (hl : l.length ≤ 140737488355000) : impl_leafInput.f l = some (0 :: l) := by
  unfold impl_leafInput.f
  rw [Option.bind_some, if_pos (by simp only [List.length_singleton]; omega)]
  rfl
theorem impl_leaf (a : Int) {l : List Int} (hl : l.length ≤ 140737488355000) : impl_LeafOf.f a l = some (Dig.digest a (0 :: l)) := by
  unfold impl_LeafOf.f
  rw [impl_leafin hl, Option.bind_some, impl_digest, Option.bind_some]
theorem spec_leafin {l : List Int} (hl : l.length ≤ 140737488355000) : spec_l2Leaf.f l = some (0 :: l) := by
  unfold spec_l2Leaf.f
  rw [Option.bind_some, if_pos (by simp only [List.length_singleton]; omega)]
  rfl
theorem spec_leaf (a : Int) {l : List Int} (hl : l.length ≤ 140737488355000) : Ev (fun k => spec_LeafOf.f k a l) (Dig.digest a (0 :: l)) := by
  unfold spec_LeafOf.f
  exact ev_pure (spec_leafin hl) (ev_bind (spec_digest a (0 :: l)) (ev_ret rfl))
theorem shl_one {b : Int} (h : 2 ≤ b ∧ b ≤ 60) : shl .i64 1 b = 2 ^ b.toNat ∧ (4 : Int) ≤ 2 ^ b.toNat ∧ (2 : Int) ^ b.toNat ≤ 1152921504606846976 := by
  have h1 := Dig.two_pow_le b.toNat (by omega)
  have e60 : (2 : Nat) ^ 60 = 1152921504606846976 := by decide
  have ec : (2 : Int) ^ b.toNat = ((2 ^ b.toNat : Nat) : Int) := by simp
  have h2 : 2 ^ 2 ≤ 2 ^ b.toNat := Nat.pow_le_pow_right (by decide) (by omega)
  unfold shl
  rw [Nat.min_eq_left (show b.toNat ≤ IntKind.i64.bits by show b.toNat ≤ 64; omega), IntKind.wrap_i64, ec]
  omega
/-- A number that is a digest of so many bits. -/
def okd (b x : Int) : Prop := (2 ≤ b ∧ b ≤ 60) ∧ 0 ≤ x ∧ x < 2 ^ b.toNat
instance (b x : Int) : Decidable (okd b x) := by unfold okd; infer_instance
theorem okd_le {b x : Int} (h : okd b x) : 0 ≤ x ∧ x ≤ 9223372036854775807 := by
  have := (shl_one h.1).2.2
  have := h.2
  omega
theorem impl_in_eq (a b c : Int) : impl_in.f a b c = some (decide (b ≤ a ∧ a ≤ c)) := by
  unfold impl_in.f
  by_cases h : a ≥ b <;> simp [h]
theorem impl_bits_eq (a : Int) : impl_bitsOk.f a = some (decide (2 ≤ a ∧ a ≤ 60)) := by
  unfold impl_bitsOk.f
  rw [impl_in_eq, Option.bind_some]
theorem impl_isdig (b x : Int) : impl_isDigest.f b x = some (decide (okd b x)) := by
  unfold impl_isDigest.f
  rw [impl_bits_eq, Option.bind_some]
  by_cases h : 2 ≤ b ∧ b ≤ 60
  · obtain ⟨h1, h2, h3⟩ := shl_one h
    rw [if_pos (by simp [h]), if_pos (by omega), h1, wr (by omega) (by omega), impl_in_eq, Option.bind_some]
    congr 1
    apply decide_eq_decide.2
    unfold okd
    omega
  · rw [if_neg (by simp [h])]
    congr 1
    exact (decide_eq_false (fun k => h k.1)).symm
theorem spec_in_eq (a b c : Int) : spec_l1In.f a b c = some (decide (b ≤ a ∧ a ≤ c)) := by
  unfold spec_l1In.f
  by_cases h : a ≥ b <;> simp [h]
theorem spec_isdig (b x : Int) : spec_l2Digest.f b x = some (decide (okd b x)) := by
  unfold spec_l2Digest.f
  rw [spec_in_eq, Option.bind_some]
  by_cases h : 2 ≤ b ∧ b ≤ 60
  · obtain ⟨h1, h2, h3⟩ := shl_one h
    rw [if_pos (by simp [h]), if_pos (by omega), h1, wr (by omega) (by omega), spec_in_eq, Option.bind_some]
    congr 1
    apply decide_eq_decide.2
    unfold okd
    omega
  · rw [if_neg (by simp [h])]
    congr 1
    exact (decide_eq_false (fun k => h k.1)).symm
theorem eightOf_le (x : Int) : (eightOf x).length ≤ 8 := by
  unfold eightOf; split
  · simp
  · rw [be_length]; omega
/-- What a node's digest is taken of. -/
def nodeIn (x y : Int) : List Int := 1 :: (eightOf x ++ eightOf y)
theorem nodeIn_le (x y : Int) : (nodeIn x y).length ≤ 17 := by
  have := eightOf_le x
  have := eightOf_le y
  unfold nodeIn
  simp only [List.length_cons, List.length_append]
  omega
theorem impl_nodein {x y : Int} (hx : x ≤ 9223372036854775807) (hy : y ≤ 9223372036854775807) : Ev (fun k => impl_nodeInput.f k x y) (nodeIn x y) := by
  unfold impl_nodeInput.f
  have h1 := eightOf_le x
  have h2 := eightOf_le y
  refine ev_bind (impl_eight hx) (ev_bind (impl_eight hy) (ev_pure (a := nodeIn x y) ?_ (ev_ret rfl)))
  unfold slices_Concat_byte_byte.f nodeIn
  generalize eightOf x = p at h1 ⊢
  generalize eightOf y = q at h2 ⊢
  have e : [[1], p, q].flatten = 1 :: (p ++ q) := by simp
  rw [e, if_pos (by simp only [List.length_cons, List.length_append]; omega)]
/-- A node's digest. -/
def node (b x y : Int) : Int := if okd b x ∧ okd b y then Dig.digest b (nodeIn x y) else -1
theorem impl_node (b x y : Int) : Ev (fun k => impl_NodeOf.f k b x y) (node b x y) := by
  unfold impl_NodeOf.f node
  refine ev_pure (impl_isdig b x) ?_
  by_cases h1 : okd b x
  · refine ev_pos (decide_eq_true h1) (ev_pure (impl_isdig b y) (Ev.step (fun k => impl_NodeOf.j0.eq_2 ..) ?_))
    by_cases h2 : okd b y
    · rw [if_pos ⟨h1, h2⟩]
      exact ev_neg (by simp [h2]) (ev_bind (impl_nodein (okd_le h1).2 (okd_le h2).2) (ev_pure (impl_digest b (nodeIn x y)) (ev_ret rfl)))
    · rw [if_neg (fun h => h2 h.2)]
      exact ev_pos (by simp [h2]) (ev_ret rfl)
  · rw [if_neg (fun h => h1 h.1)]
    exact ev_neg (by simp [h1]) (Ev.step (fun k => impl_NodeOf.j0.eq_2 ..) (ev_pos rfl (ev_ret rfl)))
theorem spec_nodein {x y : Int} (hx : x ≤ 9223372036854775807) (hy : y ≤ 9223372036854775807) : Ev (fun k => spec_l2Node.f k x y) (nodeIn x y) := by
  unfold spec_l2Node.f nodeIn
  have h1 := eightOf_le x
  have h2 := eightOf_le y
  refine ev_some (ev_bind (spec_eight hx) (ev_pos (by simp only [List.length_singleton]; omega) (ev_some (ev_bind (spec_eight hy) (ev_pos (by simp only [List.length_append, List.length_singleton]; omega) (ev_ret ?_))))))
  simp
theorem spec_node (b x y : Int) : Ev (fun k => spec_NodeOf.f k b x y) (node b x y) := by
  unfold spec_NodeOf.f node
  refine ev_pure (spec_isdig b x) ?_
  by_cases h1 : okd b x
  · refine ev_pos (decide_eq_true h1) (ev_pure (spec_isdig b y) (Ev.step (fun k => spec_NodeOf.j0.eq_2 ..) ?_))
    by_cases h2 : okd b y
    · rw [if_pos ⟨h1, h2⟩]
      exact ev_neg (by simp [h2]) (ev_bind (spec_nodein (okd_le h1).2 (okd_le h2).2) (ev_bind (spec_digest b (nodeIn x y)) (ev_ret rfl)))
    · rw [if_neg (fun h => h2 h.2)]
      exact ev_pos (by simp [h2]) (ev_ret rfl)
  · rw [if_neg (fun h => h1 h.1)]
    exact ev_neg (by simp [h1]) (Ev.step (fun k => spec_NodeOf.j0.eq_2 ..) (ev_pos rfl (ev_ret rfl)))
/-- What a top's digest is taken of. -/
def topIn (many : Nat) (x : Int) : List Int := 2 :: (many : Int) :: eightOf x
theorem topIn_le (many : Nat) (x : Int) : (topIn many x).length ≤ 10 := by
  have := eightOf_le x
  unfold topIn
  simp only [List.length_cons]
  omega
/-- The place beside. -/
def beside (a : Nat) : Nat := if a % 2 = 0 then a + 1 else a - 1
/-- The input of a step up. -/
def stepIn (a : Nat) (q x : Int) : List Int := if a % 2 = 1 then nodeIn q x else nodeIn x q
/-- The way up from a place: the nodes' inputs, what is left of the path, and the digest at the end. -/
def ups (b : Int) : Nat → Nat → Nat → Int → List Int → Option (List (List Int) × List Int × Int)
  | 0, _, _, x, p => some ([], p, x)
  | n + 1, size, a, x, p =>
    if 1 < size then
      if beside a < size then
        match p with
        | [] => none
        | q :: p => (ups b n ((size + 1) / 2) (a / 2) (Dig.digest b (stepIn a q x)) p).map fun r => (stepIn a q x :: r.1, r.2)
      else ups b n ((size + 1) / 2) (a / 2) x p
    else some ([], p, x)
/-- All that a way up must hold to. -/
def upOk (b many at_ : Int) (leaf path : List Int) : Prop := (1 ≤ many ∧ many ≤ 16) ∧ (0 ≤ at_ ∧ at_ < many) ∧ (2 ≤ b ∧ b ≤ 60) ∧ leaf.length < 4000 ∧ ∀ p ∈ path, okd b p
instance (b many at_ : Int) (leaf path : List Int) : Decidable (upOk b many at_ leaf path) := by unfold upOk; infer_instance
theorem upOk_okd {b many at_ : Int} {leaf path : List Int} (h : upOk b many at_ leaf path) : okd b (Dig.digest b (0 :: leaf)) := by
  obtain ⟨_, _, h3, h4, _⟩ := h
  exact ⟨h3, Dig.digest_range h3.1 h3.2 (by simp only [List.length_cons]; omega)⟩
theorem node_okd {b : Int} (hb : 2 ≤ b ∧ b ≤ 60) (x y : Int) : okd b (Dig.digest b (nodeIn x y)) :=
  ⟨hb, Dig.digest_range hb.1 hb.2 (by have := nodeIn_le x y; omega)⟩
/-- The inputs of a way up, the top's the last. -/
def climbed (b many at_ : Int) (leaf path : List Int) : List (List Int) × Bool :=
  if upOk b many at_ leaf path then
    match ups b 16 many.toNat at_.toNat (Dig.digest b (0 :: leaf)) path with
    | none => ([], false)
    | some (l, r, y) => ((0 :: leaf) :: (l ++ [topIn many.toNat y]), decide (r = []))
  else ([], false)
/-- RootFrom's answer. -/
def rootFrom (b many at_ : Int) (leaf path : List Int) : Int :=
  if upOk b many at_ leaf path then
    match ups b 16 many.toNat at_.toNat (Dig.digest b (0 :: leaf)) path with
    | none => -1
    | some (_, r, y) => if r = [] then Dig.digest b (topIn many.toNat y) else -1
  else -1
theorem half_nat (a : Nat) (h : a ≤ 1000) : wrap64 (Int.tdiv (a : Int) 2) = ((a / 2 : Nat) : Int) := by
  rw [Int.tdiv_eq_ediv_of_nonneg (by omega), wr (by omega) (by omega)]
  omega
theorem odd_nat (a : Nat) : Int.tmod (a : Int) 2 = ((a % 2 : Nat) : Int) := by
  rw [Int.tmod_eq_emod_of_nonneg (by omega)]
  omega
theorem ups_le (b : Int) (n size a : Nat) (x : Int) (p : List Int) (h : size ≤ 1) : ups b (n + 1) size a x p = some ([], p, x) := by
  unfold ups
  rw [if_neg (by omega)]
theorem ups_nil (b : Int) (n size a : Nat) (x : Int) (h : 1 < size) (h2 : beside a < size) : ups b (n + 1) size a x [] = none := by
  rw [ups, if_pos h, if_pos h2]
theorem step_okd {b : Int} (hb : 2 ≤ b ∧ b ≤ 60) (a : Nat) (q x : Int) : okd b (Dig.digest b (stepIn a q x)) := by
  by_cases h : a % 2 = 1
  · have e : stepIn a q x = nodeIn q x := if_pos h
    rw [e]
    exact node_okd hb _ _
  · have e : stepIn a q x = nodeIn x q := if_neg h
    rw [e]
    exact node_okd hb _ _
theorem ups_step (b : Int) (n size a : Nat) (x q : Int) (p : List Int) (h : 1 < size) (h2 : beside a < size) : ups b (n + 1) size a x (q :: p) = (ups b n ((size + 1) / 2) (a / 2) (Dig.digest b (stepIn a q x)) p).map fun r => (stepIn a q x :: r.1, r.2) := by
  rw [ups, if_pos h, if_pos h2]
theorem ups_skip (b : Int) (n size a : Nat) (x : Int) (p : List Int) (h : 1 < size) (h2 : ¬ beside a < size) : ups b (n + 1) size a x p = ups b n ((size + 1) / 2) (a / 2) x p := by
  cases p <;> rw [ups, if_pos h, if_neg h2]
theorem xor_one : ∀ a : Fin 16, Go.bits .xor .i64 ((a.val : Nat) : Int) 1 = ((beside a.val : Nat) : Int) := by decide
theorem impl_leafin' {l : List Int} (hl : l.length < 4000) : impl_leafInput.f l = some (0 :: l) := by
  unfold impl_leafInput.f
  rw [Option.bind_some, if_pos (by simp only [List.length_singleton]; omega)]
  rfl
theorem impl_topin {many : Nat} {x : Int} (hm : many ≤ 16) (hx : x ≤ 9223372036854775807) : Ev (fun k => impl_topInput.f k (many : Int) x) (topIn many x) := by
  unfold impl_topInput.f topIn
  have h1 := eightOf_le x
  have e : (many : Int) % 256 = many := by omega
  rw [e]
  exact ev_some (ev_bind (impl_eight hx) (ev_pos (by simp only [List.length_cons, List.length_nil]; omega) (ev_ret rfl)))
theorem rd_last (l : List (List Int)) (x : List Int) (hl : l.length ≤ 1000) : rd_L1 (l ++ [x]) (wrap64 (((l ++ [x]).length : Int) - 1)) = x := by
  have e : wrap64 (((l ++ [x]).length : Int) - 1) = (l.length : Int) := by
    rw [List.length_append, List.length_singleton, wr (by omega) (by omega)]
    omega
  rw [e]
  unfold rd_L1
  rw [Int.toNat_natCast, List.getD_eq_getElem?_getD, List.getElem?_append_right (Nat.le_refl _), Nat.sub_self]
  rfl
theorem last_le (l : List (List Int)) (x : List Int) (hl : l.length ≤ 1000) : 0 ≤ wrap64 (((l ++ [x]).length : Int) - 1) ∧ wrap64 (((l ++ [x]).length : Int) - 1) < ((l ++ [x]).length : Int) := by
  rw [List.length_append, List.length_singleton, wr (by omega) (by omega)]
  omega
/-- What climb answers behind its leaf. -/
def climbEnd (many : Nat) (out : List (List Int)) : Option (List (List Int) × List Int × Int) → List (List Int) × Bool
  | none => ([], false)
  | some (l, r, y) => (out ++ (l ++ [topIn many y]), decide (r = []))
theorem climbEnd_some (many : Nat) (out l : List (List Int)) (r : List Int) (y : Int) : climbEnd many out (some (l, r, y)) = (out ++ (l ++ [topIn many y]), decide (r = [])) := rfl
theorem nil_len (p : List Int) : ((p.length : Int) == 0) = decide (p = []) := by
  cases p with
  | nil => rfl
  | cons x p =>
    rw [decide_eq_false (by simp)]
    simp only [List.length_cons, beq_eq_false_iff_ne]
    omega
theorem climb_l0 {b : Int} (hb : 2 ≤ b ∧ b ≤ 60) (many : Nat) (hm : many ≤ 16) (n : Nat) : ∀ (size a : Nat) (x : Int) (p : List Int) (out : List (List Int)), size ≤ n + 1 → size ≤ 16 → a < 16 → okd b x → (∀ q ∈ p, okd b q) → out.length + n ≤ 100 →
    Ev (fun k => impl_climb.l0 k b (many : Int) (a : Int) p out x (size : Int)) (climbEnd many out (ups b (n + 1) size a x p)) := by
  induction n with
  | zero =>
    intro size a x p out hs _ _ hx hp ho
    refine Ev.step (fun k => impl_climb.l0.eq_2 ..) (ev_neg (by omega) (ev_bind (impl_topin hm (okd_le hx).2) (ev_pos (by omega) (ev_ret ?_))))
    rw [ups_le b 0 size a x p (by omega), climbEnd_some, nil_len, List.nil_append]
  | succ n ih =>
    intro size a x p out hs hs2 ha hx hp ho
    refine Ev.step (fun k => impl_climb.l0.eq_2 ..) ?_
    by_cases h1 : 1 < size
    · have e1 : wrap64 ((size : Int) + 1) = ((size + 1 : Nat) : Int) := wr_succ (by omega)
      rw [e1, half_nat a (by omega), half_nat (size + 1) (by omega), xor_one ⟨a, ha⟩, odd_nat a]
      refine ev_pos (by omega) ?_
      by_cases h2 : beside a < size
      · refine ev_pos (by show ((beside a : Nat) : Int) < size; omega) ?_
        cases p with
        | nil =>
          rw [ups_nil b (n + 1) size a x h1 h2]
          exact ev_pos rfl (ev_ret rfl)
        | cons q p =>
          rw [ups_step b (n + 1) size a x q p h1 h2]
          have hq : okd b q := hp q List.mem_cons_self
          have hp2 : ∀ r ∈ p, okd b r := fun r hr => hp r (List.mem_cons_of_mem _ hr)
          have eq0 : rd (q :: p) 0 = q := rfl
          have ed0 : (q :: p).drop 1 = p := rfl
          rw [eq0, ed0]
          refine ev_neg (by simp only [List.length_cons]; omega) (ev_pos (by simp only [List.length_cons]; omega) ?_)
          have hr := ih ((size + 1) / 2) (a / 2) (Dig.digest b (stepIn a q x)) p (out ++ [stepIn a q x]) (by omega) (by omega) (by omega) (step_okd hb a q x) hp2 (by simp only [List.length_append, List.length_singleton]; omega)
          have hfin : ∀ u, climbEnd many (out ++ [stepIn a q x]) u = climbEnd many out (u.map fun r => (stepIn a q x :: r.1, r.2)) := by
            intro u
            generalize stepIn a q x = s
            cases u with
            | none => rfl
            | some u => obtain ⟨l, r, y⟩ := u; simp [climbEnd]
          rw [hfin] at hr
          by_cases h3 : a % 2 = 1
          · have es : stepIn a q x = nodeIn q x := if_pos h3
            refine ev_pos (by omega) (ev_pos (by simp only [List.length_cons]; omega) (ev_bind (impl_nodein (okd_le hq).2 (okd_le hx).2) ?_))
            rw [es] at hr ⊢
            refine ev_pos (by omega) (ev_some (ev_pos (last_le _ _ (by omega)).1 (ev_pos (last_le _ _ (by omega)).2 (ev_pure (impl_digest b _) ?_))))
            rw [rd_last _ _ (by omega)]
            exact hr
          · have es : stepIn a q x = nodeIn x q := if_neg h3
            refine ev_neg (by omega) (ev_pos (by simp only [List.length_cons]; omega) (ev_bind (impl_nodein (okd_le hx).2 (okd_le hq).2) ?_))
            rw [es] at hr ⊢
            refine ev_pos (by omega) (ev_some (ev_pos (last_le _ _ (by omega)).1 (ev_pos (last_le _ _ (by omega)).2 (ev_pure (impl_digest b _) ?_))))
            rw [rd_last _ _ (by omega)]
            exact hr
      · rw [ups_skip b (n + 1) size a x p h1 h2]
        exact ev_neg (by show ¬ ((beside a : Nat) : Int) < size; omega) (ih ((size + 1) / 2) (a / 2) x p out (by omega) (by omega) (by omega) hx hp (by omega))
    · refine ev_neg (by omega) (ev_bind (impl_topin hm (okd_le hx).2) (ev_pos (by omega) (ev_ret ?_)))
      rw [ups_le b (n + 1) size a x p (by omega), climbEnd_some, nil_len, List.nil_append]
theorem impl_leaves (b : Int) (l : List (List Int)) : impl_leavesOk.f b l = some (decide ((2 ≤ b ∧ b ≤ 60) ∧ 1 ≤ l.length ∧ l.length ≤ 16) && l.all fun x => decide (x.length < 4000)) := rfl
theorem impl_digs (b : Int) (l : List Int) : impl_digests.f b l = some (decide (∀ x ∈ l, okd b x)) := by
  unfold impl_digests.f
  rw [if_pos (List.all_eq_true.2 fun x _ => by rw [impl_isdig]; rfl)]
  congr 1
  rw [Bool.eq_iff_iff, List.all_eq_true]
  simp only [impl_isdig, Option.getD_some, decide_eq_true_eq]
theorem impl_climbed (b many at_ : Int) (leaf path : List Int) : Ev (fun k => impl_climb.f k b many at_ leaf path) (climbed b many at_ leaf path) := by
  unfold impl_climb.f
  have hno : ∀ a : Bool, a = true → ¬ upOk b many at_ leaf path → Ev (fun k => impl_climb.j0 k b many at_ leaf path a) (climbed b many at_ leaf path) := by
    intro a ha h
    subst ha
    unfold climbed
    rw [if_neg h]
    exact Ev.step (fun k => impl_climb.j0.eq_2 ..) (ev_pos rfl (ev_ret rfl))
  refine ev_pure (impl_in_eq _ _ _) ?_
  by_cases h1 : 1 ≤ many ∧ many ≤ 16
  · refine ev_pos (decide_eq_true h1) (ev_pure (impl_in_eq _ _ _) ?_)
    rw [wr (n := many - 1) (by omega) (by omega)]
    by_cases h2 : 0 ≤ at_ ∧ at_ ≤ many - 1
    · refine ev_pos (decide_eq_true h2) (ev_pure (impl_leaves b _) ?_)
      by_cases h3 : (2 ≤ b ∧ b ≤ 60) ∧ leaf.length < 4000
      · refine ev_pos (by simp [h3]) (ev_pure (impl_digs b path) ?_)
        by_cases h4 : ∀ p ∈ path, okd b p
        · have hu : upOk b many at_ leaf path := ⟨h1, ⟨h2.1, by omega⟩, h3.1, h3.2, h4⟩
          have hx := upOk_okd hu
          obtain ⟨m, rfl⟩ := Int.eq_ofNat_of_zero_le (by omega : 0 ≤ many)
          obtain ⟨a, rfl⟩ := Int.eq_ofNat_of_zero_le h2.1
          have hr := climb_l0 h3.1 m (by omega) 15 m a (Dig.digest b (0 :: leaf)) path [0 :: leaf] (by omega) (by omega) (by omega) hx h4 (by simp only [List.length_singleton]; omega)
          refine Ev.step (fun k => impl_climb.j0.eq_2 ..) (ev_neg (by simp; exact h4) (ev_pure (impl_leafin' h3.2) (ev_some (ev_pos (by simp only [List.length_singleton]; omega) (ev_pure (impl_digest b _) ?_)))))
          refine ev_eq hr ?_
          unfold climbed
          rw [if_pos hu, Int.toNat_natCast, Int.toNat_natCast]
          generalize ups b (15 + 1) m a (Dig.digest b (0 :: leaf)) path = u
          cases u with
          | none => rfl
          | some u => rfl
        · exact hno _ (by simp only [decide_eq_false h4]; rfl) (fun h => h4 h.2.2.2.2)
      · refine ev_neg ?_ (hno _ rfl (fun h => h3 ⟨h.2.2.1, h.2.2.2.1⟩))
        simp only [List.all_cons, List.all_nil, Bool.and_true, Bool.and_eq_true, decide_eq_true_eq]
        exact fun h => h3 ⟨h.1.1, h.2⟩
    · exact ev_neg (by simp only [decide_eq_true_eq]; exact h2) (hno _ rfl (fun h => h2 ⟨h.2.1.1, by have := h.2.1.2; omega⟩))
  · exact ev_neg (by simp only [decide_eq_true_eq]; exact h1) (hno _ rfl (fun h => h1 h.1))
theorem ups_length {b : Int} (n : Nat) : ∀ (size a : Nat) (x : Int) (p : List Int) {r}, ups b n size a x p = some r → r.1.length ≤ n := by
  induction n with
  | zero => intro size a x p r h; unfold ups at h; cases h; exact Nat.le_refl _
  | succ n ih =>
    intro size a x p r h
    by_cases h1 : 1 < size
    · by_cases h2 : beside a < size
      · cases p with
        | nil => rw [ups_nil b n size a x h1 h2] at h; cases h
        | cons q p =>
          rw [ups_step b n size a x q p h1 h2] at h
          obtain ⟨r', h1, rfl⟩ := Option.map_eq_some_iff.1 h
          have := ih _ _ _ _ h1
          simp only [List.length_cons]
          omega
      · rw [ups_skip b n size a x p h1 h2] at h
        have := ih _ _ _ _ h
        omega
    · rw [ups_le b n size a x p (by omega)] at h
      cases h
      exact Nat.zero_le _
theorem impl_lastof (b many at_ : Int) (leaf path : List Int) : impl_lastOf.f b (climbed b many at_ leaf path).1 (climbed b many at_ leaf path).2 = some (rootFrom b many at_ leaf path) := by
  unfold climbed rootFrom impl_lastOf.f
  by_cases hu : upOk b many at_ leaf path
  · rw [if_pos hu, if_pos hu]
    have hl := fun r => @ups_length b 16 many.toNat at_.toNat (Dig.digest b (0 :: leaf)) path r
    generalize ups b 16 many.toNat at_.toNat (Dig.digest b (0 :: leaf)) path = u at hl ⊢
    cases u with
    | none => rfl
    | some u =>
      obtain ⟨l, r, y⟩ := u
      have hl := hl _ rfl
      simp only at hl
      simp only []
      by_cases hr : r = []
      · have e1 := rd_last ((0 :: leaf) :: l) (topIn many.toNat y) (by simp only [List.length_cons]; omega)
        have e2 := last_le ((0 :: leaf) :: l) (topIn many.toNat y) (by simp only [List.length_cons]; omega)
        rw [List.cons_append] at e1 e2
        rw [if_pos (decide_eq_true hr), if_pos e2.1, if_pos e2.2, e1, impl_digest, if_pos hr]
        rfl
      · rw [if_neg (by simp [hr]), if_neg hr]
  · rw [if_neg hu, if_neg hu]
    rfl
theorem impl_root (b many at_ : Int) (leaf path : List Int) : Ev (fun k => impl_RootFrom.f k b many at_ leaf path) (rootFrom b many at_ leaf path) := by
  unfold impl_RootFrom.f
  exact ev_bind (impl_climbed b many at_ leaf path) (ev_pure (impl_lastof b many at_ leaf path) (ev_ret rfl))
theorem spec_leaf' (b : Int) {l : List Int} (hl : l.length < 4000) : Ev (fun k => spec_LeafOf.f k b l) (Dig.digest b (0 :: l)) := by
  unfold spec_LeafOf.f
  refine ev_pure (a := 0 :: l) ?_ (ev_bind (spec_digest b (0 :: l)) (ev_ret rfl))
  unfold spec_l2Leaf.f
  rw [Option.bind_some, if_pos (by simp only [List.length_singleton]; omega)]
  rfl
theorem spec_topin {many : Nat} {x : Int} (hm : many ≤ 16) (hx : x ≤ 9223372036854775807) : Ev (fun k => spec_l2Top.f k (many : Int) x) (topIn many x) := by
  unfold spec_l2Top.f topIn
  have h1 := eightOf_le x
  have e : (many : Int) % 256 = many := by omega
  rw [e]
  exact ev_some (ev_bind (spec_eight hx) (ev_pos (by simp only [List.length_cons, List.length_nil]; omega) (ev_ret rfl)))
theorem beside_eq (a : Nat) (h : a ≤ 100) : wrap64 ((wrap64 ((a : Int) + 1)) - (wrap64 (2 * (Int.tmod (a : Int) 2)))) = ((beside a : Nat) : Int) := by
  rw [odd_nat, wr (n := (a : Int) + 1) (by omega) (by omega), wr (n := 2 * ((a % 2 : Nat) : Int)) (by omega) (by omega), wr (by omega) (by omega)]
  unfold beside
  split <;> omega
/-- What the reference answers at the end of its way. -/
def rootEnd (b : Int) (many : Nat) : Option (List (List Int) × List Int × Int) → Int
  | none => -1
  | some (_, r, y) => if r = [] then Dig.digest b (topIn many y) else -1
theorem rootEnd_some (b : Int) (many : Nat) (l : List (List Int)) (r : List Int) (y : Int) : rootEnd b many (some (l, r, y)) = if r = [] then Dig.digest b (topIn many y) else -1 := rfl
theorem rootEnd_map (b : Int) (many : Nat) (i : List Int) (u : Option (List (List Int) × List Int × Int)) : rootEnd b many (u.map fun r => (i :: r.1, r.2)) = rootEnd b many u := by
  cases u with
  | none => rfl
  | some u => obtain ⟨l, r, y⟩ := u; rfl
theorem ite_iff {p q : Prop} [Decidable p] [Decidable q] (h : p ↔ q) (a b : Int) : (if p then a else b) = if q then a else b := by
  by_cases hq : q
  · rw [if_pos hq, if_pos (h.2 hq)]
  · rw [if_neg hq, if_neg (fun k => hq (h.1 k))]
theorem root_l0 {b : Int} (hb : 2 ≤ b ∧ b ≤ 60) (many : Nat) (hm : many ≤ 16) (path : List Int) (hpl : path.length ≤ 1048576) (n : Nat) : ∀ (size a : Nat) (x : Int) (p : List Int) (u : Nat), size ≤ n + 1 → size ≤ 16 → a < 16 → okd b x → path.drop u = p → u ≤ path.length →
    Ev (fun k => spec_RootFrom.l0 k b (many : Int) (a : Int) path x (u : Int) (size : Int)) (if ∀ q ∈ p, okd b q then rootEnd b many (ups b (n + 1) size a x p) else -1) := by
  have hend : ∀ (size a : Nat) (x : Int) (p : List Int) (u : Nat), size ≤ 1 → okd b x → path.drop u = p → u ≤ path.length → Ev (fun k => spec_RootFrom.l0 k b (many : Int) (a : Int) path x (u : Int) (size : Int)) (if ∀ q ∈ p, okd b q then (if p = [] then Dig.digest b (topIn many x) else -1) else -1) := by
    intro size a x p u hs hx hp hu
    refine Ev.step (fun k => spec_RootFrom.l0.eq_2 ..) (ev_neg (by omega) ?_)
    have hpl := congrArg List.length hp
    rw [List.length_drop] at hpl
    by_cases h : u = path.length
    · have : p = [] := List.length_eq_zero_iff.1 (by omega)
      subst this
      rw [if_pos (by simp), if_pos rfl]
      exact ev_pos (by omega) (ev_bind (spec_topin hm (okd_le hx).2) (ev_bind (spec_digest b _) (ev_ret rfl)))
    · have hne : p ≠ [] := fun e => by subst e; simp only [List.length_nil] at hpl; omega
      rw [if_neg hne, ite_self]
      exact ev_neg (by omega) (ev_ret rfl)
  induction n with
  | zero =>
    intro size a x p u hs _ _ hx hp hu
    rw [ups_le b 0 size a x p (by omega), rootEnd_some]
    exact hend size a x p u (by omega) hx hp hu
  | succ n ih =>
    intro size a x p u hs hs2 ha hx hp hu
    by_cases h1 : 1 < size
    · have s1 : (size + 1) / 2 ≤ n + 1 := by omega
      have s2 : (size + 1) / 2 ≤ 16 := by omega
      have s3 : a / 2 < 16 := by omega
      refine Ev.step (fun k => spec_RootFrom.l0.eq_2 ..) ?_
      have e1 : wrap64 ((size : Int) + 1) = ((size + 1 : Nat) : Int) := wr_succ (by omega)
      have hh1 : ∀ _ : Unit, wrap64 (Int.tdiv (a : Int) 2) = ((a / 2 : Nat) : Int) := fun _ => half_nat a (by omega)
      have hh2 : ∀ _ : Unit, wrap64 (Int.tdiv ((size + 1 : Nat) : Int) 2) = (((size + 1) / 2 : Nat) : Int) := fun _ => half_nat (size + 1) (by omega)
      rw [e1, hh1 (), hh2 (), beside_eq a (by omega)]
      refine ev_pos (by omega) ?_
      have hpl2 := congrArg List.length hp
      rw [List.length_drop] at hpl2
      by_cases h2 : beside a < size
      · refine ev_pos (by omega) ?_
        cases p with
        | nil =>
          simp only [List.length_nil] at hpl2
          rw [if_pos (by simp), ups_nil b (n + 1) size a x h1 h2]
          exact ev_pos (by omega) (Ev.step (fun k => spec_RootFrom.j2.eq_2 ..) (ev_pos rfl (ev_ret rfl)))
        | cons q p =>
          simp only [List.length_cons] at hpl2
          have s4 : u + 1 ≤ path.length := by omega
          have hu1 : (0 : Int) ≤ u := by omega
          have hu2 : (u : Int) < path.length := by omega
          have hu3 : ¬ (u : Int) = (path.length : Int) := by omega
          rw [ups_step b (n + 1) size a x q p h1 h2, rootEnd_map]
          have hq : rd path (u : Int) = q := by
            rw [rd_nat, List.getD_eq_getElem?_getD, ← List.head?_drop, hp]
            rfl
          have hp' : path.drop (u + 1) = p := by
            rw [← List.drop_drop, hp]
            rfl
          refine ev_neg hu3 (ev_pos hu1 (ev_pos hu2 (ev_pure (spec_isdig b _) (Ev.step (fun k => spec_RootFrom.j2.eq_2 ..) ?_))))
          rw [hq]
          by_cases hqd : okd b q
          · have hall : (∀ r ∈ q :: p, okd b r) ↔ ∀ r ∈ p, okd b r := by simp [hqd]
            have e2 : wrap64 ((u : Int) + 1) = ((u + 1 : Nat) : Int) := wr_succ (by omega)
            have hpar : beside a > a ↔ ¬ a % 2 = 1 := by
              unfold beside
              split <;> omega
            have hr := ih ((size + 1) / 2) (a / 2) (Dig.digest b (stepIn a q x)) p (u + 1) s1 s2 s3 (step_okd hb a q x) hp' s4
            rw [e2, e1, hh1 (), hh2 ()]
            clear ih hend hpl2 hp hp'
            rw [ite_iff hall]
            refine ev_neg (by simp [hqd]) ?_
            by_cases h3 : a % 2 = 1
            · have es : stepIn a q x = nodeIn q x := if_pos h3
              have hn := spec_node b q x
              unfold node at hn
              rw [if_pos ⟨hqd, hx⟩] at hn
              rw [es] at hr ⊢
              have hlt : ¬ ((beside a : Nat) : Int) > (a : Int) := by omega
              exact ev_neg hlt (ev_pos hu1 (ev_pos hu2 (ev_bind hn hr)))
            · have es : stepIn a q x = nodeIn x q := if_neg h3
              have hn := spec_node b x q
              unfold node at hn
              rw [if_pos ⟨hx, hqd⟩] at hn
              rw [es] at hr ⊢
              have hlt : ((beside a : Nat) : Int) > (a : Int) := by omega
              exact ev_pos hlt (ev_pos hu1 (ev_pos hu2 (ev_bind hn hr)))
          · rw [if_neg (fun h => hqd (h q List.mem_cons_self))]
            exact ev_pos (by simp [hqd]) (ev_ret rfl)
      · rw [ups_skip b (n + 1) size a x p h1 h2]
        exact ev_neg (by omega) (ih ((size + 1) / 2) (a / 2) x p u (by omega) (by omega) (by omega) hx hp hu)
    · rw [ups_le b (n + 1) size a x p (by omega), rootEnd_some]
      exact hend size a x p u (by omega) hx hp hu
theorem spec_root (b many at_ : Int) (leaf path : List Int) (hpl : path.length ≤ 1048576) : Ev (fun k => spec_RootFrom.f k b many at_ leaf path) (rootFrom b many at_ leaf path) := by
  unfold spec_RootFrom.f
  have hno : ∀ a : Bool, a = true → ¬ upOk b many at_ leaf path → Ev (fun k => spec_RootFrom.j0 k b many at_ leaf path a) (rootFrom b many at_ leaf path) := by
    intro a ha h
    subst ha
    unfold rootFrom
    rw [if_neg h]
    exact Ev.step (fun k => spec_RootFrom.j0.eq_2 ..) (ev_pos rfl (ev_ret rfl))
  refine ev_pure (spec_in_eq _ _ _) ?_
  by_cases h0 : 2 ≤ b ∧ b ≤ 60
  · refine ev_pos (decide_eq_true h0) (ev_pure (spec_in_eq _ _ _) ?_)
    by_cases h1 : 1 ≤ many ∧ many ≤ 16
    · refine ev_pos (decide_eq_true h1) (ev_pure (spec_in_eq _ _ _) ?_)
      rw [wr (n := many - 1) (by omega) (by omega)]
      by_cases h2 : 0 ≤ at_ ∧ at_ ≤ many - 1
      · refine ev_pos (decide_eq_true h2) ?_
        by_cases h3 : leaf.length < 4000
        · refine Ev.step (fun k => spec_RootFrom.j0.eq_2 ..) (ev_neg (by simp only [decide_eq_true_eq]; omega) (ev_bind (spec_leaf' b h3) ?_))
          obtain ⟨m, rfl⟩ := Int.eq_ofNat_of_zero_le (by omega : 0 ≤ many)
          obtain ⟨a, rfl⟩ := Int.eq_ofNat_of_zero_le h2.1
          have hx : okd b (Dig.digest b (0 :: leaf)) := ⟨h0, Dig.digest_range h0.1 h0.2 (by simp only [List.length_cons]; omega)⟩
          have hr := root_l0 h0 m (by omega) path hpl 15 m a (Dig.digest b (0 :: leaf)) path 0 (by omega) (by omega) (by omega) hx rfl (Nat.zero_le _)
          refine ev_eq hr ?_
          unfold rootFrom
          rw [Int.toNat_natCast, Int.toNat_natCast]
          by_cases h4 : ∀ q ∈ path, okd b q
          · have hu : upOk b m a leaf path := ⟨h1, ⟨h2.1, by omega⟩, h0, h3, h4⟩
            rw [if_pos h4, if_pos hu]
            generalize ups b (15 + 1) m a (Dig.digest b (0 :: leaf)) path = u
            cases u with
            | none => rfl
            | some u => rfl
          · rw [if_neg h4, if_neg (fun h => h4 h.2.2.2.2)]
        · exact hno _ (by simp only [decide_eq_true_eq]; omega) (fun h => h3 h.2.2.2.1)
      · exact ev_neg (by simp only [decide_eq_true_eq]; exact h2) (hno _ rfl (fun h => h2 ⟨h.2.1.1, by have := h.2.1.2; omega⟩))
    · exact ev_neg (by simp only [decide_eq_true_eq]; exact h1) (hno _ rfl (fun h => h1 h.1))
  · exact ev_neg (by simp only [decide_eq_true_eq]; exact h0) (hno _ rfl (fun h => h0 h.2.2.1))
theorem strs_map (l : List Int) : (strOfNums l).toList = l.map (fun n => UInt8.ofNat n.toNat) := ByteArray.toList_mk _
/-- As the two programs compare two texts. -/
def same (p q : List Int) : Bool := (strOfNums p).toList == (strOfNums q).toList
theorem same_self (p : List Int) : same p p = true := by simp [same]
theorem same_imp (p : List Int) : ∀ q : List Int, (∀ x ∈ p, 0 ≤ x ∧ x < 256) → (∀ x ∈ q, 0 ≤ x ∧ x < 256) → same p q = true → p = q := by
  induction p with
  | nil =>
    intro q _ _ h
    cases q with
    | nil => rfl
    | cons y q => simp [same, strs_map] at h
  | cons x p ih =>
    intro q hp hq h
    cases q with
    | nil => simp [same, strs_map] at h
    | cons y q =>
      unfold same at h
      rw [strs_map, strs_map, List.map_cons, List.map_cons, beq_iff_eq, List.cons.injEq] at h
      obtain ⟨h1, h2⟩ := h
      have hx := hp x List.mem_cons_self
      have hy := hq y List.mem_cons_self
      have e : x.toNat = y.toNat := by
        have := congrArg UInt8.toNat h1
        simp only [UInt8.toNat_ofNat'] at this
        omega
      have exy : x = y := by omega
      subst exy
      rw [ih q (fun z hz => hp z (List.mem_cons_of_mem _ hz)) (fun z hz => hq z (List.mem_cons_of_mem _ hz)) (by unfold same; rw [strs_map, strs_map, beq_iff_eq]; exact h2)]
/-- The last of the first so many places where two lists of texts are unlike. -/
def lastU (p q : List (List Int)) : Nat → List Int × List Int × Bool
  | 0 => ([], [], false)
  | n + 1 => if same (p.getD n []) (q.getD n []) = true then lastU p q n else (p.getD n [], q.getD n [], true)
theorem lastU_self (p : List (List Int)) (n : Nat) : lastU p p n = ([], [], false) := by
  induction n with
  | zero => rfl
  | succ n ih =>
    unfold lastU
    rw [if_pos (same_self _), ih]
theorem impl_lastu_l0 (p q : List (List Int)) (hp : ∀ x ∈ p, x.length ≤ 1048576) (hq : ∀ x ∈ q, x.length ≤ 1048576) (hl : q.length = p.length) (n : Nat) (hn : n ≤ p.length) (hm : p.length ≤ 1000) : Ev (fun k => impl_lastUnlike.l0 k p q ((n : Int) - 1)) (lastU p q n) := by
  induction n with
  | zero => exact Ev.step (fun k => impl_lastUnlike.l0.eq_2 ..) (ev_neg (by omega) (ev_ret rfl))
  | succ n ih =>
    have e : ((n + 1 : Nat) : Int) - 1 = (n : Int) := by omega
    have e2 : wrap64 ((n : Int) - 1) = (n : Int) - 1 := wr (by omega) (by omega)
    have ep : rd_L1 p (n : Int) = p.getD n [] := by unfold rd_L1; rw [Int.toNat_natCast]
    have eq : rd_L1 q (n : Int) = q.getD n [] := by unfold rd_L1; rw [Int.toNat_natCast]
    have h1 : (p.getD n []).length ≤ 1048576 := by
      rw [List.getD_eq_getElem?_getD, List.getElem?_eq_getElem (by omega)]
      exact hp _ (List.getElem_mem _)
    have h2 : (q.getD n []).length ≤ 1048576 := by
      rw [List.getD_eq_getElem?_getD, List.getElem?_eq_getElem (by omega)]
      exact hq _ (List.getElem_mem _)
    rw [e]
    refine Ev.step (fun k => impl_lastUnlike.l0.eq_2 ..) (ev_pos (by omega) (ev_pos (by omega) (ev_pos (by omega) (ev_pos (by omega) ?_))))
    rw [ep, eq, e2]
    unfold lastU
    refine ev_pure (a := same (p.getD n []) (q.getD n [])) rfl ?_
    by_cases h : same (p.getD n []) (q.getD n []) = true
    · rw [if_pos h]
      exact ev_pos h (ih (by omega))
    · rw [if_neg h]
      refine ev_neg h (ev_pure (a := (p.getD n [], q.getD n [])) ?_ (ev_ret rfl))
      unfold impl_pairOf.f bytes_Clone.f
      rw [if_pos (by omega), if_pos (by omega)]
      rfl
theorem ups_same_len {b : Int} (n : Nat) : ∀ (size a : Nat) (x x' : Int) (p p' : List Int) {r r'}, ups b n size a x p = some r → ups b n size a x' p' = some r' → r.1.length = r'.1.length := by
  induction n with
  | zero => intro size a x x' p p' r r' h h'; unfold ups at h h'; cases h; cases h'; rfl
  | succ n ih =>
    intro size a x x' p p' r r' h h'
    by_cases h1 : 1 < size
    · by_cases h2 : beside a < size
      · cases p with
        | nil => rw [ups_nil b n size a x h1 h2] at h; cases h
        | cons q p =>
          cases p' with
          | nil => rw [ups_nil b n size a x' h1 h2] at h'; cases h'
          | cons q' p' =>
            rw [ups_step b n size a x q p h1 h2] at h
            rw [ups_step b n size a x' q' p' h1 h2] at h'
            obtain ⟨s, hs, rfl⟩ := Option.map_eq_some_iff.1 h
            obtain ⟨s', hs', rfl⟩ := Option.map_eq_some_iff.1 h'
            simp only [List.length_cons]
            rw [ih _ _ _ _ _ _ hs hs']
      · rw [ups_skip b n size a x p h1 h2] at h
        rw [ups_skip b n size a x' p' h1 h2] at h'
        exact ih _ _ _ _ _ _ h h'
    · rw [ups_le b n size a x p (by omega)] at h
      rw [ups_le b n size a x' p' (by omega)] at h'
      cases h
      cases h'
      rfl
theorem stepIn_le (a : Nat) (q x : Int) : (stepIn a q x).length ≤ 17 := by
  by_cases h : a % 2 = 1
  · have e : stepIn a q x = nodeIn q x := if_pos h
    rw [e]
    exact nodeIn_le _ _
  · have e : stepIn a q x = nodeIn x q := if_neg h
    rw [e]
    exact nodeIn_le _ _
theorem ups_rows {b : Int} (n : Nat) : ∀ (size a : Nat) (x : Int) (p : List Int) {r}, ups b n size a x p = some r → ∀ z ∈ r.1, z.length ≤ 17 := by
  induction n with
  | zero => intro size a x p r h; unfold ups at h; cases h; intro z hz; cases hz
  | succ n ih =>
    intro size a x p r h
    by_cases h1 : 1 < size
    · by_cases h2 : beside a < size
      · cases p with
        | nil => rw [ups_nil b n size a x h1 h2] at h; cases h
        | cons q p =>
          rw [ups_step b n size a x q p h1 h2] at h
          obtain ⟨r', h1, rfl⟩ := Option.map_eq_some_iff.1 h
          intro z hz
          rcases List.mem_cons.1 hz with rfl | hz
          · exact stepIn_le _ _ _
          · exact ih _ _ _ _ h1 z hz
      · rw [ups_skip b n size a x p h1 h2] at h
        exact ih _ _ _ _ h
    · rw [ups_le b n size a x p (by omega)] at h
      cases h
      intro z hz
      cases hz
theorem climbed_facts (b many at_ : Int) (leaf path : List Int) :
    ((climbed b many at_ leaf path).1.length ≤ 20 ∧ ∀ z ∈ (climbed b many at_ leaf path).1, z.length ≤ 4000) ∧ (((climbed b many at_ leaf path).2 = true ∧ 0 ≤ rootFrom b many at_ leaf path) ∨ ((climbed b many at_ leaf path).2 = false ∧ rootFrom b many at_ leaf path = -1)) := by
  unfold climbed rootFrom
  by_cases hu : upOk b many at_ leaf path
  · rw [if_pos hu, if_pos hu]
    have h1 := fun r => @ups_length b 16 many.toNat at_.toNat (Dig.digest b (0 :: leaf)) path r
    have h2 := fun r => @ups_rows b 16 many.toNat at_.toNat (Dig.digest b (0 :: leaf)) path r
    generalize ups b 16 many.toNat at_.toNat (Dig.digest b (0 :: leaf)) path = w at h1 h2 ⊢
    obtain ⟨_, _, h3, h4, _⟩ := hu
    cases w with
    | none => exact ⟨⟨Nat.zero_le _, fun z hz => by cases hz⟩, .inr ⟨rfl, rfl⟩⟩
    | some w =>
      obtain ⟨l, r, y⟩ := w
      have h1 := h1 _ rfl
      have h2 := h2 _ rfl
      simp only at h1 h2
      simp only []
      refine ⟨⟨by simp only [List.length_cons, List.length_append, List.length_nil]; omega, ?_⟩, ?_⟩
      · intro z hz
        rcases List.mem_cons.1 hz with rfl | hz
        · simp only [List.length_cons]; omega
        · rcases List.mem_append.1 hz with hz | hz
          · have := h2 z hz; omega
          · rw [List.mem_singleton.1 hz]
            have := topIn_le many.toNat y
            omega
      · by_cases hr : r = []
        · rw [if_pos hr]
          exact .inl ⟨decide_eq_true hr, (Dig.digest_range h3.1 h3.2 (by have := topIn_le many.toNat y; omega)).1⟩
        · rw [if_neg hr]
          exact .inr ⟨decide_eq_false hr, rfl⟩
  · rw [if_neg hu, if_neg hu]
    exact ⟨⟨Nat.zero_le _, fun z hz => by cases hz⟩, .inr ⟨rfl, rfl⟩⟩
theorem climbed_len {b many at_ : Int} {leaf path leaf' path' : List Int} (h : (climbed b many at_ leaf path).2 = true) (h' : (climbed b many at_ leaf' path').2 = true) : (climbed b many at_ leaf' path').1.length = (climbed b many at_ leaf path).1.length := by
  unfold climbed at h h' ⊢
  by_cases hu : upOk b many at_ leaf path
  · by_cases hu' : upOk b many at_ leaf' path'
    · rw [if_pos hu] at h ⊢
      rw [if_pos hu'] at h' ⊢
      have hs := fun r r' => @ups_same_len b 16 many.toNat at_.toNat (Dig.digest b (0 :: leaf)) (Dig.digest b (0 :: leaf')) path path' r r'
      generalize ups b 16 many.toNat at_.toNat (Dig.digest b (0 :: leaf)) path = w at h hs ⊢
      generalize ups b 16 many.toNat at_.toNat (Dig.digest b (0 :: leaf')) path' = w' at h' hs ⊢
      cases w with
      | none => simp at h
      | some w =>
        cases w' with
        | none => simp at h'
        | some w' =>
          obtain ⟨l, r, y⟩ := w
          obtain ⟨l', r', y'⟩ := w'
          have := hs _ _ rfl rfl
          simp only at this
          simp only [List.length_cons, List.length_append, this]
    · rw [if_neg hu'] at h'
      simp at h'
  · rw [if_neg hu] at h
    simp at h
/-- FromPaths' answer. -/
def fromPaths (b many at_ : Int) (x p y q : List Int) : List Int × List Int × Bool :=
  if (climbed b many at_ x p).2 = true ∧ (climbed b many at_ y q).2 = true ∧ rootFrom b many at_ x p = rootFrom b many at_ y q then lastU (climbed b many at_ x p).1 (climbed b many at_ y q).1 (climbed b many at_ x p).1.length else ([], [], false)
theorem impl_frompaths (b many at_ : Int) (x p y q : List Int) : Ev (fun k => impl_FromPaths.f k b many at_ x p y q) (fromPaths b many at_ x p y q) := by
  unfold impl_FromPaths.f fromPaths
  refine ev_bind (impl_climbed b many at_ x p) (ev_bind (impl_climbed b many at_ y q) ?_)
  have f1 := climbed_facts b many at_ x p
  have f2 := climbed_facts b many at_ y q
  have l1 := impl_lastof b many at_ x p
  have l2 := impl_lastof b many at_ y q
  have hlen := @climbed_len b many at_ x p y q
  generalize climbed b many at_ x p = r1 at f1 l1 hlen ⊢
  generalize climbed b many at_ y q = r2 at f2 l2 hlen ⊢
  generalize rootFrom b many at_ x p = d1 at f1 l1 ⊢
  generalize rootFrom b many at_ y q = d2 at f2 l2 ⊢
  by_cases h1 : r1.2 = true
  · refine ev_pos h1 ?_
    by_cases h2 : r2.2 = true
    · rw [h1] at l1
      rw [h2] at l2
      refine ev_pos h2 (ev_pure l1 (ev_pure l2 ?_))
      by_cases h3 : d1 = d2
      · rw [if_pos ⟨h1, h2, h3⟩]
        refine ev_pos h3 ?_
        have hl := hlen h1 h2
        have hn := f1.1.1
        have e : wrap64 ((r1.1.length : Int) - 1) = (r1.1.length : Int) - 1 := wr (by omega) (by omega)
        have hu := impl_lastu_l0 r1.1 r2.1 (fun z hz => by have := f1.1.2 z hz; omega) (fun z hz => by have := f2.1.2 z hz; omega) hl r1.1.length (Nat.le_refl _) (by omega)
        refine ev_bind (a := lastU r1.1 r2.1 r1.1.length) ?_ (ev_ret rfl)
        unfold impl_lastUnlike.f
        rw [e]
        exact hu
      · rw [if_neg (fun h => h3 h.2.2)]
        exact ev_neg h3 (ev_ret rfl)
    · rw [if_neg (fun h => h2 h.2.1)]
      exact ev_neg h2 (ev_ret rfl)
  · rw [if_neg (fun h => h1 h.1)]
    exact ev_neg h1 (ev_ret rfl)
theorem drop_one {m : List Int} {i : Nat} {x : Int} {t : List Int} (h : m.drop i = x :: t) : i < m.length ∧ rd m (i : Int) = x ∧ m.drop (i + 1) = t := by
  have hl : i < m.length := by
    have := congrArg List.length h
    simp only [List.length_drop, List.length_cons] at this
    omega
  have h2 := drop_getD m 0 i hl
  rw [h] at h2
  injection h2 with h3 h4
  exact ⟨hl, by rw [rd_nat]; exact h3.symm, h4.symm⟩
/-- The level above. -/
def abv (b : Int) : List Int → List Int
  | x :: y :: l => node b x y :: abv b l
  | [x] => [x]
  | [] => []
theorem abv_length (b : Int) : ∀ l : List Int, (abv b l).length = (l.length + 1) / 2
  | [] => rfl
  | [x] => by simp [abv]
  | x :: y :: l => by
    have := abv_length b l
    simp only [abv, List.length_cons]
    omega
theorem abv_okd {b : Int} (hb : 2 ≤ b ∧ b ≤ 60) : ∀ l : List Int, (∀ x ∈ l, okd b x) → ∀ x ∈ abv b l, okd b x
  | [], _ => fun x hx => by cases hx
  | [y], h => fun x hx => h x hx
  | y :: z :: l, h => fun x hx => by
    simp only [abv, List.mem_cons] at hx
    rcases hx with rfl | hx
    · unfold node
      rw [if_pos ⟨h y (by simp), h z (by simp)⟩]
      exact node_okd hb _ _
    · exact abv_okd hb l (fun w hw => h w (by simp [hw])) x hx
/-- All levels of a tree, the leaves' first. -/
def lvs (b : Int) : Nat → List Int → List (List Int)
  | 0, l => [l]
  | n + 1, l => if l.length = 1 then [l] else l :: lvs b n (abv b l)
/-- The one number of the last level. -/
def apex (b : Int) : Nat → List Int → Int
  | 0, l => rd l 0
  | n + 1, l => if l.length = 1 then rd l 0 else apex b n (abv b l)
theorem one_of {l : List Int} (h : l.length = 1) : l = [rd l 0] := by
  match l, h with
  | [x], _ => rfl
theorem lvs_last (b : Int) (n : Nat) : ∀ l : List Int, 1 ≤ l.length → l.length ≤ n + 1 → ∃ pre, lvs b n l = pre ++ [[apex b n l]] ∧ pre.length ≤ n := by
  induction n with
  | zero =>
    intro l h1 h2
    refine ⟨[], ?_, Nat.le_refl _⟩
    unfold lvs apex
    rw [List.nil_append, ← one_of (by omega)]
  | succ n ih =>
    intro l h1 h2
    unfold lvs apex
    by_cases h : l.length = 1
    · rw [if_pos h, if_pos h]
      exact ⟨[], by rw [List.nil_append, ← one_of h], Nat.zero_le _⟩
    · rw [if_neg h, if_neg h]
      have hl := abv_length b l
      obtain ⟨pre, e, hp⟩ := ih (abv b l) (by omega) (by omega)
      exact ⟨l :: pre, by rw [e, List.cons_append], by simp only [List.length_cons]; omega⟩
theorem apex_okd {b : Int} (hb : 2 ≤ b ∧ b ≤ 60) (n : Nat) : ∀ l : List Int, 1 ≤ l.length → l.length ≤ n + 1 → (∀ x ∈ l, okd b x) → okd b (apex b n l) := by
  have h0 : ∀ l : List Int, 1 ≤ l.length → (∀ x ∈ l, okd b x) → okd b (rd l 0) := by
    intro l h1 h
    match l, h1 with
    | x :: l, _ => exact h x List.mem_cons_self
  induction n with
  | zero => intro l h1 _ h; exact h0 l h1 h
  | succ n ih =>
    intro l h1 h2 h
    unfold apex
    split
    · exact h0 l h1 h
    · have hl := abv_length b l
      exact ih (abv b l) (by omega) (by omega) (abv_okd hb l h)
/-- The leaves' digests. -/
def leafs (b : Int) (l : List (List Int)) : List Int := l.map fun x => Dig.digest b (0 :: x)
theorem leafs_length (b : Int) (l : List (List Int)) : (leafs b l).length = l.length := by simp [leafs]
theorem leafs_okd {b : Int} (hb : 2 ≤ b ∧ b ≤ 60) {l : List (List Int)} (h : ∀ x ∈ l, x.length < 4000) : ∀ x ∈ leafs b l, okd b x := by
  intro x hx
  obtain ⟨y, hy, rfl⟩ := List.mem_map.1 hx
  have := h y hy
  exact ⟨hb, Dig.digest_range hb.1 hb.2 (by simp only [List.length_cons]; omega)⟩
/-- Leaves that are such of a tree. -/
def lok (b : Int) (l : List (List Int)) : Prop := ((2 ≤ b ∧ b ≤ 60) ∧ 1 ≤ l.length ∧ l.length ≤ 16) ∧ ∀ x ∈ l, x.length < 4000
instance (b : Int) (l : List (List Int)) : Decidable (lok b l) := by unfold lok; infer_instance
theorem impl_lok (b : Int) (l : List (List Int)) : impl_leavesOk.f b l = some (decide (lok b l)) := by
  have h : impl_leavesOk.f b l = some (decide ((2 ≤ b ∧ b ≤ 60) ∧ 1 ≤ l.length ∧ l.length ≤ 16) && l.all fun x => decide (x.length < 4000)) := rfl
  rw [h]
  congr 1
  rw [Bool.eq_iff_iff, Bool.and_eq_true, decide_eq_true_eq, List.all_eq_true, decide_eq_true_eq]
  unfold lok
  simp only [decide_eq_true_eq]
theorem snoc_take (f : List Int → Int) (l : List (List Int)) (i : Nat) (h : i < l.length) : (l.map f).take i ++ [f (l.getD i [])] = (l.map f).take (i + 1) := by
  rw [List.take_succ_eq_append_getElem (by simpa using h), List.getElem_map, List.getD_eq_getElem?_getD, List.getElem?_eq_getElem h]
  rfl
theorem lv_l2 (b : Int) (m : List Int) (out : List (List Int)) (hm : m.length ≤ 16) (res : List (List Int)) : ∀ (t : List Int) (i : Nat) (acc : List Int), m.drop i = t → acc.length + t.length ≤ 100 → i ≤ 100 →
    Ev (fun k => impl_levels.l1 k b (acc ++ abv b t) out) res → Ev (fun k => impl_levels.l2 k b m out acc (i : Int)) res
  | [], i, acc, hd, ha, hi, hk => by
    have hl : m.length ≤ i := List.drop_eq_nil_iff.1 hd
    refine Ev.step (fun k => impl_levels.l2.eq_2 ..) (ev_neg (by omega) ?_)
    rw [abv, List.append_nil] at hk
    exact hk
  | [x], i, acc, hd, ha, hi, hk => by
    obtain ⟨h1, h2, h3⟩ := drop_one hd
    have hl : m.length ≤ i + 1 := List.drop_eq_nil_iff.1 h3
    simp only [List.length_cons, List.length_nil] at ha
    refine Ev.step (fun k => impl_levels.l2.eq_2 ..) (ev_pos (by omega) (ev_neg (by rw [wr_succ (by omega)]; omega) (ev_pos (by omega) (ev_pos (by omega) ?_))))
    rw [h2, wr (n := (i : Int) + 2) (by omega) (by omega)]
    exact lv_l2 b m out hm res [] (i + 2) (acc ++ [x]) (List.drop_eq_nil_iff.2 (by omega)) (by simp only [List.length_append, List.length_singleton, List.length_nil]; omega) (by omega) (by rw [abv, List.append_nil]; exact hk)
  | x :: y :: t, i, acc, hd, ha, hi, hk => by
    obtain ⟨h1, h2, h3⟩ := drop_one hd
    obtain ⟨h4, h5, h6⟩ := drop_one h3
    simp only [List.length_cons] at ha
    refine Ev.step (fun k => impl_levels.l2.eq_2 ..) (ev_pos (by omega) (ev_pos (by rw [wr_succ (by omega)]; omega) (ev_pos (by omega) (ev_pos (by rw [wr_succ (by omega)]; omega) ?_))))
    rw [h2, wr_succ (n := i) (by omega), h5, wr (n := (i : Int) + 2) (by omega) (by omega)]
    refine ev_bind (impl_node b x y) (ev_pos (by omega) ?_)
    refine lv_l2 b m out hm res t (i + 2) (acc ++ [node b x y]) h6 (by simp only [List.length_append, List.length_singleton]; omega) (by omega) ?_
    rw [List.append_assoc]
    exact hk
theorem lv_l1 (b : Int) (n : Nat) : ∀ (m : List Int) (out : List (List Int)), 1 ≤ m.length → m.length ≤ n + 1 → m.length ≤ 16 → out.length + n ≤ 1000 → Ev (fun k => impl_levels.l1 k b m out) (out ++ lvs b n m) := by
  induction n with
  | zero =>
    intro m out h1 h2 h3 h4
    refine Ev.step (fun k => impl_levels.l1.eq_2 ..) (ev_pos (by omega) (ev_some (ev_pos (by omega) (ev_ret ?_))))
    unfold lvs
    rfl
  | succ n ih =>
    intro m out h1 h2 h3 h4
    refine Ev.step (fun k => impl_levels.l1.eq_2 ..) (ev_pos (by omega) (ev_some ?_))
    unfold lvs
    by_cases h : m.length = 1
    · rw [if_pos h]
      exact ev_pos (by omega) (ev_ret rfl)
    · rw [if_neg h]
      have hl := abv_length b m
      refine ev_neg (by omega) (lv_l2 b m (out ++ [m]) h3 _ m 0 [] rfl (by simp only [List.length_nil]; omega) (by omega) ?_)
      have := ih (abv b m) (out ++ [m]) (by omega) (by omega) (by omega) (by simp only [List.length_append, List.length_singleton]; omega)
      rw [List.append_assoc] at this
      exact this
theorem lv_l0 (b : Int) (l : List (List Int)) (h1 : 1 ≤ l.length) (h2 : l.length ≤ 16) (hs : ∀ x ∈ l, x.length < 4000) (n : Nat) : ∀ i : Nat, i + n = l.length →
    Ev (fun k => impl_levels.l0 k b ((leafs b l).take i) [] l (l.length : Int) (i : Int)) (lvs b 15 (leafs b l)) := by
  have hll := leafs_length b l
  induction n with
  | zero =>
    intro i hi
    refine Ev.step (fun k => impl_levels.l0.eq_2 ..) (ev_neg (by omega) ?_)
    rw [List.take_of_length_le (by omega)]
    exact lv_l1 b 15 (leafs b l) [] (by omega) (by omega) (by omega) (by decide)
  | succ n ih =>
    intro i hi
    have hx : (l.getD i []).length < 4000 := by
      rw [List.getD_eq_getElem?_getD, List.getElem?_eq_getElem (by omega)]
      exact hs _ (List.getElem_mem _)
    refine Ev.step (fun k => impl_levels.l0.eq_2 ..) (ev_pos (by omega) (ev_pos (by omega) (ev_pos (by omega) ?_)))
    have er : rd_L1 l (i : Int) = l.getD i [] := by unfold rd_L1; rw [Int.toNat_natCast]
    rw [er]
    refine ev_pure (impl_leaf b (by omega)) (ev_pos (by rw [List.length_take]; omega) ?_)
    have es : (leafs b l).take i ++ [Dig.digest b (0 :: l.getD i [])] = (leafs b l).take (i + 1) := snoc_take (fun x => Dig.digest b (0 :: x)) l i (by omega)
    rw [wr_succ (by omega), es]
    exact ih (i + 1) (by omega)
theorem impl_lvs (b : Int) (l : List (List Int)) (h1 : 1 ≤ l.length) (h2 : l.length ≤ 16) (hs : ∀ x ∈ l, x.length < 4000) : Ev (fun k => impl_levels.f k b l) (lvs b 15 (leafs b l)) := by
  unfold impl_levels.f
  exact lv_l0 b l h1 h2 hs l.length 0 (by omega)
/-- The top's input of leaves. -/
def topOfL (b : Int) (l : List (List Int)) : List Int := topIn l.length (apex b 15 (leafs b l))
theorem lok_apex {b : Int} {l : List (List Int)} (h : lok b l) : okd b (apex b 15 (leafs b l)) := by
  have := leafs_length b l
  exact apex_okd h.1.1 15 (leafs b l) (by have := h.1.2; omega) (by have := h.1.2; omega) (leafs_okd h.1.1 h.2)
theorem last_lvs (b : Int) (l : List (List Int)) (h1 : 1 ≤ l.length) (h2 : l.length ≤ 16) : ∃ pre, lvs b 15 (leafs b l) = pre ++ [[apex b 15 (leafs b l)]] ∧ pre.length ≤ 15 := by
  have := leafs_length b l
  exact lvs_last b 15 (leafs b l) (by omega) (by omega)
theorem rdI_last (pre : List (List Int)) (x : List Int) (h : pre.length ≤ 15) : wrap64 (((pre ++ [x]).length : Int) - 1) = (pre.length : Int) ∧ rd_L3 (pre ++ [x]) (pre.length : Int) = x := by
  refine ⟨?_, ?_⟩
  · rw [List.length_append, List.length_singleton, wr (by omega) (by omega)]
    omega
  · unfold rd_L3
    rw [Int.toNat_natCast, List.getD_eq_getElem?_getD, List.getElem?_append_right (Nat.le_refl _), Nat.sub_self]
    rfl
theorem impl_topof {b : Int} {l : List (List Int)} (h : lok b l) : Ev (fun k => impl_topOf.f k b l) (topOfL b l) := by
  unfold impl_topOf.f topOfL
  obtain ⟨⟨hb, h1, h2⟩, hs⟩ := h
  have ha := lok_apex (b := b) (l := l) ⟨⟨hb, h1, h2⟩, hs⟩
  obtain ⟨pre, e, hp⟩ := last_lvs b l h1 h2
  refine ev_bind (impl_lvs b l h1 h2 hs) ?_
  rw [e]
  generalize apex b 15 (leafs b l) = x at ha ⊢
  obtain ⟨e1, e2⟩ := rdI_last pre [x] hp
  rw [e1, e2]
  have e3 : rd [x] 0 = x := rfl
  rw [e3]
  exact ev_pos (by omega) (ev_pos (by simp only [List.length_append, List.length_singleton]; omega) (ev_pos (by simp) (ev_bind (impl_topin h2 (okd_le ha).2) (ev_ret rfl))))
/-- A tree's root; -1: the leaves are no such. -/
def treeRoot (b : Int) (l : List (List Int)) : Int := if lok b l then Dig.digest b (topOfL b l) else -1
theorem impl_treeroot (b : Int) (l : List (List Int)) : Ev (fun k => impl_TreeRoot.f k b l) (treeRoot b l) := by
  unfold impl_TreeRoot.f treeRoot
  refine ev_pure (impl_lok b l) ?_
  by_cases h : lok b l
  · rw [if_pos h]
    exact ev_pos (decide_eq_true h) (ev_bind (impl_topof h) (ev_pure (impl_digest b _) (ev_ret rfl)))
  · rw [if_neg h]
    exact ev_neg (by simp [h]) (ev_ret rfl)
/-- The path of a place: of each level the one beside, where there is one. -/
def pth (a : Nat) : List (List Int) → List Int
  | [] => []
  | v :: r => (if beside a < v.length then [v.getD (beside a) 0] else []) ++ pth (a / 2) r
theorem pth_length (L : List (List Int)) : ∀ a, (pth a L).length ≤ L.length := by
  induction L with
  | nil => intro a; exact Nat.le_refl _
  | cons v r ih =>
    intro a
    have := ih (a / 2)
    unfold pth
    rw [List.length_append, List.length_cons]
    split
    · simp only [List.length_singleton]; omega
    · simp only [List.length_nil]; omega
theorem lvs_length (b : Int) (n : Nat) : ∀ m : List Int, (lvs b n m).length ≤ n + 1 := by
  induction n with
  | zero => intro m; exact Nat.le_refl _
  | succ n ih =>
    intro m
    unfold lvs
    split
    · simp
    · have := ih (abv b m)
      simp only [List.length_cons]
      omega
theorem rdI_nat (L : List (List Int)) (i : Nat) : rd_L3 L (i : Int) = L.getD i [] := by unfold rd_L3; rw [Int.toNat_natCast]
theorem impl_path_l0 (L : List (List Int)) (hL : L.length ≤ 100) (n : Nat) : ∀ (i a : Nat) (acc : List Int), i + n = L.length → a < 16 → acc.length + n ≤ 1000 →
    Ev (fun k => impl_path.l0 k (a : Int) acc L (L.length : Int) (i : Int)) (acc ++ pth a (L.drop i)) := by
  induction n with
  | zero =>
    intro i a acc hi ha hac
    refine Ev.step (fun k => impl_path.l0.eq_2 ..) (ev_neg (by omega) (ev_ret ?_))
    rw [List.drop_eq_nil_of_le (by omega)]
    unfold pth
    rw [List.append_nil]
  | succ n ih =>
    intro i a acc hi ha hac
    refine Ev.step (fun k => impl_path.l0.eq_2 ..) (ev_pos (by omega) (ev_pos (by omega) (ev_pos (by omega) ?_)))
    have hd : L.drop i = L.getD i [] :: L.drop (i + 1) := drop_getD L [] i (by omega)
    have hx : Go.bits .xor .i64 (a : Int) 1 = ((beside a : Nat) : Int) := xor_one ⟨a, ha⟩
    rw [hx, rdI_nat, half_nat a (by omega), wr_succ (n := i) (by omega), hd, pth]
    generalize L.getD i [] = v
    by_cases h : beside a < v.length
    · rw [if_pos h, rd_nat]
      refine ev_pos (by omega) (ev_pos (by omega) (ev_pos (by omega) ?_))
      have := ih (i + 1) (a / 2) (acc ++ [v.getD (beside a) 0]) (by omega) (by omega) (by simp only [List.length_append, List.length_singleton]; omega)
      rw [List.append_assoc] at this
      exact this
    · rw [if_neg h]
      exact ev_neg (by omega) (ih (i + 1) (a / 2) acc (by omega) (by omega) (by omega))
/-- Path's answer. -/
def pathOf (b : Int) (l : List (List Int)) (a : Int) : List Int × Bool := if lok b l ∧ 0 ≤ a ∧ a < (l.length : Int) then (pth a.toNat (lvs b 15 (leafs b l)), true) else ([], false)
theorem impl_pathL {b : Int} {l : List (List Int)} {a : Int} (h : lok b l) (h0 : 0 ≤ a) (h1 : a < (l.length : Int)) : Ev (fun k => impl_path.f k b l a) (pth a.toNat (lvs b 15 (leafs b l))) := by
  have hl := h.1.2
  obtain ⟨n, rfl⟩ := Int.eq_ofNat_of_zero_le h0
  unfold impl_path.f
  refine ev_bind (impl_lvs b l hl.1 hl.2 h.2) ?_
  have hL := lvs_length b 15 (leafs b l)
  rw [Int.toNat_natCast]
  have := impl_path_l0 (lvs b 15 (leafs b l)) (by omega) (lvs b 15 (leafs b l)).length 0 n [] (by omega) (by omega) (by simp only [List.length_nil]; omega)
  exact this
theorem slv_l2 (b : Int) (m : List Int) (out : List (List Int)) (hm : m.length ≤ 16) (ho : out.length ≤ 1000) (res : List (List Int)) : ∀ (t : List Int) (i : Nat) (acc : List Int), m.drop i = t → acc.length + t.length ≤ 100 → i ≤ 100 →
    Ev (fun k => spec_l2Levels.l1 k b (acc ++ abv b t) (out ++ [acc ++ abv b t])) res → Ev (fun k => spec_l2Levels.l2 k b m out acc (i : Int)) res
  | [], i, acc, hd, ha, hi, hk => by
    have hl : m.length ≤ i := List.drop_eq_nil_iff.1 hd
    refine Ev.step (fun k => spec_l2Levels.l2.eq_2 ..) (ev_neg (by omega) (ev_pos (by omega) ?_))
    rw [abv, List.append_nil] at hk
    exact hk
  | [x], i, acc, hd, ha, hi, hk => by
    obtain ⟨h1, h2, h3⟩ := drop_one hd
    have hl : m.length ≤ i + 1 := List.drop_eq_nil_iff.1 h3
    simp only [List.length_cons, List.length_nil] at ha
    refine Ev.step (fun k => spec_l2Levels.l2.eq_2 ..) (ev_pos (by omega) (ev_neg (by rw [wr_succ (by omega)]; omega) (ev_pos (by omega) (ev_pos (by omega) ?_))))
    rw [h2, wr (n := (i : Int) + 2) (by omega) (by omega)]
    exact slv_l2 b m out hm ho res [] (i + 2) (acc ++ [x]) (List.drop_eq_nil_iff.2 (by omega)) (by simp only [List.length_append, List.length_singleton, List.length_nil]; omega) (by omega) (by rw [abv, List.append_nil]; exact hk)
  | x :: y :: t, i, acc, hd, ha, hi, hk => by
    obtain ⟨h1, h2, h3⟩ := drop_one hd
    obtain ⟨h4, h5, h6⟩ := drop_one h3
    simp only [List.length_cons] at ha
    refine Ev.step (fun k => spec_l2Levels.l2.eq_2 ..) (ev_pos (by omega) (ev_pos (by rw [wr_succ (by omega)]; omega) (ev_pos (by omega) (ev_pos (by rw [wr_succ (by omega)]; omega) ?_))))
    rw [h2, wr_succ (n := i) (by omega), h5, wr (n := (i : Int) + 2) (by omega) (by omega)]
    refine ev_bind (spec_node b x y) (ev_pos (by omega) ?_)
    refine slv_l2 b m out hm ho res t (i + 2) (acc ++ [node b x y]) h6 (by simp only [List.length_append, List.length_singleton]; omega) (by omega) ?_
    rw [List.append_assoc]
    exact hk
theorem slv_l1 (b : Int) (n : Nat) : ∀ (m : List Int) (out : List (List Int)), 1 ≤ m.length → m.length ≤ n + 1 → m.length ≤ 16 → out.length + n ≤ 900 → Ev (fun k => spec_l2Levels.l1 k b m (out ++ [m])) (out ++ lvs b n m) := by
  induction n with
  | zero =>
    intro m out h1 h2 h3 h4
    refine Ev.step (fun k => spec_l2Levels.l1.eq_2 ..) (ev_neg (by omega) (ev_ret ?_))
    unfold lvs
    rfl
  | succ n ih =>
    intro m out h1 h2 h3 h4
    refine Ev.step (fun k => spec_l2Levels.l1.eq_2 ..) ?_
    unfold lvs
    by_cases h : m.length = 1
    · rw [if_pos h]
      exact ev_neg (by omega) (ev_ret rfl)
    · rw [if_neg h]
      have hl := abv_length b m
      refine ev_pos (by omega) (slv_l2 b m (out ++ [m]) h3 (by simp only [List.length_append, List.length_singleton]; omega) _ m 0 [] rfl (by simp only [List.length_nil]; omega) (by omega) ?_)
      have := ih (abv b m) (out ++ [m]) (by omega) (by omega) (by omega) (by simp only [List.length_append, List.length_singleton]; omega)
      rw [List.append_assoc, List.append_assoc] at this
      rw [List.nil_append, List.append_assoc]
      exact this
theorem slv_l0 (b : Int) (l : List (List Int)) (h1 : 1 ≤ l.length) (h2 : l.length ≤ 16) (hs : ∀ x ∈ l, x.length < 4000) (n : Nat) : ∀ i : Nat, i + n = l.length →
    Ev (fun k => spec_l2Levels.l0 k b l ((leafs b l).take i) (i : Int)) (lvs b 15 (leafs b l)) := by
  have hll := leafs_length b l
  induction n with
  | zero =>
    intro i hi
    refine Ev.step (fun k => spec_l2Levels.l0.eq_2 ..) (ev_neg (by omega) ?_)
    rw [List.take_of_length_le (by omega)]
    exact slv_l1 b 15 (leafs b l) [] (by omega) (by omega) (by omega) (by decide)
  | succ n ih =>
    intro i hi
    have hx : (l.getD i []).length < 4000 := by
      rw [List.getD_eq_getElem?_getD, List.getElem?_eq_getElem (by omega)]
      exact hs _ (List.getElem_mem _)
    refine Ev.step (fun k => spec_l2Levels.l0.eq_2 ..) (ev_pos (by omega) (ev_pos (by omega) ?_))
    have er : rd_L1 l (i : Int) = l.getD i [] := by unfold rd_L1; rw [Int.toNat_natCast]
    rw [er]
    refine ev_bind (spec_leaf b (by omega)) (ev_pos (by rw [List.length_take]; omega) ?_)
    have es : (leafs b l).take i ++ [Dig.digest b (0 :: l.getD i [])] = (leafs b l).take (i + 1) := snoc_take (fun x => Dig.digest b (0 :: x)) l i (by omega)
    rw [wr_succ (by omega), es]
    exact ih (i + 1) (by omega)
theorem spec_lvs (b : Int) (l : List (List Int)) (h1 : 1 ≤ l.length) (h2 : l.length ≤ 16) (hs : ∀ x ∈ l, x.length < 4000) : Ev (fun k => spec_l2Levels.f k b l) (lvs b 15 (leafs b l)) := by
  unfold spec_l2Levels.f
  exact slv_l0 b l h1 h2 hs l.length 0 (by omega)
theorem spec_lok_l0 (b : Int) (l : List (List Int)) (hl : l.length ≤ 1048576) (n : Nat) : ∀ i : Nat, i + n = l.length → (∀ x ∈ l.take i, x.length < 4000) → Ev (fun k => spec_l2Leaves.l0 k b l (i : Int)) (decide (lok b l)) := by
  induction n with
  | zero =>
    intro i hi hs
    rw [List.take_of_length_le (by omega)] at hs
    refine Ev.step (fun k => spec_l2Leaves.l0.eq_2 ..) (ev_neg (by omega) (ev_pure (spec_in_eq _ _ _) ?_))
    by_cases h1 : 2 ≤ b ∧ b ≤ 60
    · refine ev_pos (decide_eq_true h1) (ev_pure (spec_in_eq _ _ _) (ev_ret ?_))
      apply decide_eq_decide.2
      unfold lok
      constructor
      · intro h; exact ⟨⟨h1, by omega, by omega⟩, hs⟩
      · intro h; have := h.1.2; omega
    · refine ev_neg (by simp only [decide_eq_true_eq]; exact h1) (ev_ret ?_)
      exact (decide_eq_false (fun h => h1 h.1.1)).symm
  | succ n ih =>
    intro i hi hs
    have er : rd_L1 l (i : Int) = l.getD i [] := by unfold rd_L1; rw [Int.toNat_natCast]
    refine Ev.step (fun k => spec_l2Leaves.l0.eq_2 ..) (ev_pos (by omega) (ev_pos (by omega) ?_))
    rw [er]
    have hm : l.getD i [] ∈ l := by
      rw [List.getD_eq_getElem?_getD, List.getElem?_eq_getElem (by omega)]
      exact List.getElem_mem _
    by_cases hx : (l.getD i []).length < 4000
    · refine ev_neg (by omega) ?_
      rw [wr_succ (by omega)]
      refine ih (i + 1) (by omega) (fun x hx' => ?_)
      rw [← take_getD l [] i (by omega)] at hx'
      rcases List.mem_append.1 hx' with h | h
      · exact hs x h
      · rw [List.mem_singleton.1 h]; exact hx
    · refine ev_pos (by omega) (ev_ret ?_)
      exact (decide_eq_false (fun h => hx (h.2 _ hm))).symm
theorem spec_lok (b : Int) (l : List (List Int)) (hl : l.length ≤ 1048576) : Ev (fun k => spec_l2Leaves.f k b l) (decide (lok b l)) := by
  unfold spec_l2Leaves.f
  exact spec_lok_l0 b l hl l.length 0 (by omega) (fun x hx => by cases hx)
theorem spec_treeroot (b : Int) (l : List (List Int)) (hl : l.length ≤ 1048576) : Ev (fun k => spec_TreeRoot.f k b l) (treeRoot b l) := by
  unfold spec_TreeRoot.f treeRoot
  refine ev_bind (spec_lok b l hl) ?_
  by_cases h : lok b l
  · rw [if_pos h]
    have ha := lok_apex h
    obtain ⟨⟨hb, h1, h2⟩, hs⟩ := h
    obtain ⟨pre, e, hp⟩ := last_lvs b l h1 h2
    refine ev_pos (decide_eq_true ⟨⟨hb, h1, h2⟩, hs⟩) (ev_bind (spec_lvs b l h1 h2 hs) ?_)
    unfold topOfL
    rw [e]
    generalize apex b 15 (leafs b l) = x at ha ⊢
    obtain ⟨e1, e2⟩ := rdI_last pre [x] hp
    rw [e1, e2]
    have e3 : rd [x] 0 = x := rfl
    rw [e3]
    exact ev_pos (by omega) (ev_pos (by simp only [List.length_append, List.length_singleton]; omega) (ev_pos (by simp) (ev_bind (spec_topin h2 (okd_le ha).2) (ev_bind (spec_digest b _) (ev_ret rfl)))))
  · rw [if_neg h]
    exact ev_neg (by simp [h]) (ev_ret rfl)
theorem pth_all (b : Int) (n : Nat) : ∀ (m : List Int) (a : Nat), 1 ≤ m.length → m.length ≤ n + 1 → a < m.length → pth a (lvs b n m).dropLast = pth a (lvs b n m) := by
  have h1 : ∀ (m : List Int) (a : Nat), m.length = 1 → a < m.length → pth a [m] = [] := by
    intro m a hm ha
    have : a = 0 := by omega
    subst this
    unfold pth
    rw [if_neg (by rw [hm]; decide)]
    rfl
  induction n with
  | zero =>
    intro m a h2 h3 h4
    have e : lvs b 0 m = [m] := rfl
    rw [e, h1 m a (by omega) h4]
    rfl
  | succ n ih =>
    intro m a h2 h3 h4
    unfold lvs
    by_cases h : m.length = 1
    · rw [if_pos h, h1 m a h h4]
      rfl
    · rw [if_neg h]
      have hl := abv_length b m
      have := ih (abv b m) (a / 2) (by omega) (by omega) (by omega)
      have hne : lvs b n (abv b m) ≠ [] := by
        intro e
        cases n with
        | zero => simp [lvs] at e
        | succ n =>
          unfold lvs at e
          split at e <;> simp at e
      rw [List.dropLast_cons_of_ne_nil hne]
      show _ ++ _ = _ ++ _
      rw [this]
theorem spec_path_l0 (L : List (List Int)) (hL : L.length ≤ 100) (h1 : 1 ≤ L.length) (n : Nat) : ∀ (i a : Nat) (acc : List Int), i + n + 1 = L.length → a < 16 → acc.length + n ≤ 1000 →
    Ev (fun k => spec_Path.l0 k (a : Int) acc L (i : Int)) (acc ++ pth a (L.dropLast.drop i), true) := by
  have hdl : L.dropLast.length = L.length - 1 := List.length_dropLast
  induction n with
  | zero =>
    intro i a acc hi ha hac
    refine Ev.step (fun k => spec_Path.l0.eq_2 ..) (ev_neg (by rw [wr_succ (by omega)]; omega) (ev_ret ?_))
    rw [List.drop_eq_nil_of_le (by omega)]
    unfold pth
    rw [List.append_nil]
  | succ n ih =>
    intro i a acc hi ha hac
    refine Ev.step (fun k => spec_Path.l0.eq_2 ..) (ev_pos (by rw [wr_succ (by omega)]; omega) (ev_pos (by omega) (ev_pos (by omega) ?_)))
    have hd : L.dropLast.drop i = L.dropLast.getD i [] :: L.dropLast.drop (i + 1) := drop_getD L.dropLast [] i (by omega)
    have hg : L.dropLast.getD i [] = L.getD i [] := by
      rw [List.getD_eq_getElem?_getD, List.getD_eq_getElem?_getD, List.getElem?_dropLast, if_pos (by omega)]
    have hh : ∀ _ : Unit, wrap64 (Int.tdiv (a : Int) 2) = ((a / 2 : Nat) : Int) := fun _ => half_nat a (by omega)
    rw [beside_eq a (by omega), rdI_nat, hh (), wr_succ (n := i) (by omega), hd, hg, pth]
    generalize L.getD i [] = v
    by_cases h : beside a < v.length
    · rw [if_pos h, rd_nat]
      refine ev_pos (by omega) (ev_pos (by omega) (ev_pos (by omega) ?_))
      have := ih (i + 1) (a / 2) (acc ++ [v.getD (beside a) 0]) (by omega) (by omega) (by simp only [List.length_append, List.length_singleton]; omega)
      rw [List.append_assoc] at this
      exact this
    · rw [if_neg h]
      exact ev_neg (by omega) (ih (i + 1) (a / 2) acc (by omega) (by omega) (by omega))
theorem spec_pathof (b : Int) (l : List (List Int)) (a : Int) (hl0 : l.length ≤ 1048576) : Ev (fun k => spec_Path.f k b l a) (pathOf b l a) := by
  unfold spec_Path.f pathOf
  refine ev_some (ev_bind (spec_lok b l hl0) ?_)
  by_cases h : lok b l
  · have hl := h.1.2
    refine ev_pos (decide_eq_true h) (ev_pure (spec_in_eq _ _ _) (Ev.step (fun k => spec_Path.j0.eq_2 ..) ?_))
    rw [wr (n := (l.length : Int) - 1) (by omega) (by omega)]
    by_cases h2 : 0 ≤ a ∧ a ≤ (l.length : Int) - 1
    · rw [if_pos ⟨h, h2.1, by omega⟩]
      refine ev_neg (by simp [h2]) (ev_bind (spec_lvs b l hl.1 hl.2 h.2) ?_)
      obtain ⟨n, rfl⟩ := Int.eq_ofNat_of_zero_le h2.1
      have hL := lvs_length b 15 (leafs b l)
      have hll := leafs_length b l
      obtain ⟨pre, e, hp⟩ := last_lvs b l hl.1 hl.2
      have h1 : 1 ≤ (lvs b 15 (leafs b l)).length := by rw [e]; simp
      have := spec_path_l0 (lvs b 15 (leafs b l)) (by omega) h1 ((lvs b 15 (leafs b l)).length - 1) 0 n [] (by omega) (by omega) (by simp only [List.length_nil]; omega)
      rw [List.drop_zero, pth_all b 15 (leafs b l) n (by omega) (by omega) (by omega), List.nil_append] at this
      rw [Int.toNat_natCast]
      exact this
    · rw [if_neg (fun k => h2 ⟨k.2.1, by have := k.2.2; omega⟩)]
      exact ev_pos (by simp only [decide_eq_false h2]; rfl) (ev_ret rfl)
  · rw [if_neg (fun k => h k.1)]
    exact ev_neg (by simp [h]) (Ev.step (fun k => spec_Path.j0.eq_2 ..) (ev_pos rfl (ev_ret rfl)))
/-- Honest's answer. -/
def honestOf (b : Int) (l : List (List Int)) (a : Int) : Int × Int × List Int × List Int × Bool := if (pathOf b l a).2 = true then ((l.length : Int), a, l.getD a.toNat [], (pathOf b l a).1, true) else (0, 0, [], [], false)
theorem pathOf_true {b : Int} {l : List (List Int)} {a : Int} (h : (pathOf b l a).2 = true) : lok b l ∧ 0 ≤ a ∧ a < (l.length : Int) := by
  unfold pathOf at h
  split at h
  · assumption
  · cases h
theorem spec_honest (b : Int) (l : List (List Int)) (a : Int) (hl : l.length ≤ 1048576) : Ev (fun k => spec_Honest.f k b l a) (honestOf b l a) := by
  unfold spec_Honest.f
  refine ev_bind (spec_pathof b l a hl) ?_
  by_cases h : (pathOf b l a).2 = true
  · have he : honestOf b l a = ((l.length : Int), a, l.getD a.toNat [], (pathOf b l a).1, true) := if_pos h
    rw [he]
    obtain ⟨h1, h2, h3⟩ := pathOf_true h
    obtain ⟨n, rfl⟩ := Int.eq_ofNat_of_zero_le h2
    have hs := h1.2 _ (getD_mem (l := l) (i := n) (by omega))
    refine ev_pos h (ev_pos h2 (ev_pos h3 ?_))
    rw [rdB_nat, Int.toNat_natCast]
    refine ev_pure (a := l.getD n []) ?_ (ev_ret rfl)
    unfold spec_l1Bytes.f
    rw [Option.bind_some, if_pos (by simp only [List.length_nil]; omega), List.nil_append]
  · have he : honestOf b l a = (0, 0, [], [], false) := if_neg h
    rw [he]
    exact ev_neg h (ev_ret rfl)
theorem treeRoot_ok (b : Int) (l : List (List Int)) : 0 ≤ treeRoot b l ↔ lok b l := by
  unfold treeRoot
  by_cases h : lok b l
  · rw [if_pos h]
    have := topIn_le l.length (apex b 15 (leafs b l))
    have h2 := Dig.digest_range (bits := b) (l := topOfL b l) h.1.1.1 h.1.1.2 (by unfold topOfL; omega)
    exact ⟨fun _ => h, fun _ => h2.1⟩
  · rw [if_neg h]
    exact ⟨fun h2 => absurd h2 (by decide), fun h2 => absurd h2 h⟩
/-- The first place from i on where two lists of texts are unlike. -/
def unl : List (List Int) → List (List Int) → Nat → Option Nat
  | x :: l, y :: m, i => if same x y = true then unl l m (i + 1) else some i
  | [], _, _ => none
  | _ :: _, [], _ => none
theorem unl_alike : ∀ (l m : List (List Int)) (i : Nat), alikeL l m = (unl l m i).isNone
  | x :: l, y :: m, i => by
    have := unl_alike l m (i + 1)
    unfold alikeL unl
    by_cases h : same x y = true
    · have h' : alikeB x y = true := h
      rw [if_pos h, h', this]
      rfl
    · have h2 : same x y = false := by simpa using h
      have h' : alikeB x y = false := h2
      rw [if_neg h, h']
      rfl
  | [], _, _ => rfl
  | _ :: _, [], _ => rfl
/-- FromPaths at the first unlike leaves of two trees. -/
def fromAt (b : Int) (x y : List (List Int)) (i : Nat) : List Int × List Int × Bool := fromPaths b (x.length : Int) (i : Int) (x.getD i []) (pth i (lvs b 15 (leafs b x))) (y.getD i []) (pth i (lvs b 15 (leafs b y)))
/-- FromLeaves' answer. -/
def fromLeaves (b : Int) (x y : List (List Int)) : List Int × List Int × Bool :=
  if 0 ≤ treeRoot b x ∧ treeRoot b x = treeRoot b y then
    if x.length = y.length then
      match unl x y 0 with
      | none => ([], [], false)
      | some i => fromAt b x y i
    else (topOfL b x, topOfL b y, true)
  else ([], [], false)
theorem impl_fl_l0 {b : Int} {x y : List (List Int)} (hx : lok b x) (hy : lok b y) (he : x.length = y.length) (n : Nat) : ∀ i j : Nat, i + n = x.length → unl (x.drop i) (y.drop i) i = some j →
    Ev (fun k => impl_FromLeaves.l0 k b x y (i : Int)) (fromAt b x y j) := by
  have hl := hx.1.2
  induction n with
  | zero =>
    intro i j hi h
    rw [List.drop_eq_nil_of_le (by omega), unl] at h
    cases h
  | succ n ih =>
    intro i j hi h
    rw [dropB (l := x) (by omega), dropB (l := y) (by omega)] at h
    refine Ev.step (fun k => impl_FromLeaves.l0.eq_2 ..) (ev_pos (by omega) (ev_pos (by omega) (ev_pos (by omega) ?_)))
    rw [rdB_nat, rdB_nat]
    refine ev_pure (a := same (x.getD i []) (y.getD i [])) rfl ?_
    unfold unl at h
    by_cases hs : same (x.getD i []) (y.getD i []) = true
    · rw [if_pos hs] at h
      refine ev_pos hs ?_
      rw [wr_succ (by omega)]
      exact ih (i + 1) j (by omega) h
    · rw [if_neg hs] at h
      cases h
      have h1 := impl_pathL (a := (i : Int)) hx (by omega) (by omega)
      have h2 := impl_pathL (a := (i : Int)) hy (by omega) (by omega)
      rw [Int.toNat_natCast] at h1 h2
      exact ev_neg hs (ev_bind h1 (ev_bind h2 (ev_bind (impl_frompaths b _ _ _ _ _ _) (ev_ret rfl))))
theorem impl_fromleaves (b : Int) (x y : List (List Int)) : Ev (fun k => impl_FromLeaves.f k b x y) (fromLeaves b x y) := by
  unfold impl_FromLeaves.f fromLeaves
  refine ev_bind (impl_treeroot b x) ?_
  by_cases h0 : 0 ≤ treeRoot b x
  · refine ev_neg (by omega) (ev_bind (impl_treeroot b y) ?_)
    by_cases h1 : treeRoot b x = treeRoot b y
    · rw [if_pos ⟨h0, h1⟩]
      have hx := (treeRoot_ok b x).1 h0
      have hy := (treeRoot_ok b y).1 (by rw [← h1]; exact h0)
      have hs : impl_sameLeaves.f x y = some (decide (x.length = y.length) && alikeL x y) := rfl
      refine ev_pos h1 (ev_pure hs (Ev.step (fun k => impl_FromLeaves.j0.eq_2 ..) ?_))
      rw [unl_alike x y 0]
      by_cases h2 : x.length = y.length
      · rw [if_pos h2, decide_eq_true h2, Bool.true_and]
        cases hu : unl x y 0 with
        | none => exact ev_pos rfl (ev_ret rfl)
        | some j => exact ev_neg (by simp) (ev_pos (by omega) (impl_fl_l0 hx hy h2 x.length 0 j (by omega) hu))
      · rw [if_neg h2, decide_eq_false h2, Bool.false_and]
        exact ev_neg (by decide) (ev_neg (by omega) (ev_bind (impl_topof hx) (ev_bind (impl_topof hy) (ev_ret rfl))))
    · rw [if_neg (fun h => h1 h.2)]
      exact ev_neg h1 (Ev.step (fun k => impl_FromLeaves.j0.eq_2 ..) (ev_pos rfl (ev_ret rfl)))
  · rw [if_neg (fun h => h0 h.1)]
    exact ev_pos (by omega) (Ev.step (fun k => impl_FromLeaves.j0.eq_2 ..) (ev_pos rfl (ev_ret rfl)))
theorem spec_provenL (b root many at_ : Int) (l p : List Int) (hp : p.length ≤ 1048576) : Ev (fun k => spec_Proven.f k b root many at_ l p) (decide (0 ≤ rootFrom b many at_ l p ∧ rootFrom b many at_ l p = root)) := by
  have hs := spec_root b many at_ l p hp
  unfold spec_Proven.f
  generalize rootFrom b many at_ l p = x at hs
  refine ev_bind hs ?_
  by_cases h0 : x ≥ 0
  · exact ev_pos h0 (ev_ret (by rw [Bool.eq_iff_iff]; simp only [beq_iff_eq, decide_eq_true_eq]; omega))
  · exact ev_neg h0 (ev_ret (decide_eq_false (by omega)).symm)
theorem climbed_yes {b many at_ : Int} {leaf path : List Int} (h : 0 ≤ rootFrom b many at_ leaf path) : (climbed b many at_ leaf path).2 = true := by
  rcases (climbed_facts b many at_ leaf path).2 with g | g
  · exact g.1
  · have := g.2; omega
theorem beside_add (a : Nat) : beside (a + 2) = beside a + 2 := by
  unfold beside
  by_cases h : a % 2 = 0
  · rw [if_pos h, if_pos (by omega)]
  · rw [if_neg h, if_neg (by omega)]
    omega
/-- A level's number is the digest of the two below, or the one below that is alone. -/
theorem abv_getD {b : Int} : ∀ (l : List Int) (a : Nat), a < l.length → (∀ x ∈ l, okd b x) → (abv b l).getD (a / 2) 0 = if beside a < l.length then Dig.digest b (stepIn a (l.getD (beside a) 0) (l.getD a 0)) else l.getD a 0
  | [], a, h, _ => absurd h (Nat.not_lt_zero _)
  | [x], a, h, _ => by
    have : a = 0 := by simp only [List.length_singleton] at h; omega
    subst this
    rfl
  | x :: y :: l, a, h, ho => by
    have hn : node b x y = Dig.digest b (nodeIn x y) := by
      unfold node
      rw [if_pos ⟨ho x (by simp), ho y (by simp)⟩]
    match a, h with
    | 0, _ =>
      rw [if_pos (by simp [beside])]
      exact hn
    | 1, _ =>
      rw [if_pos (by simp [beside])]
      exact hn
    | a + 2, h =>
      have hi := abv_getD l a (by simp only [List.length_cons] at h; omega) (fun z hz => ho z (by simp [hz]))
      have e1 : (a + 2) / 2 = a / 2 + 1 := by omega
      have e2 : stepIn (a + 2) ((x :: y :: l).getD (beside (a + 2)) 0) ((x :: y :: l).getD (a + 2) 0) = stepIn a (l.getD (beside a) 0) (l.getD a 0) := by
        rw [beside_add]
        unfold stepIn
        rw [show (a + 2) % 2 = a % 2 by omega]
        rfl
      rw [e1, e2, beside_add]
      show (abv b l).getD (a / 2) 0 = if beside a + 2 < l.length + 1 + 1 then _ else l.getD a 0
      rw [hi]
      by_cases h3 : beside a < l.length
      · rw [if_pos h3, if_pos (by omega)]
      · rw [if_neg h3, if_neg (by omega)]
/-- The way up along a leaf's path ends in the apex, and leaves nothing of the path. -/
theorem ups_pth {b : Int} (hb : 2 ≤ b ∧ b ≤ 60) (n : Nat) : ∀ (m : List Int) (a : Nat) (t : List Int), 1 ≤ m.length → m.length ≤ n + 1 → a < m.length → (∀ x ∈ m, okd b x) → ∃ l, ups b (n + 1) m.length a (m.getD a 0) (pth a (lvs b n m) ++ t) = some (l, t, apex b n m) := by
  have one : ∀ (n : Nat) (m : List Int) (a : Nat) (t : List Int), m.length = 1 → a < m.length → ups b (n + 1) m.length a (m.getD a 0) (pth a [m] ++ t) = some ([], t, rd m 0) := by
    intro n m a t h1 ha
    have : a = 0 := by omega
    subst this
    have e : pth 0 [m] = [] := by
      unfold pth
      rw [if_neg (by rw [h1]; decide)]
      rfl
    rw [e, List.nil_append, ups_le b n m.length 0 _ _ (by omega)]
    rfl
  induction n with
  | zero =>
    intro m a t h1 h2 ha ho
    exact ⟨[], one 0 m a t (by omega) ha⟩
  | succ n ih =>
    intro m a t h1 h2 ha ho
    unfold lvs apex
    by_cases h : m.length = 1
    · rw [if_pos h, if_pos h]
      exact ⟨[], one (n + 1) m a t h ha⟩
    · rw [if_neg h, if_neg h]
      have hl := abv_length b m
      obtain ⟨l, e⟩ := ih (abv b m) (a / 2) t (by omega) (by omega) (by omega) (abv_okd hb m ho)
      rw [abv_getD m a ha ho, hl] at e
      unfold pth
      by_cases hs : beside a < m.length
      · rw [if_pos hs] at e ⊢
        refine ⟨stepIn a (m.getD (beside a) 0) (m.getD a 0) :: l, ?_⟩
        rw [List.append_assoc, List.singleton_append, ups_step b (n + 1) _ _ _ _ _ (by omega) hs, e]
        rfl
      · rw [if_neg hs] at e ⊢
        refine ⟨l, ?_⟩
        rw [List.nil_append, ups_skip b (n + 1) _ _ _ _ (by omega) hs]
        exact e
theorem pth_okd {b : Int} (L : List (List Int)) (h : ∀ v ∈ L, ∀ x ∈ v, okd b x) : ∀ a, ∀ x ∈ pth a L, okd b x := by
  induction L with
  | nil => intro a x hx; cases hx
  | cons v r ih =>
    intro a x hx
    unfold pth at hx
    rcases List.mem_append.1 hx with hx | hx
    · by_cases hs : beside a < v.length
      · rw [if_pos hs, List.mem_singleton, List.getD_eq_getElem?_getD, List.getElem?_eq_getElem hs] at hx
        subst hx
        exact h v List.mem_cons_self _ (List.getElem_mem hs)
      · rw [if_neg hs] at hx
        cases hx
    · exact ih (fun u hu => h u (List.mem_cons_of_mem _ hu)) (a / 2) x hx
theorem lvs_okd {b : Int} (hb : 2 ≤ b ∧ b ≤ 60) (n : Nat) : ∀ m : List Int, (∀ x ∈ m, okd b x) → ∀ v ∈ lvs b n m, ∀ x ∈ v, okd b x := by
  induction n with
  | zero =>
    intro m h v hv
    unfold lvs at hv
    rw [List.mem_singleton] at hv
    subst hv
    exact h
  | succ n ih =>
    intro m h v hv
    unfold lvs at hv
    by_cases h1 : m.length = 1
    · rw [if_pos h1, List.mem_singleton] at hv
      subst hv
      exact h
    · rw [if_neg h1] at hv
      rcases List.mem_cons.1 hv with rfl | hv
      · exact h
      · exact ih (abv b m) (abv_okd hb m h) v hv
/-- A leaf's path leads to the root. -/
theorem rootFrom_path {b : Int} {l : List (List Int)} (h : lok b l) {i : Nat} (hi : i < l.length) : rootFrom b (l.length : Int) (i : Int) (l.getD i []) (pth i (lvs b 15 (leafs b l))) = treeRoot b l := by
  have hl := leafs_length b l
  have ho := leafs_okd h.1.1 h.2
  obtain ⟨ls, e⟩ := ups_pth h.1.1 15 (leafs b l) i [] (by have := h.1.2; omega) (by have := h.1.2; omega) (by omega) ho
  have eg : (leafs b l).getD i 0 = Dig.digest b (0 :: l.getD i []) := by
    unfold leafs
    rw [List.getD_eq_getElem?_getD, List.getElem?_map, List.getD_eq_getElem?_getD, List.getElem?_eq_getElem hi]
    rfl
  rw [hl, eg, List.append_nil] at e
  unfold rootFrom treeRoot topOfL
  rw [if_pos h, if_pos ⟨⟨by have := h.1.2; omega, by have := h.1.2; omega⟩, ⟨by omega, by omega⟩, h.1.1, h.2 _ (getD_mem hi), pth_okd _ (lvs_okd h.1.1 15 _ ho) i⟩, Int.toNat_natCast, Int.toNat_natCast]
  have e' : ups b 16 l.length i (Dig.digest b (0 :: l.getD i [])) (pth i (lvs b 15 (leafs b l))) = some (ls, [], apex b 15 (leafs b l)) := e
  generalize apex b 15 (leafs b l) = y at e' ⊢
  generalize pth i (lvs b 15 (leafs b l)) = p at e' ⊢
  generalize Dig.digest b (0 :: l.getD i []) = x at e' ⊢
  simp only [e', if_true]
/-- The two texts collide. -/
def coll (b : Int) (p q : List Int) : Bool := decide (0 ≤ Dig.digest b p) && (decide (Dig.digest b p = Dig.digest b q) && !((strOfNums p).toList == (strOfNums q).toList))
theorem impl_coll (b : Int) (p q : List Int) : impl_Collides.f b p q = some (coll b p q) := by
  unfold impl_Collides.f coll bytes_Equal.f
  rw [impl_digest, Option.bind_some]
  generalize Dig.digest b p = x
  by_cases h : x ≥ 0
  · rw [if_pos h, Option.bind_some]
    by_cases hs : ((strOfNums p).toList == (strOfNums q).toList) = true
    · rw [if_pos hs, hs]
      simp
    · rw [if_neg hs, impl_digest, Option.bind_some]
      generalize Dig.digest b q = y
      simp only [Bool.not_eq_true] at hs
      rw [hs]
      simp [h]
      try rfl
  · rw [if_neg h]
    simp [h]
    try omega
theorem be_inj (n : Nat) : ∀ x y : Nat, x < 256 ^ n → y < 256 ^ n → be n x = be n y → x = y := by
  induction n with
  | zero => intro x y hx hy _; simp at hx hy; omega
  | succ n ih =>
    intro x y hx hy h
    simp only [be] at h
    obtain ⟨h1, h2⟩ := List.append_inj' h rfl
    have h3 := ih (x / 256) (y / 256) (by rw [Nat.pow_succ] at hx; omega) (by rw [Nat.pow_succ] at hy; omega) h1
    have h4 : ((x % 256 : Nat) : Int) = ((y % 256 : Nat) : Int) := by injection h2
    omega
theorem eightOf_inj {x y : Int} (hx : 0 ≤ x ∧ x < 1152921504606846976) (hy : 0 ≤ y ∧ y < 1152921504606846976) (h : eightOf x = eightOf y) : x = y := by
  unfold eightOf at h
  rw [if_neg (by omega), if_neg (by omega)] at h
  have := be_inj 8 x.toNat y.toNat (by omega) (by omega) h
  omega
theorem okd_lt {b x : Int} (h : okd b x) : 0 ≤ x ∧ x < 1152921504606846976 := by
  obtain ⟨⟨h1, h2⟩, h3, h4⟩ := h
  have : (2 : Int) ^ b.toNat ≤ 2 ^ 60 := by
    exact_mod_cast Nat.pow_le_pow_right (by decide) (by omega : b.toNat ≤ 60)
  omega
theorem nodeIn_inj {b x y x' y' : Int} (hx : okd b x) (hy : okd b y) (hx' : okd b x') (hy' : okd b y') (h : nodeIn x y = nodeIn x' y') : x = x' ∧ y = y' := by
  unfold nodeIn at h
  injection h with _ h
  have hl : (eightOf x).length = (eightOf x').length := by
    unfold eightOf
    rw [if_neg (by have := hx.2.1; omega), if_neg (by have := hx'.2.1; omega), be_length, be_length]
  obtain ⟨h1, h2⟩ := List.append_inj h hl
  exact ⟨eightOf_inj (okd_lt hx) (okd_lt hx') h1, eightOf_inj (okd_lt hy) (okd_lt hy') h2⟩
theorem stepIn_inj {b x q x' q' : Int} {a : Nat} (hx : okd b x) (hq : okd b q) (hx' : okd b x') (hq' : okd b q') (h : stepIn a q x = stepIn a q' x') : x = x' ∧ q = q' := by
  unfold stepIn at h
  split at h
  · exact (nodeIn_inj hq hx hq' hx' h).symm
  · exact nodeIn_inj hx hq hx' hq' h
theorem lastU_cons (x y : List Int) (p q : List (List Int)) : ∀ n, lastU (x :: p) (y :: q) (n + 1) = if (lastU p q n).2.2 = true then lastU p q n else if same x y = true then ([], [], false) else (x, y, true) := by
  intro n
  induction n with
  | zero => rfl
  | succ n ih =>
    show (if same (p.getD n []) (q.getD n []) = true then lastU (x :: p) (y :: q) (n + 1) else (p.getD n [], q.getD n [], true)) = _
    show _ = if (if same (p.getD n []) (q.getD n []) = true then lastU p q n else (p.getD n [], q.getD n [], true)).2.2 = true then (if same (p.getD n []) (q.getD n []) = true then lastU p q n else (p.getD n [], q.getD n [], true)) else _
    by_cases h : same (p.getD n []) (q.getD n []) = true
    · rw [if_pos h, if_pos h, ih]
    · rw [if_neg h, if_neg h, if_pos rfl]
theorem be_bytes (n : Nat) : ∀ x : Nat, ∀ z ∈ be n x, 0 ≤ z ∧ z < 256 := by
  induction n with
  | zero => intro x z hz; cases hz
  | succ n ih =>
    intro x z hz
    simp only [be] at hz
    rcases List.mem_append.1 hz with hz | hz
    · exact ih _ z hz
    · rw [List.mem_singleton.1 hz]; omega
theorem eightOf_bytes (x : Int) : ∀ z ∈ eightOf x, 0 ≤ z ∧ z < 256 := by
  unfold eightOf
  split
  · intro z hz; cases hz
  · exact be_bytes 8 _
theorem nodeIn_bytes (x y : Int) : ∀ z ∈ nodeIn x y, 0 ≤ z ∧ z < 256 := by
  intro z hz
  rcases List.mem_cons.1 hz with rfl | hz
  · decide
  · rcases List.mem_append.1 hz with hz | hz <;> exact eightOf_bytes _ z hz
theorem stepIn_bytes (a : Nat) (q x : Int) : ∀ z ∈ stepIn a q x, 0 ≤ z ∧ z < 256 := by
  unfold stepIn
  split <;> exact nodeIn_bytes _ _
/-- Two ways up with one end are one way, or the last unlike rows of them have one digest. -/
theorem ups_told {b : Int} (hb : 2 ≤ b ∧ b ≤ 60) (n : Nat) : ∀ (size a : Nat) (x x' : Int) (p p' : List Int) (l l' : List (List Int)) (r r' : List Int) (y : Int), ups b n size a x p = some (l, r, y) → ups b n size a x' p' = some (l', r', y) → okd b x → okd b x' → (∀ q ∈ p, okd b q) → (∀ q ∈ p', okd b q) →
    l.length = l'.length ∧ ((x = x' ∧ l = l' ∧ (r = r' → p = p')) ∨ ((lastU l l' l.length).2.2 = true ∧ same (lastU l l' l.length).1 (lastU l l' l.length).2.1 = false ∧ Dig.digest b (lastU l l' l.length).1 = Dig.digest b (lastU l l' l.length).2.1)) := by
  induction n with
  | zero =>
    intro size a x x' p p' l l' r r' y h h' _ _ _ _
    simp only [ups] at h h'
    injection h with h; injection h' with h'
    simp only [Prod.mk.injEq] at h h'
    obtain ⟨rfl, rfl, rfl⟩ := h
    obtain ⟨rfl, rfl, rfl⟩ := h'
    exact ⟨rfl, .inl ⟨rfl, rfl, fun h => h⟩⟩
  | succ n ih =>
    intro size a x x' p p' l l' r r' y h h' hx hx' hp hp'
    simp only [ups] at h h'
    by_cases h1 : 1 < size
    · rw [if_pos h1] at h h'
      by_cases h2 : beside a < size
      · rw [if_pos h2] at h h'
        cases p with
        | nil => cases h
        | cons q p =>
        cases p' with
        | nil => cases h'
        | cons q' p' =>
        simp only [Option.map_eq_some_iff] at h h'
        obtain ⟨⟨m, s⟩, h3, h4⟩ := h
        obtain ⟨⟨m', s'⟩, h3', h4'⟩ := h'
        simp only [Prod.mk.injEq] at h4 h4'
        obtain ⟨rfl, rfl⟩ := h4
        obtain ⟨rfl, rfl⟩ := h4'
        have hq := hp q (List.mem_cons_self ..)
        have hq' := hp' q' (List.mem_cons_self ..)
        have ho : ∀ q x, okd b (Dig.digest b (stepIn a q x)) := fun q x => by unfold stepIn; split <;> exact node_okd hb _ _
        obtain ⟨hlen, hor⟩ := ih _ _ _ _ _ _ _ _ _ _ _ h3 h3' (ho q x) (ho q' x') (fun z hz => hp z (List.mem_cons_of_mem _ hz)) (fun z hz => hp' z (List.mem_cons_of_mem _ hz))
        refine ⟨by rw [List.length_cons, List.length_cons, hlen], ?_⟩
        rw [List.length_cons, lastU_cons]
        rcases hor with ⟨hd, rfl, hr⟩ | ⟨ht, hs, hd⟩
        · rw [lastU_self]
          by_cases hs : same (stepIn a q x) (stepIn a q' x') = true
          · have he := same_imp _ _ (stepIn_bytes _ _ _) (stepIn_bytes _ _ _) hs
            obtain ⟨rfl, rfl⟩ := stepIn_inj hx hq hx' hq' he
            exact .inl ⟨rfl, rfl, fun h => by rw [hr h]⟩
          · rw [if_neg (by decide), if_neg hs]
            exact .inr ⟨rfl, by simpa using hs, hd⟩
        · rw [if_pos ht]
          exact .inr ⟨ht, hs, hd⟩
      · rw [if_neg h2] at h h'
        exact ih _ _ _ _ _ _ _ _ _ _ _ h h' hx hx' hp hp'
    · rw [if_neg h1] at h h'
      injection h with h; injection h' with h'
      simp only [Prod.mk.injEq] at h h'
      obtain ⟨rfl, rfl, rfl⟩ := h
      obtain ⟨rfl, rfl, rfl⟩ := h'
      exact ⟨rfl, .inl ⟨rfl, rfl, fun h => h⟩⟩
theorem coll_of {b : Int} {p q : List Int} (h0 : 0 ≤ Dig.digest b p) (h : Dig.digest b p = Dig.digest b q) (hs : same p q = false) : coll b p q = true := by
  unfold coll
  rw [decide_eq_true h0, decide_eq_true h]
  show (true && (true && !(same p q))) = true
  rw [hs]
  rfl
theorem same_cons (a : Int) (p q : List Int) : same (a :: p) (a :: q) = same p q := by
  unfold same
  rw [strs_map, strs_map, strs_map, strs_map, List.map_cons, List.map_cons]
  rw [Bool.eq_iff_iff]
  simp
theorem topIn_bytes {many : Nat} (hm : many ≤ 16) (x : Int) : ∀ z ∈ topIn many x, 0 ≤ z ∧ z < 256 := by
  intro z hz
  rcases List.mem_cons.1 hz with rfl | hz
  · decide
  · rcases List.mem_cons.1 hz with rfl | hz
    · omega
    · exact eightOf_bytes _ z hz
theorem topIn_inj {b : Int} {m m' : Nat} {x x' : Int} (hx : okd b x) (hx' : okd b x') (h : topIn m x = topIn m' x') : m = m' ∧ x = x' := by
  unfold topIn at h
  injection h with _ h
  injection h with h1 h2
  exact ⟨by omega, eightOf_inj (okd_lt hx) (okd_lt hx') h2⟩
theorem lastU_append (p q r s : List (List Int)) (h : q.length = p.length) : ∀ n, n ≤ p.length → lastU (p ++ r) (q ++ s) n = lastU p q n := by
  intro n
  induction n with
  | zero => intro _; rfl
  | succ n ih =>
    intro hn
    have e1 : (p ++ r).getD n [] = p.getD n [] := by rw [List.getD_eq_getElem?_getD, List.getElem?_append_left (by omega), List.getD_eq_getElem?_getD]
    have e2 : (q ++ s).getD n [] = q.getD n [] := by rw [List.getD_eq_getElem?_getD, List.getElem?_append_left (by omega), List.getD_eq_getElem?_getD]
    unfold lastU
    rw [e1, e2, ih (by omega)]
theorem lastU_snoc (p q : List (List Int)) (u v : List Int) (h : q.length = p.length) : lastU (p ++ [u]) (q ++ [v]) (p.length + 1) = if same u v = true then lastU p q p.length else (u, v, true) := by
  have e1 : (p ++ [u]).getD p.length [] = u := by rw [List.getD_eq_getElem?_getD, List.getElem?_append_right (Nat.le_refl _), Nat.sub_self]; rfl
  have e2 : (q ++ [v]).getD p.length [] = v := by rw [← h, List.getD_eq_getElem?_getD, List.getElem?_append_right (Nat.le_refl _), Nat.sub_self]; rfl
  have e3 := lastU_append p q [u] [v] h p.length (Nat.le_refl _)
  generalize p ++ [u] = p' at e1 e3 ⊢
  generalize q ++ [v] = q' at e2 e3 ⊢
  generalize p.length = n at e1 e2 e3 ⊢
  unfold lastU
  rw [e1, e2, e3]
  cases n <;> rfl
theorem ups_end {b : Int} (hb : 2 ≤ b ∧ b ≤ 60) (n : Nat) : ∀ (size a : Nat) (x : Int) (p : List Int) {r}, ups b n size a x p = some r → okd b x → okd b r.2.2 := by
  induction n with
  | zero => intro size a x p r h hx; unfold ups at h; cases h; exact hx
  | succ n ih =>
    intro size a x p r h hx
    by_cases h1 : 1 < size
    · by_cases h2 : beside a < size
      · cases p with
        | nil => rw [ups_nil b n size a x h1 h2] at h; cases h
        | cons q p =>
          rw [ups_step b n size a x q p h1 h2] at h
          obtain ⟨r', h3, rfl⟩ := Option.map_eq_some_iff.1 h
          have := ih _ _ _ _ h3 (step_okd hb a q x)
          exact this
      · rw [ups_skip b n size a x p h1 h2] at h
        exact ih _ _ _ _ h hx
    · rw [ups_le b n size a x p (by omega)] at h
      cases h
      exact hx
theorem climbed_some {b many at_ : Int} {x p : List Int} (h : (climbed b many at_ x p).2 = true) : ∃ l y, upOk b many at_ x p ∧ ups b 16 many.toNat at_.toNat (Dig.digest b (0 :: x)) p = some (l, [], y) ∧ climbed b many at_ x p = ((0 :: x) :: (l ++ [topIn many.toNat y]), true) ∧ rootFrom b many at_ x p = Dig.digest b (topIn many.toNat y) := by
  unfold climbed rootFrom at *
  by_cases hu : upOk b many at_ x p
  · rw [if_pos hu] at h ⊢
    rw [if_pos hu]
    generalize ups b 16 many.toNat at_.toNat (Dig.digest b (0 :: x)) p = w at h ⊢
    cases w with
    | none => simp at h
    | some w =>
      obtain ⟨l, r, y⟩ := w
      have hr : r = [] := of_decide_eq_true h
      refine ⟨l, y, hu, by rw [hr], ?_, ?_⟩
      · show ((0 :: x) :: (l ++ [topIn many.toNat y]), decide (r = [])) = _
        rw [decide_eq_true hr]
      · show (if r = [] then Dig.digest b (topIn many.toNat y) else -1) = _
        rw [if_pos hr]
  · rw [if_neg hu] at h
    simp at h
/-- Two ways up from one place with one end: one leaf and one path, or two texts with one digest are told. -/
theorem climb_told {b many at_ : Int} {x p y q : List Int} (h : (climbed b many at_ x p).2 = true) (h' : (climbed b many at_ y q).2 = true) (he : rootFrom b many at_ x p = rootFrom b many at_ y q) :
    ((lastU (climbed b many at_ x p).1 (climbed b many at_ y q).1 (climbed b many at_ x p).1.length).2.2 = true ∧ coll b (lastU (climbed b many at_ x p).1 (climbed b many at_ y q).1 (climbed b many at_ x p).1.length).1 (lastU (climbed b many at_ x p).1 (climbed b many at_ y q).1 (climbed b many at_ x p).1.length).2.1 = true)
    ∨ ((lastU (climbed b many at_ x p).1 (climbed b many at_ y q).1 (climbed b many at_ x p).1.length).2.2 = false ∧ same x y = true ∧ p = q) := by
  obtain ⟨l, z, hu, e1, e2, e3⟩ := climbed_some h
  obtain ⟨l', z', hu', e1', e2', e3'⟩ := climbed_some h'
  rw [e3, e3'] at he
  rw [e2, e2']
  have hb := hu.2.2.1
  have hx := upOk_okd hu
  have hx' := upOk_okd hu'
  have hz : okd b z := ups_end hb 16 _ _ _ _ e1 hx
  have hz' : okd b z' := ups_end hb 16 _ _ _ _ e1' hx'
  have hlen : l.length = l'.length := ups_same_len 16 _ _ _ _ _ _ e1 e1'
  have hm : many.toNat ≤ 16 := by have := hu.1; omega
  have ht0 : 0 ≤ Dig.digest b (topIn many.toNat z) := (Dig.digest_range hb.1 hb.2 (by have := topIn_le many.toNat z; omega)).1
  have e0 : (0 :: x) :: (l ++ [topIn many.toNat z]) = ((0 :: x) :: l) ++ [topIn many.toNat z] := rfl
  have e0' : (0 :: y) :: (l' ++ [topIn many.toNat z']) = ((0 :: y) :: l') ++ [topIn many.toNat z'] := rfl
  simp only []
  rw [e0, e0', List.length_append, List.length_singleton, lastU_snoc _ _ _ _ (by simp only [List.length_cons]; omega)]
  by_cases hs : same (topIn many.toNat z) (topIn many.toNat z') = true
  · rw [if_pos hs]
    obtain ⟨_, ez⟩ := topIn_inj hz hz' (same_imp _ _ (topIn_bytes hm z) (topIn_bytes hm z') hs)
    subst ez
    obtain ⟨_, hor⟩ := ups_told hb 16 _ _ _ _ _ _ _ _ _ _ _ e1 e1' hx hx' hu.2.2.2.2 hu'.2.2.2.2
    rw [List.length_cons, lastU_cons]
    rcases hor with ⟨hd, rfl, hp⟩ | ⟨ht, hs2, hd⟩
    · rw [lastU_self, if_neg (by decide), same_cons]
      by_cases hs3 : same x y = true
      · rw [if_pos hs3]
        exact .inr ⟨rfl, hs3, hp rfl⟩
      · rw [if_neg hs3]
        exact .inl ⟨rfl, coll_of hx.2.1 hd (by rw [same_cons]; simpa using hs3)⟩
    · rw [if_pos ht]
      refine .inl ⟨ht, coll_of ?_ hd hs2⟩
      have hr : ∀ (n : Nat), (lastU l l' n).1 = [] ∨ (lastU l l' n).1 ∈ l := by
        intro n
        induction n with
        | zero => exact .inl rfl
        | succ n ih =>
          unfold lastU
          by_cases h1 : same (l.getD n []) (l'.getD n []) = true
          · rw [if_pos h1]; exact ih
          · rw [if_neg h1]
            show l.getD n [] = [] ∨ l.getD n [] ∈ l
            by_cases h2 : n < l.length
            · rw [List.getD_eq_getElem?_getD, List.getElem?_eq_getElem h2]
              exact .inr (List.getElem_mem h2)
            · rw [List.getD_eq_getElem?_getD, List.getElem?_eq_none (by omega)]
              exact .inl rfl
      have hle : (lastU l l' l.length).1.length ≤ 4000 := by
        rcases hr l.length with h1 | h1
        · rw [h1]; exact Nat.zero_le _
        · have := ups_rows 16 _ _ _ _ e1 _ h1
          omega
      exact (Dig.digest_range hb.1 hb.2 hle).1
  · rw [if_neg hs]
    exact .inl ⟨rfl, coll_of ht0 he (by simpa using hs)⟩
theorem fromPaths_told (b many at_ : Int) (x p y q : List Int) :
    ((fromPaths b many at_ x p y q).2.2 = true → coll b (fromPaths b many at_ x p y q).1 (fromPaths b many at_ x p y q).2.1 = true ∧ rootFrom b many at_ x p = rootFrom b many at_ y q ∧ 0 ≤ rootFrom b many at_ x p)
    ∧ ((fromPaths b many at_ x p y q).2.2 = false → 0 ≤ rootFrom b many at_ x p → rootFrom b many at_ x p = rootFrom b many at_ y q → same x y = true ∧ p = q) := by
  unfold fromPaths
  by_cases h : (climbed b many at_ x p).2 = true ∧ (climbed b many at_ y q).2 = true ∧ rootFrom b many at_ x p = rootFrom b many at_ y q
  · rw [if_pos h]
    have hr : 0 ≤ rootFrom b many at_ x p := by
      rcases (climbed_facts b many at_ x p).2 with g | g
      · exact g.2
      · rw [g.1] at h; exact absurd h.1 (by decide)
    rcases climb_told h.1 h.2.1 h.2.2 with ⟨h1, h2⟩ | ⟨h1, h2⟩
    · exact ⟨fun _ => ⟨h2, h.2.2, hr⟩, (fun h3 => absurd (h1.symm.trans h3) (by decide))⟩
    · exact ⟨(fun h3 => absurd (h1.symm.trans h3) (by decide)), fun _ _ _ => h2⟩
  · rw [if_neg h]
    refine ⟨(fun h3 => absurd h3 (by decide)), fun _ h0 he => absurd ⟨climbed_yes h0, climbed_yes (by rw [← he]; exact h0), he⟩ h⟩
theorem top_told {b : Int} {x : List (List Int)} (hx : lok b x) {m : Nat} (hm : m ≤ 16) (z : Int) (hz : okd b z) (hne : m ≠ x.length) (he : treeRoot b x = Dig.digest b (topIn m z)) : coll b (topOfL b x) (topIn m z) = true := by
  have hr := treeRoot_ok b x
  have e : treeRoot b x = Dig.digest b (topOfL b x) := by unfold treeRoot; rw [if_pos hx]
  refine coll_of (by rw [← e]; exact hr.2 hx) (by rw [← e]; exact he) ?_
  cases hs : same (topOfL b x) (topIn m z) with
  | false => rfl
  | true =>
    unfold topOfL at hs
    exact absurd (topIn_inj (lok_apex hx) hz (same_imp _ _ (topIn_bytes hx.1.2.2 _) (topIn_bytes hm _) hs)).1.symm hne
theorem unl_some : ∀ (x y : List (List Int)) (i j : Nat), unl x y i = some j → ∃ k, j = i + k ∧ k < x.length ∧ k < y.length ∧ same (x.getD k []) (y.getD k []) = false
  | u :: x, v :: y, i, j, h => by
    unfold unl at h
    by_cases hs : same u v = true
    · rw [if_pos hs] at h
      obtain ⟨k, rfl, h1, h2, h3⟩ := unl_some x y (i + 1) j h
      exact ⟨k + 1, by omega, by simp only [List.length_cons]; omega, by simp only [List.length_cons]; omega, h3⟩
    · rw [if_neg hs] at h
      cases h
      exact ⟨0, rfl, Nat.succ_pos _, Nat.succ_pos _, by simpa using hs⟩
  | [], _, _, _, h => by unfold unl at h; cases h
  | _ :: _, [], _, _, h => by unfold unl at h; cases h
/-- Two lists of leaves with one root: the same, or two texts with one digest are told. -/
theorem fromLeaves_told (b : Int) (x y : List (List Int)) :
    (fromLeaves b x y).2.2 = decide (0 ≤ treeRoot b x ∧ treeRoot b x = treeRoot b y ∧ ¬ (x.length = y.length ∧ alikeL x y = true)) ∧ ((fromLeaves b x y).2.2 = true → coll b (fromLeaves b x y).1 (fromLeaves b x y).2.1 = true) := by
  unfold fromLeaves
  by_cases h : 0 ≤ treeRoot b x ∧ treeRoot b x = treeRoot b y
  · rw [if_pos h]
    have hx := (treeRoot_ok b x).1 h.1
    have hy := (treeRoot_ok b y).1 (by rw [← h.2]; exact h.1)
    by_cases hl : x.length = y.length
    · rw [if_pos hl, unl_alike x y 0]
      cases hu : unl x y 0 with
      | none =>
        refine ⟨(decide_eq_false (fun hc => hc.2.2 ⟨hl, rfl⟩)).symm, (fun hc => by cases hc)⟩
      | some i =>
        obtain ⟨k, ek, h1, h2, h3⟩ := unl_some x y 0 i hu
        rw [Nat.zero_add] at ek
        subst ek
        have r1 := rootFrom_path hx h1
        have r2 := rootFrom_path hy h2
        have ht := fromPaths_told b (x.length : Int) (i : Int) (x.getD i []) (pth i (lvs b 15 (leafs b x))) (y.getD i []) (pth i (lvs b 15 (leafs b y)))
        rw [← hl] at r2
        rw [r1, r2] at ht
        have hyes : (fromAt b x y i).2.2 = true := by
          cases hf : (fromAt b x y i).2.2 with
          | true => rfl
          | false =>
            have := (ht.2 hf h.1 h.2).1
            rw [h3] at this
            cases this
        refine ⟨?_, fun _ => (ht.1 hyes).1⟩
        show (fromAt b x y i).2.2 = _
        rw [hyes]
        exact (decide_eq_true ⟨h.1, h.2, (fun hc => by cases hc.2)⟩).symm
    · rw [if_neg hl]
      refine ⟨(decide_eq_true ⟨h.1, h.2, fun hc => hl hc.1⟩).symm, fun _ => ?_⟩
      have e : treeRoot b y = Dig.digest b (topIn y.length (apex b 15 (leafs b y))) := by
        unfold treeRoot
        rw [if_pos hy]
        rfl
      exact top_told hx hy.1.2.2 _ (lok_apex hy) (fun hc => hl hc.symm) (by rw [h.2, e])
  · rw [if_neg h]
    exact ⟨(decide_eq_false (fun hc => h ⟨hc.1, hc.2.1⟩)).symm, (fun hc => by cases hc)⟩
theorem and_bits_lt (x : Int) (j : Nat) (hj : j ≤ 62) (y : Int) (hy : y = ((2 ^ j - 1 : Nat) : Int)) : 0 ≤ Go.bits .and .i64 x y ∧ Go.bits .and .i64 x y < 2 ^ j := by
  subst hy
  have hp : 0 < 2 ^ j := Nat.two_pow_pos j
  have hle : (BitVec.ofInt 64 x &&& BitVec.ofInt 64 ((2 ^ j - 1 : Nat) : Int)).toNat ≤ 2 ^ j - 1 := by
    rw [BitVec.toNat_and, BitVec.ofInt_natCast, BitVec.toNat_ofNat]
    exact Nat.le_trans Nat.and_le_right (Nat.mod_le _ _)
  have h62 : 2 ^ j ≤ 2 ^ 62 := Nat.pow_le_pow_right (by decide) hj
  have e62 : (2 : Nat) ^ 62 = 4611686018427387904 := by decide
  have ec : (2 : Int) ^ j = ((2 ^ j : Nat) : Int) := by simp
  have h0 : (0 : Int) ≤ (((BitVec.ofInt 64 x &&& BitVec.ofInt 64 ((2 ^ j - 1 : Nat) : Int)).toNat : Nat) : Int) := Int.natCast_nonneg _
  have h1 : (((BitVec.ofInt 64 x &&& BitVec.ofInt 64 ((2 ^ j - 1 : Nat) : Int)).toNat : Nat) : Int) < 2 ^ 63 := by
    have : (2 : Int) ^ 63 = 9223372036854775808 := by decide
    omega
  have e : Go.bits .and .i64 x ((2 ^ j - 1 : Nat) : Int) = (((BitVec.ofInt 64 x &&& BitVec.ofInt 64 ((2 ^ j - 1 : Nat) : Int)).toNat : Nat) : Int) := wraps_i64 _ h0 h1
  rw [e, ec]
  omega
theorem and255 (x : Int) : 0 ≤ Go.bits .and .i64 x 255 ∧ Go.bits .and .i64 x 255 < 256 := by
  have := and_bits_lt x 8 (by decide) 255 (by decide)
  simpa using this
/-- Where a cursor stands: inside its bytes. -/
def Cur (b : List Int) (i : Int) : Prop := 0 ≤ i ∧ i ≤ b.length ∧ b.length ≤ 1048576
theorem d_new (l : List Int) (hl : l.length ≤ 1048576) : ∃ h, Ev (fun k => spec_l1New.f k l) (l, 0, h) := by
  have key : ∀ (n i : Nat) (h : Int), i + n = l.length → ∃ h', Ev (fun k => spec_l1New.l0 k l h (i : Int)) (l, 0, h') := by
    intro n
    induction n with
    | zero =>
      intro i h hi
      exact ⟨h, Ev.step (fun k => spec_l1New.l0.eq_2 ..) (ev_neg (by omega) (ev_ret rfl))⟩
    | succ n ih =>
      intro i h hi
      by_cases h4 : (i : Int) < 4000
      · obtain ⟨h', e⟩ := ih (i + 1) _ (by omega)
        refine ⟨h', Ev.step (fun k => spec_l1New.l0.eq_2 ..) (ev_pos (by omega) (ev_pos h4 (ev_pos (by omega) ?_)))⟩
        rw [wr_succ (by omega)]
        exact e
      · exact ⟨h, Ev.step (fun k => spec_l1New.l0.eq_2 ..) (ev_pos (by omega) (ev_neg h4 (ev_ret rfl)))⟩
  obtain ⟨h, e⟩ := key l.length 0 (wrap64 (88088 + (l.length : Int))) (Nat.zero_add _)
  exact ⟨h, e⟩
theorem d_cur {l : List Int} (hl : l.length ≤ 1048576) : Cur l 0 := ⟨Int.le_refl _, by omega, hl⟩
theorem d_byte {b : List Int} {i : Int} (h : Int) (hc : Cur b i) : ∃ v i' h', spec_l1Byte.f b i h = some (v, i', h') ∧ 0 ≤ v ∧ v < 256 ∧ Cur b i' := by
  obtain ⟨h0, h1, h2⟩ := hc
  unfold spec_l1Byte.f
  by_cases hi : i < (b.length : Int)
  · rw [if_pos hi, if_pos h0]
    exact ⟨_, _, _, rfl, (and255 _).1, (and255 _).2, by rw [wr (by omega) (by omega)]; omega, by rw [wr (by omega) (by omega)]; omega, h2⟩
  · rw [if_neg hi]
    exact ⟨_, _, _, rfl, (and255 _).1, (and255 _).2, h0, h1, h2⟩
theorem d_below {b : List Int} {i : Int} (h : Int) (hc : Cur b i) (n : Int) (hn : n ≤ 1000000) : ∃ v i' h', spec_l1Below.f b i h n = some (v, i', h') ∧ 0 ≤ v ∧ (v < n ∨ v = 0) ∧ Cur b i' := by
  unfold spec_l1Below.f
  by_cases h0 : n ≤ 0
  · rw [if_pos h0]
    exact ⟨_, _, _, rfl, Int.le_refl _, .inr rfl, hc⟩
  rw [if_neg h0]
  obtain ⟨v, i1, h1, e1, v0, v1, c1⟩ := d_byte h hc
  by_cases h256 : n ≤ 256
  · rw [if_pos h256, e1, Option.bind_some, if_neg (by omega)]
    refine ⟨_, _, _, rfl, ?_, .inl ?_, c1⟩
    · rw [Int.tmod_eq_emod_of_nonneg v0]; exact Int.emod_nonneg _ (by omega)
    · rw [Int.tmod_eq_emod_of_nonneg v0]; exact Int.emod_lt_of_pos _ (by omega)
  · rw [if_neg h256, e1, Option.bind_some]
    obtain ⟨x, i2, h2, e2, x0, x1, c2⟩ := d_byte h1 c1
    rw [e2, Option.bind_some]
    obtain ⟨y, i3, h3, e3, y0, y1, c3⟩ := d_byte h2 c2
    rw [e3, Option.bind_some]
    obtain ⟨z, i4, h4, e4, z0, z1, c4⟩ := d_byte h3 c3
    rw [e4, Option.bind_some, if_neg (by omega)]
    have ew : wrap64 ((wrap64 ((wrap64 ((wrap64 (v * 16777216)) + (wrap64 (x * 65536)))) + (wrap64 (y * 256)))) + z) = v * 16777216 + x * 65536 + y * 256 + z := by
      rw [wr (n := v * 16777216) (by omega) (by omega), wr (n := x * 65536) (by omega) (by omega), wr (n := v * 16777216 + x * 65536) (by omega) (by omega), wr (n := y * 256) (by omega) (by omega), wr (n := v * 16777216 + x * 65536 + y * 256) (by omega) (by omega), wr (by omega) (by omega)]
    refine ⟨_, _, _, rfl, ?_, .inl ?_, c4⟩
    · show 0 ≤ Int.tmod (wrap64 ((wrap64 ((wrap64 ((wrap64 (v * 16777216)) + (wrap64 (x * 65536)))) + (wrap64 (y * 256)))) + z)) n
      rw [ew, Int.tmod_eq_emod_of_nonneg (by omega)]
      exact Int.emod_nonneg _ (by omega)
    · show Int.tmod (wrap64 ((wrap64 ((wrap64 ((wrap64 (v * 16777216)) + (wrap64 (x * 65536)))) + (wrap64 (y * 256)))) + z)) n < n
      rw [ew, Int.tmod_eq_emod_of_nonneg (by omega)]
      exact Int.emod_lt_of_pos _ (by omega)
theorem d_data {b : List Int} {i : Int} (h : Int) (hc : Cur b i) (n : Nat) (hn : n ≤ 1000) : ∃ l i' h', Ev (fun k => spec_l1DrawData.f k b i h (n : Int)) (l, i', h') ∧ l.length ≤ n ∧ (∀ x ∈ l, 0 ≤ x ∧ x < 256) ∧ Cur b i' := by
  have key : ∀ (m : Nat) (o : List Int) (i h : Int), o.length + m ≤ 1000 → Cur b i → (∀ x ∈ o, 0 ≤ x ∧ x < 256) → ∃ l i' h', Ev (fun k => spec_l1DrawData.l0 k o (m : Int) b i h) (l, i', h') ∧ l.length = o.length + m ∧ (∀ x ∈ l, 0 ≤ x ∧ x < 256) ∧ Cur b i' := by
    intro m
    induction m with
    | zero =>
      intro o i h ho hc hb
      exact ⟨o, i, h, Ev.step (fun k => spec_l1DrawData.l0.eq_2 ..) (ev_neg (by omega) (ev_ret rfl)), rfl, hb, hc⟩
    | succ m ih =>
      intro o i h ho hc hb
      obtain ⟨v, i1, h1, e1, v0, v1, c1⟩ := d_byte h hc
      have ev : v % 256 = v := by omega
      obtain ⟨l, i2, h2, e2, hl, hx, c2⟩ := ih (o ++ [v]) i1 h1 (by simp only [List.length_append, List.length_singleton]; omega) c1 (by
        intro x hx
        rcases List.mem_append.1 hx with hx | hx
        · exact hb x hx
        · rw [List.mem_singleton.1 hx]; exact ⟨v0, v1⟩)
      refine ⟨l, i2, h2, Ev.step (fun k => spec_l1DrawData.l0.eq_2 ..) (ev_pos (by omega) (ev_pure e1 (ev_pos (by omega) ?_))), by rw [hl, List.length_append, List.length_singleton]; omega, hx, c2⟩
      have ew : wrap64 (((m + 1 : Nat) : Int) - 1) = (m : Int) := by rw [wr (by omega) (by omega)]; omega
      rw [ew]
      show Ev (fun k => spec_l1DrawData.l0 k (o ++ [v % 256]) (m : Int) b i1 h1) _
      rw [ev]
      exact e2
  obtain ⟨v, i1, h1, e1, v0, v1, c1⟩ := d_below h hc (n : Int) (by omega)
  obtain ⟨m, rfl⟩ := Int.eq_ofNat_of_zero_le v0
  obtain ⟨l, i2, h2, e2, hl, hx, c2⟩ := key m [] i1 h1 (by simp; omega) c1 (by simp)
  refine ⟨l, i2, h2, ?_, by rw [hl]; simp; omega, hx, c2⟩
  unfold spec_l1DrawData.f
  exact ev_pure e1 e2
theorem d_pick {b : List Int} {i : Int} (h : Int) (hc : Cur b i) (l : List Int) (h0 : 0 < l.length) (h1 : l.length ≤ 100) : ∃ v i' h', spec_l1PickInt.f b i h l = some (v, i', h') ∧ v ∈ l ∧ Cur b i' := by
  obtain ⟨v, i', h', e, v0, v1, c⟩ := d_below h hc (l.length : Int) (by omega)
  unfold spec_l1PickInt.f
  rw [e, Option.bind_some]
  have hv : v < (l.length : Int) := by omega
  rw [if_pos v0, if_pos hv]
  refine ⟨_, _, _, rfl, ?_, c⟩
  show rd l v ∈ l
  unfold rd
  rw [List.getD_eq_getElem?_getD, List.getElem?_eq_getElem (by omega)]
  exact List.getElem_mem _
theorem d_once {b : List Int} {i : Int} (h : Int) (hc : Cur b i) (n : Int) (hn : n ≤ 1000000) : ∃ v i' h', spec_l1Once.f b i h n = some (v, i', h') ∧ Cur b i' := by
  obtain ⟨v, i', h', e, _, _, c⟩ := d_below h hc n hn
  unfold spec_l1Once.f
  rw [e, Option.bind_some]
  exact ⟨_, _, _, rfl, c⟩
theorem d_bits {b : List Int} {i : Int} (h : Int) (hc : Cur b i) : ∃ v i' h', spec_l1DrawBits.f b i h = some (v, i', h') ∧ (-1 ≤ v ∧ v ≤ 64) ∧ Cur b i' := by
  obtain ⟨o, i1, h1, e1, c1⟩ := d_once h hc 20 (by decide)
  unfold spec_l1DrawBits.f
  rw [e1, Option.bind_some]
  by_cases ho : o = true
  · obtain ⟨v, i2, h2, e2, hv, c2⟩ := d_pick h1 c1 [-1, 1, 61, 64] (by decide) (by decide)
    rw [if_pos ho, e2, Option.bind_some]
    refine ⟨v, i2, h2, rfl, ?_, c2⟩
    simp only [List.mem_cons, List.not_mem_nil, or_false] at hv
    rcases hv with rfl | rfl | rfl | rfl <;> decide
  · obtain ⟨v, i2, h2, e2, hv, c2⟩ := d_pick h1 c1 [2, 3, 4, 8, 16, 32, 60, 5] (by decide) (by decide)
    rw [if_neg ho, e2, Option.bind_some]
    refine ⟨v, i2, h2, rfl, ?_, c2⟩
    simp only [List.mem_cons, List.not_mem_nil, or_false] at hv
    rcases hv with rfl | rfl | rfl | rfl | rfl | rfl | rfl | rfl <;> decide
theorem small_l0 (m : Nat) : ∀ {b : List Int} (o : List (List Int)) (i h : Int), o.length + m ≤ 16 → Cur b i → (∀ x ∈ o, x.length ≤ 4 ∧ ∀ z ∈ x, 0 ≤ z ∧ z < 256) →
    ∃ (bits : Int) (ls : List (List Int)) (i' h' : Int), Ev (fun k => spec_l3DrawSmall.l0 k o (m : Int) b i h) (bits, ls, i', h') ∧ (2 ≤ bits ∧ bits ≤ 60) ∧ ls.length = o.length + m ∧ (∀ x ∈ ls, x.length ≤ 4 ∧ ∀ z ∈ x, 0 ≤ z ∧ z < 256) ∧ Cur b i' := by
  induction m with
  | zero =>
    intro b o i h h1 hc ho
    obtain ⟨v, i', h', e, hv, c⟩ := d_pick h hc [2, 3, 4, 2, 3, 8, 60, 5] (by decide) (by decide)
    refine ⟨v, o, i', h', Ev.step (fun k => spec_l3DrawSmall.l0.eq_2 ..) (ev_neg (by omega) (ev_pure e (ev_ret rfl))), ?_, rfl, ho, c⟩
    simp only [List.mem_cons, List.not_mem_nil, or_false] at hv
    omega
  | succ m ih =>
    intro b o i h h1 hc ho
    obtain ⟨d, i1, hh, e1, hd, hx, c1⟩ := d_data h hc 4 (by decide)
    obtain ⟨bits, ls, i2, h2, e, hb, hl, hk, c2⟩ := ih (o ++ [d]) i1 hh (by rw [List.length_append, List.length_singleton]; omega) c1 (fun x hx' => by
      rcases List.mem_append.1 hx' with hx' | hx'
      · exact ho x hx'
      · rw [List.mem_singleton] at hx'
        subst hx'
        exact ⟨hd, hx⟩)
    refine ⟨bits, ls, i2, h2, Ev.step (fun k => spec_l3DrawSmall.l0.eq_2 ..) (ev_pos (by omega) (ev_bind e1 (ev_pos (by omega) ?_))), hb, by rw [hl, List.length_append, List.length_singleton]; omega, hk, c2⟩
    rw [show wrap64 (((m + 1 : Nat) : Int) - 1) = (m : Int) by rw [wr (by omega) (by omega)]; omega]
    exact e
theorem d_small {b : List Int} {i : Int} (h : Int) (hc : Cur b i) : ∃ (bits : Int) (ls : List (List Int)) (i' h' : Int), Ev (fun k => spec_l3DrawSmall.f k b i h) (bits, ls, i', h') ∧ lok bits ls ∧ ls.length ≤ 6 ∧ (∀ x ∈ ls, x.length ≤ 4 ∧ ∀ z ∈ x, 0 ≤ z ∧ z < 256) ∧ Cur b i' := by
  obtain ⟨d, i1, h1, e1, hd, hx, c1⟩ := d_data h hc 4 (by decide)
  obtain ⟨v, i2, h2, e2, v0, v1, c2⟩ := d_below h1 c1 6 (by decide)
  obtain ⟨m, rfl⟩ := Int.eq_ofNat_of_zero_le v0
  obtain ⟨bits, ls, i3, h3, e3, hb, hl, hk, c3⟩ := small_l0 m [d] i2 h2 (by simp only [List.length_singleton]; omega) c2 (fun x hx' => by rw [List.mem_singleton] at hx'; subst hx'; exact ⟨hd, hx⟩)
  rw [List.length_singleton] at hl
  refine ⟨bits, ls, i3, h3, ?_, ⟨⟨hb, by omega, by omega⟩, fun x hx' => by have := (hk x hx').1; omega⟩, by omega, hk, c3⟩
  unfold spec_l3DrawSmall.f
  exact ev_bind e1 (ev_pure e2 e3)
theorem honest_in {b : Int} {l : List (List Int)} (h : lok b l) {i : Nat} (hi : i < l.length) : honestOf b l (i : Int) = ((l.length : Int), (i : Int), l.getD i [], pth i (lvs b 15 (leafs b l)), true) := by
  have e : pathOf b l (i : Int) = (pth i (lvs b 15 (leafs b l)), true) := by
    unfold pathOf
    rw [if_pos ⟨h, by omega, by omega⟩, Int.toNat_natCast]
  unfold honestOf
  rw [e, if_pos rfl, Int.toNat_natCast]
theorem pth_16 (b : Int) (l : List (List Int)) (i : Nat) : (pth i (lvs b 15 (leafs b l))).length ≤ 16 := by
  have h1 := pth_length (lvs b 15 (leafs b l)) i
  have h2 := lvs_length b 15 (leafs b l)
  omega
theorem forge_l0 {bits : Int} {ls : List (List Int)} {a : Nat} (ha : a < ls.length) (root : Int) (m at_ : Int) (leaf path : List Int) (hp : path.length ≤ 16) (n : Nat) : ∀ (j : Nat) {b : List Int} (i h : Int), j + n = 40 → Cur b i →
    ∃ (x : List Int) (i' h' : Int), Ev (fun k => spec_l3Forge.l0 k bits ls (a : Int) root (j : Int) b i h m at_ leaf path) (m, at_, x, path, i', h') ∧ Cur b i' := by
  induction n with
  | zero =>
    intro j b i h hj hc
    exact ⟨leaf, i, h, Ev.step (fun k => spec_l3Forge.l0.eq_2 ..) (ev_neg (by omega) (ev_ret rfl)), hc⟩
  | succ n ih =>
    intro j b i h hj hc
    obtain ⟨d, i1, h1, e1, hd, hx, c1⟩ := d_data h hc 4 (by decide)
    obtain ⟨x, i2, h2, e2, c2⟩ := ih (j + 1) i1 h1 (by omega) c1
    have es : spec_l1Same.f d (rd_L1 ls (a : Int)) = some (same d (rd_L1 ls (a : Int))) := rfl
    have ep := spec_provenL bits root m (a : Int) d path (by omega)
    by_cases hs : same d (rd_L1 ls (a : Int)) = true
    · refine ⟨x, i2, h2, Ev.step (fun k => spec_l3Forge.l0.eq_2 ..) (ev_pos (by omega) (ev_bind e1 (ev_pos (by omega) (ev_pos (by omega) (ev_pure es (ev_pos hs ?_)))))), c2⟩
      rw [wr_succ (by omega)]
      exact e2
    · by_cases hq : 0 ≤ rootFrom bits m (a : Int) d path ∧ rootFrom bits m (a : Int) d path = root
      · exact ⟨d, i1, h1, Ev.step (fun k => spec_l3Forge.l0.eq_2 ..) (ev_pos (by omega) (ev_bind e1 (ev_pos (by omega) (ev_pos (by omega) (ev_pure es (ev_neg hs (ev_bind ep (ev_pos (decide_eq_true hq) (ev_ret rfl)))))))))
          , c1⟩
      · refine ⟨x, i2, h2, Ev.step (fun k => spec_l3Forge.l0.eq_2 ..) (ev_pos (by omega) (ev_bind e1 (ev_pos (by omega) (ev_pos (by omega) (ev_pure es (ev_neg hs (ev_bind ep (ev_neg (by simp only [decide_eq_true_eq]; exact hq) ?_)))))))), c2⟩
        rw [wr_succ (by omega)]
        exact e2
theorem d_forge {bits : Int} {ls : List (List Int)} (hk : lok bits ls) {a : Nat} (ha : a < ls.length) {b : List Int} {i : Int} (h : Int) (hc : Cur b i) :
    ∃ (x : List Int) (i' h' : Int), Ev (fun k => spec_l3Forge.f k b i h bits ls (a : Int)) ((ls.length : Int), (a : Int), x, pth a (lvs bits 15 (leafs bits ls)), i', h') ∧ Cur b i' := by
  have hl := hk.1.2
  have e1 := spec_honest bits ls (a : Int) (by omega)
  rw [honest_in hk ha] at e1
  have e2 := spec_treeroot bits ls (by omega)
  obtain ⟨x, i', h', e, c⟩ := forge_l0 ha (treeRoot bits ls) (ls.length : Int) (a : Int) (ls.getD a []) (pth a (lvs bits 15 (leafs bits ls))) (pth_16 bits ls a) 40 0 (b := b) i h rfl hc
  refine ⟨x, i', h', ?_, c⟩
  unfold spec_l3Forge.f
  exact ev_bind e1 (ev_bind e2 e)
theorem lists_l0 {ls : List (List Int)} (hn : ls.length ≤ 1000) (hk : ∀ x ∈ ls, x.length ≤ 1000) (n : Nat) : ∀ i : Nat, i + n = ls.length → Ev (fun k => spec_l1Lists.l0 k ls (ls.take i) (i : Int)) ls := by
  induction n with
  | zero =>
    intro i hi
    rw [List.take_of_length_le (by omega)]
    exact Ev.step (fun k => spec_l1Lists.l0.eq_2 ..) (ev_neg (by omega) (ev_ret rfl))
  | succ n ih =>
    intro i hi
    have hm := hk _ (getD_mem (l := ls) (i := i) (by omega))
    have hlen : (ls.take i).length = i := by rw [List.length_take]; omega
    refine Ev.step (fun k => spec_l1Lists.l0.eq_2 ..) (ev_pos (by omega) (ev_pos (by omega) (ev_pure (a := ls.getD i []) ?_ (ev_pos (by omega) ?_))))
    · rw [rdB_nat]
      unfold spec_l1Bytes.f
      rw [Option.bind_some, if_pos (by simp only [List.length_nil]; omega), List.nil_append]
    · rw [wr_succ (by omega), take_getD ls [] i (by omega)]
      exact ih (i + 1) (by omega)
theorem d_lists {ls : List (List Int)} (hn : ls.length ≤ 1000) (hk : ∀ x ∈ ls, x.length ≤ 1000) : Ev (fun k => spec_l1Lists.f k ls) ls := by
  unfold spec_l1Lists.f
  exact lists_l0 hn hk ls.length 0 (Nat.zero_add _)
theorem forge_j0 (k0 : Int) (a b : List (List Int)) {c : List Int} {i : Int} (h : Int) (hc : Cur c i) : ∃ (x : Int), Ev (fun k => spec_DrawFromLeaves.j0 k k0 a b c i h) (x, a, b) := by
  obtain ⟨o, i1, h1, e1, c1⟩ := d_once h hc 20 (by decide)
  by_cases ho : o = true
  · obtain ⟨v, i2, h2, e2, _, c2⟩ := d_bits h1 c1
    exact ⟨v, Ev.step (fun k => spec_DrawFromLeaves.j0.eq_2 ..) (ev_pure e1 (ev_pos ho (ev_pure e2 (ev_ret rfl))))⟩
  · exact ⟨k0, Ev.step (fun k => spec_DrawFromLeaves.j0.eq_2 ..) (ev_pure e1 (ev_neg ho (ev_ret rfl)))⟩
theorem draw_fromleaves (l : List Int) (hl : l.length ≤ 1048576) : ∃ (x : Int) (a b : List (List Int)), Ev (fun k => spec_DrawFromLeaves.f k l) (x, a, b) := by
  obtain ⟨h0, e0⟩ := d_new l hl
  obtain ⟨bits, ls, i1, h1, e1, hk, hn, hb, c1⟩ := d_small h0 (d_cur hl)
  have el := d_lists (ls := ls) (by omega) (fun x hx => by have := (hb x hx).1; omega)
  obtain ⟨q, i2, h2, e2, q0, q1, c2⟩ := d_below h1 c1 4 (by decide)
  have hlen := hk.1.2
  unfold spec_DrawFromLeaves.f
  by_cases q_0 : q = 0
  · obtain ⟨bits', ls', i3, h3, e3, _, _, _, c3⟩ := d_small h2 c2
    obtain ⟨x, e⟩ := forge_j0 bits ls ls' h3 c3
    exact ⟨x, ls, ls', ev_bind e0 (ev_bind e1 (ev_bind el (ev_pure e2 (ev_pos q_0 (ev_bind e3 e)))))⟩
  by_cases q_1 : q = 1
  · obtain ⟨v, i3, h3, e3, v0, v1, c3⟩ := d_below h2 c2 (ls.length : Int) (by omega)
    obtain ⟨a, rfl⟩ := Int.eq_ofNat_of_zero_le v0
    obtain ⟨y, i4, h4, e4, c4⟩ := d_forge hk (a := a) (by omega) h3 c3
    obtain ⟨x, e⟩ := forge_j0 bits ls (ls.set a y) h4 c4
    exact ⟨x, ls, ls.set a y, ev_bind e0 (ev_bind e1 (ev_bind el (ev_pure e2 (ev_neg q_0 (ev_pos q_1 (ev_pure e3 (ev_bind e4 (ev_pos (Int.natCast_nonneg _) (ev_pos (by show (a : Int) < ls.length; omega) e)))))))))⟩
  by_cases q_2 : q = 2
  · obtain ⟨v, i3, h3, e3, v0, v1, c3⟩ := d_below h2 c2 (ls.length : Int) (by omega)
    obtain ⟨a, rfl⟩ := Int.eq_ofNat_of_zero_le v0
    obtain ⟨y, i4, h4, e4, _, _, c4⟩ := d_data h3 c3 4 (by decide)
    obtain ⟨x, e⟩ := forge_j0 bits ls (ls.set a y) h4 c4
    exact ⟨x, ls, ls.set a y, ev_bind e0 (ev_bind e1 (ev_bind el (ev_pure e2 (ev_neg q_0 (ev_neg q_1 (ev_pos q_2 (ev_pure e3 (ev_bind e4 (ev_pos (Int.natCast_nonneg _) (ev_pos (by show (a : Int) < ls.length; omega) e))))))))))⟩
  · obtain ⟨x, e⟩ := forge_j0 bits ls ls h2 c2
    exact ⟨x, ls, ls, ev_bind e0 (ev_bind e1 (ev_bind el (ev_pure e2 (ev_neg q_0 (ev_neg q_1 (ev_neg q_2 e))))))⟩
theorem draw_frompaths (l : List Int) (hl : l.length ≤ 1048576) : ∃ (w m a : Int) (x p y q : List Int), Ev (fun k => spec_DrawFromPaths.f k l) (w, m, a, x, p, y, q) := by
  obtain ⟨h0, e0⟩ := d_new l hl
  obtain ⟨bits, ls, i1, h1, e1, hk, hn, hb, c1⟩ := d_small h0 (d_cur hl)
  have hlen := hk.1.2
  obtain ⟨v, i2, h2, e2, v0, v1, c2⟩ := d_below h1 c1 (ls.length : Int) (by omega)
  obtain ⟨a, rfl⟩ := Int.eq_ofNat_of_zero_le v0
  have ha : a < ls.length := by omega
  have eh := spec_honest bits ls (a : Int) (by omega)
  rw [honest_in hk ha] at eh
  obtain ⟨x, i3, h3, e3, c3⟩ := d_forge hk ha h2 c2
  have hp16 := pth_16 bits ls a
  generalize pth a (lvs bits 15 (leafs bits ls)) = p at e3 hp16 eh
  obtain ⟨q, i4, h4, e4, q0, q1, c4⟩ := d_below h3 c3 8 (by decide)
  unfold spec_DrawFromPaths.f
  by_cases q_0 : q = 0
  · obtain ⟨d, i5, h5, e5, _, _, c5⟩ := d_data h4 c4 4 (by decide)
    exact ⟨_, _, _, _, _, _, _, ev_bind e0 (ev_bind e1 (ev_pure e2 (ev_bind eh (ev_bind e3 (ev_pure e4 (ev_pos q_0 (ev_bind e5 (ev_ret rfl))))))))⟩
  by_cases q_1 : q = 1
  · by_cases hp : (p.length : Int) > 0
    · obtain ⟨u, i5, h5, e5, _, _, c5⟩ := d_below h4 c4 4 (by decide)
      refine ⟨_, _, _, _, _, _, _, ev_bind e0 (ev_bind e1 (ev_pure e2 (ev_bind eh (ev_bind e3 (ev_pure e4 (ev_neg q_0 (ev_pos q_1 (ev_pos hp (ev_some (ev_pos (by simp only [List.length_nil]; omega) (ev_some (ev_pure e5 (ev_pos ?_ (ev_ret rfl))))))))))))))⟩
      show 0 < (([] ++ p : List Int).length : Int)
      rw [List.nil_append]
      omega
    · exact ⟨_, _, _, _, _, _, _, ev_bind e0 (ev_bind e1 (ev_pure e2 (ev_bind eh (ev_bind e3 (ev_pure e4 (ev_neg q_0 (ev_pos q_1 (ev_neg hp (ev_ret rfl)))))))))⟩
  by_cases q_2 : q = 2
  · obtain ⟨u, i5, h5, e5, _, _, c5⟩ := d_below h4 c4 9 (by decide)
    exact ⟨_, _, _, _, _, _, _, ev_bind e0 (ev_bind e1 (ev_pure e2 (ev_bind eh (ev_bind e3 (ev_pure e4 (ev_neg q_0 (ev_neg q_1 (ev_pos q_2 (ev_pure e5 (ev_ret rfl))))))))))⟩
  by_cases q_3 : q = 3
  · obtain ⟨u, i5, h5, e5, _, c5⟩ := d_bits h4 c4
    exact ⟨_, _, _, _, _, _, _, ev_bind e0 (ev_bind e1 (ev_pure e2 (ev_bind eh (ev_bind e3 (ev_pure e4 (ev_neg q_0 (ev_neg q_1 (ev_neg q_2 (ev_pos q_3 (ev_pure e5 (ev_ret rfl)))))))))))⟩
  · exact ⟨_, _, _, _, _, _, _, ev_bind e0 (ev_bind e1 (ev_pure e2 (ev_bind eh (ev_bind e3 (ev_pure e4 (ev_neg q_0 (ev_neg q_1 (ev_neg q_2 (ev_neg q_3 (ev_ret rfl))))))))))⟩
theorem draw_fromdata (l : List Int) (hl : l.length ≤ 1048576) : ∃ (g : Int) (c d : List Int), Ev (fun k => spec_DrawFromData.f k l) (g, c, d) ∧ c.length ≤ 4 ∧ d.length ≤ 4 := by
  obtain ⟨h0, e0⟩ := d_new l hl
  obtain ⟨g, i1, h1, e1, _, c1⟩ := d_bits h0 (d_cur hl)
  obtain ⟨c, i2, h2, e2, hc, _, c2⟩ := d_data h1 c1 4 (by decide)
  obtain ⟨d, i3, h3, e3, hd, _, c3⟩ := d_data h2 c2 4 (by decide)
  refine ⟨g, c, d, ?_, hc, hd⟩
  unfold spec_DrawFromData.f
  exact ev_bind e0 (ev_pure e1 (ev_bind e2 (ev_bind e3 (ev_ret rfl))))
theorem forgery_j1 {l : List Int} (hl : l.length ≤ 1048576) : Ev (fun k => laws_FnForgery.j1 k l false) true := by
  obtain ⟨g, c, d, e, hc, hd⟩ := draw_fromdata l hl
  refine Ev.step (fun k => laws_FnForgery.j1.eq_2 ..) (ev_neg (by decide) (ev_bind e ?_))
  by_cases h : coll g c d = true
  · have ef : impl_FromData.f g c d = some (c, d, true) := by
      unfold impl_FromData.f
      rw [impl_coll, Option.bind_some, if_pos h]
      unfold impl_pairOf.f bytes_Clone.f
      rw [if_pos (by omega), if_pos (by omega)]
      rfl
    exact ev_pure ef (ev_pure (impl_coll g c d) (ev_pos (by rw [h]; rfl) (ev_pos rfl (ev_ret (beq_self_eq_true _)))))
  · have ef : impl_FromData.f g c d = some ([], [], false) := by
      unfold impl_FromData.f
      rw [impl_coll, Option.bind_some, if_neg h]
    have h' : coll g c d = false := by simpa using h
    exact ev_pure ef (ev_pure (impl_coll g c d) (ev_pos (by rw [h']; rfl) (ev_neg (by decide) (ev_ret rfl))))
theorem forgery_j0 {l : List Int} (hl : l.length ≤ 1048576) : Ev (fun k => laws_FnForgery.j0 k l false) true := by
  obtain ⟨w, m, a, x, p, y, q, e⟩ := draw_frompaths l hl
  have hj := forgery_j1 hl
  have ht := fromPaths_told w m a x p y q
  have hf := impl_frompaths w m a x p y q
  have h1 := impl_root w m a x p
  have h2 := impl_root w m a y q
  generalize fromPaths w m a x p y q = f at ht hf
  generalize rootFrom w m a x p = u at ht h1
  generalize rootFrom w m a y q = v at ht h2
  refine Ev.step (fun k => laws_FnForgery.j0.eq_2 ..) (ev_neg (by decide) (ev_bind e (ev_bind hf (ev_bind h1 (ev_bind h2 ?_)))))
  by_cases hq : f.2.2 = true
  · obtain ⟨t1, t2, t3⟩ := ht.1 hq
    exact ev_pos hq (ev_pure (impl_coll w f.1 f.2.1) (ev_pos t1 (ev_pos t2 (ev_neg (by omega) hj))))
  · refine ev_neg hq ?_
    by_cases h0 : u ≥ 0
    · refine ev_pos h0 ?_
      by_cases huv : u = v
      · refine ev_pos huv ?_
        obtain ⟨hs, _⟩ := ht.2 (by simpa using hq) h0 huv
        have hs' : ((strOfNums x).toList != (strOfNums y).toList) = false := by
          unfold same at hs
          unfold bne
          rw [hs]
          rfl
        show Ev (fun k => laws_FnForgery.j1 k l ((strOfNums x).toList != (strOfNums y).toList)) true
        rw [hs']
        exact hj
      · exact ev_neg huv hj
    · exact ev_neg h0 hj
theorem alike_zip : ∀ (x y : List (List Int)), alikeL x y = (x.zip y).all likeB
  | u :: x, v :: y => by
    have := alike_zip x y
    unfold alikeL
    rw [List.zip_cons_cons, List.all_cons, this]
    rfl
  | [], y => by rw [List.zip_nil_left]; rfl
  | u :: x, [] => by rw [List.zip_nil_right]; rfl
theorem FnForgery : laws_FnForgery.Pure := by
  intro l hl _ wb
  refine Ev.rounds ?_
  unfold laws_FnForgery.f
  refine ev_pure (a := decide ((l.length : Int) > 1048576)) rfl ?_
  by_cases h : (l.length : Int) > 1048576
  · exact ev_pos (by simp [h]) (ev_ret rfl)
  refine ev_neg (by simp only [decide_eq_true_eq]; exact h) ?_
  have hj := forgery_j0 (l := l) (by omega)
  obtain ⟨b, x, y, e⟩ := draw_fromleaves l (by omega)
  have ht := fromLeaves_told b x y
  have hf := impl_fromleaves b x y
  have h1 := impl_treeroot b x
  have h2 := impl_treeroot b y
  generalize fromLeaves b x y = f at ht hf
  generalize treeRoot b x = u at ht h1
  generalize treeRoot b y = v at ht h2
  obtain ⟨t1, t2⟩ := ht
  refine ev_bind e (ev_bind hf (ev_bind h1 (ev_bind h2 ?_)))
  have hs : laws_sameLists.f x y = some (decide (x.length = y.length) && alikeL x y) := by rw [alike_zip]; rfl
  have fin : ∀ q : Bool, f.2.2 = q → (q = true → coll b f.1 f.2.1 = true) → Ev (fun k => if f.2.2 = true then (impl_Collides.f b f.1 f.2.1).bind fun t => laws_FnForgery.j0 k l (!t) else laws_FnForgery.j0 k l false) true := by
    intro q hq hc
    by_cases hh : f.2.2 = true
    · refine ev_pos hh (ev_pure (impl_coll b f.1 f.2.1) ?_)
      rw [hc (by rw [← hq]; exact hh)]
      exact hj
    · exact ev_neg hh hj
  by_cases h0 : u ≥ 0
  · refine ev_pos h0 ?_
    by_cases huv : u = v
    · refine ev_pos huv (ev_pure hs (ev_neg ?_ (fin _ rfl t2)))
      rw [t1]
      have e1 : decide (0 ≤ u ∧ u = v ∧ ¬ (x.length = y.length ∧ alikeL x y = true)) = !(decide (x.length = y.length) && alikeL x y) := by
        by_cases hl2 : x.length = y.length
        · cases ha : alikeL x y
          · rw [decide_eq_true ⟨h0, huv, fun hc => by cases hc.2⟩]; simp
          · rw [decide_eq_false (fun hc => hc.2.2 ⟨hl2, rfl⟩), decide_eq_true hl2]; rfl
        · rw [decide_eq_true ⟨h0, huv, fun hc => hl2 hc.1⟩, decide_eq_false hl2]; rfl
      rw [e1, bne_self_eq_false]
      decide
    · refine ev_neg huv (ev_neg ?_ (fin _ rfl t2))
      rw [t1, decide_eq_false (fun hc => huv hc.2.1)]
      decide
  · refine ev_neg h0 (ev_neg ?_ (fin _ rfl t2))
    rw [t1, decide_eq_false (fun hc => h0 hc.1)]
    decide

end Go.Proofs.Ytchjajbkaiefdaa.Pure
