/- Proven answers as the reference's Proven, at all numbers, leaves and paths (of at most 2^20 each), and leaves both lists as they were. -/
import Derived.Test.YtaacidhgnappdaaPFnExactProvenx7
import Derived.Test.YtaacidhgnappdaaKit
import Derived.Test.YtaacidhgnappdaaDig
namespace Go.Proofs.Ytaacidhgnappdaa.Pure
open Go.RowKit Go.Proofs.Ytaacidhgnappdaa Go.Proofs.Ytaacidhgnappdaa.PFnExactProven Go.Proofs.YtaacidhgnappdaaW.PrintWords Go.Proofs.YtaacidhgnappdaaW.PrintLast Go.Proofs.YtaacidhgnappdaaW.PrintMore Go.Proofs.Ytaacidhgnappdaa.K
set_option linter.unusedVariables false

theorem toByteS_l0 (l : List Int) (hl : l.length ≤ 9223372036854775806) (n : Nat) : ∀ i : Nat, i + n = l.length →
    Ev (fun k => laws_toByteS.l0 k l (l.take i ++ List.replicate n 0) (i : Int)) l := by
  induction n with
  | zero =>
    intro i hi
    refine Ev.step (fun k => laws_toByteS.l0.eq_2 ..) ?_
    refine ev_neg (by omega) (ev_ret ?_)
    rw [List.replicate_zero, List.append_nil, List.take_of_length_le (by omega)]
  | succ n ih =>
    intro i hi
    refine Ev.step (fun k => laws_toByteS.l0.eq_2 ..) ?_
    have hlen : (l.take i).length = i := by rw [List.length_take]; omega
    refine ev_pos (by omega) (ev_pos (by omega) (ev_pos (by rw [List.length_append, hlen, List.length_replicate]; omega) ?_))
    rw [wr_succ (by omega), rd_nat, Int.toNat_natCast]
    have e := set_fill (l.take i) (l.getD i 0) 0 n
    rw [hlen, take_getD l 0 i (by omega)] at e
    rw [e]
    exact ih (i + 1) (by omega)
theorem toByteS (l : List Int) (hl : l.length ≤ 140737488355328) : Ev (fun k => laws_toByteS.f k l) l := by
  unfold laws_toByteS.f
  refine ev_pos (by omega) (ev_pos (by omega) ?_)
  have := toByteS_l0 l (by omega) l.length 0 (by omega)
  simpa using this
theorem toIntS_l0 (l : List Int) (hl : l.length ≤ 9223372036854775806) (n : Nat) : ∀ i : Nat, i + n = l.length →
    Ev (fun k => laws_toIntS.l0 k l (l.take i ++ List.replicate n 0) (i : Int)) l := by
  induction n with
  | zero =>
    intro i hi
    refine Ev.step (fun k => laws_toIntS.l0.eq_2 ..) ?_
    refine ev_neg (by omega) (ev_ret ?_)
    rw [List.replicate_zero, List.append_nil, List.take_of_length_le (by omega)]
  | succ n ih =>
    intro i hi
    refine Ev.step (fun k => laws_toIntS.l0.eq_2 ..) ?_
    have hlen : (l.take i).length = i := by rw [List.length_take]; omega
    refine ev_pos (by omega) (ev_pos (by omega) (ev_pos (by rw [List.length_append, hlen, List.length_replicate]; omega) ?_))
    rw [wr_succ (by omega), rd_nat, Int.toNat_natCast]
    have e := set_fill (l.take i) (l.getD i 0) 0 n
    rw [hlen, take_getD l 0 i (by omega)] at e
    rw [e]
    exact ih (i + 1) (by omega)
theorem toIntS (l : List Int) (hl : l.length ≤ 17592186044416) : Ev (fun k => laws_toIntS.f k l) l := by
  unfold laws_toIntS.f
  refine ev_pos (by omega) (ev_pos (by omega) ?_)
  have := toIntS_l0 l (by omega) l.length 0 (by omega)
  simpa using this
theorem eqByteS_l0 (l : List Int) (hl : l.length ≤ 9223372036854775806) (n : Nat) : ∀ i : Nat, i + n = l.length →
    Ev (fun k => laws_eqByteS.l0 k l l (i : Int)) true := by
  induction n with
  | zero =>
    intro i hi
    refine Ev.step (fun k => laws_eqByteS.l0.eq_2 ..) ?_
    exact ev_neg (by omega) (ev_ret rfl)
  | succ n ih =>
    intro i hi
    refine Ev.step (fun k => laws_eqByteS.l0.eq_2 ..) ?_
    refine ev_pos (by omega) (ev_pos (by omega) (ev_pos (by omega) (ev_pos rfl ?_)))
    rw [wr_succ (by omega)]
    exact ih (i + 1) (by omega)
theorem eqByteS (l : List Int) (hl : l.length ≤ 140737488355328) : Ev (fun k => laws_eqByteS.f k l l) true := by
  unfold laws_eqByteS.f
  exact ev_pos rfl (eqByteS_l0 l (by omega) l.length 0 (by omega))
theorem eqIntS_l0 (l : List Int) (hl : l.length ≤ 9223372036854775806) (n : Nat) : ∀ i : Nat, i + n = l.length →
    Ev (fun k => laws_eqIntS.l0 k l l (i : Int)) true := by
  induction n with
  | zero =>
    intro i hi
    refine Ev.step (fun k => laws_eqIntS.l0.eq_2 ..) ?_
    exact ev_neg (by omega) (ev_ret rfl)
  | succ n ih =>
    intro i hi
    refine Ev.step (fun k => laws_eqIntS.l0.eq_2 ..) ?_
    refine ev_pos (by omega) (ev_pos (by omega) (ev_pos (by omega) (ev_pos rfl ?_)))
    rw [wr_succ (by omega)]
    exact ih (i + 1) (by omega)
theorem eqIntS (l : List Int) (hl : l.length ≤ 140737488355328) : Ev (fun k => laws_eqIntS.f k l l) true := by
  unfold laws_eqIntS.f
  exact ev_pos rfl (eqIntS_l0 l (by omega) l.length 0 (by omega))
theorem digest_a (a0 : Int) (l : List Int) (h1 : 2 ≤ a0 ∧ a0 ≤ 60) (h2 : l.length ≤ 4000) : impl_Squeeze.f a0 l 1 = some ([Dig.out a0 (Dig.rnds 6 (Dig.taken l))], true) := by
  unfold impl_Squeeze.f
  rw [if_pos h1, if_pos h2, if_pos (by decide)]
  generalize Dig.rnds 6 (Dig.taken l) = s
  simp only [Int.toNat_one, Dig.squeeze]
theorem digest_b (a0 : Int) (l : List Int) (h : ¬ ((2 ≤ a0 ∧ a0 ≤ 60) ∧ l.length ≤ 4000)) : impl_Squeeze.f a0 l 1 = some ([], false) := by
  unfold impl_Squeeze.f
  by_cases h1 : 2 ≤ a0 ∧ a0 ≤ 60
  · rw [if_pos h1, if_neg (fun h2 => h ⟨h1, h2⟩)]
  · rw [if_neg h1]
theorem digest_fin (x : Int) : ((some ([x], true) : Option (List Int × Bool)).bind fun bt => (if bt.2 = true then (if 0 < (bt.1.length : Int) then (some (rd bt.1 0)) else (none)) else (some (-1)))) = some x := by
  rw [Option.bind_some, if_pos rfl, if_pos (by simp)]
  rfl
theorem digest_non : ((some ([], false) : Option (List Int × Bool)).bind fun bt => (if bt.2 = true then (if 0 < (bt.1.length : Int) then (some (rd bt.1 0)) else (none)) else (some (-1)))) = some (-1) := by
  rw [Option.bind_some, if_neg (by simp)]
theorem impl_digest (a0 : Int) (l : List Int) : impl_Digest.f a0 l = some (Dig.digest a0 l) := by
  unfold impl_Digest.f
  by_cases h1 : 2 ≤ a0 ∧ a0 ≤ 60
  · by_cases h2 : l.length ≤ 4000
    · have e : Dig.digest a0 l = Dig.out a0 (Dig.rnds 6 (Dig.taken l)) := by
        unfold Dig.digest
        rw [if_pos h1, if_pos h2]
      rw [digest_a a0 l h1 h2, e]
      exact digest_fin _
    · have e : Dig.digest a0 l = -1 := by
        unfold Dig.digest
        rw [if_pos h1, if_neg h2]
      rw [digest_b a0 l (fun h => h2 h.2), e]
      exact digest_non
  · have e : Dig.digest a0 l = -1 := by
      unfold Dig.digest
      rw [if_neg h1]
    rw [digest_b a0 l (fun h => h1 h.1), e]
    exact digest_non

theorem spec_turn13 (x : Int) : spec_l1Turn.f x 13 = some (Dig.r13 x) := by
  have e : wrap64 (64 - 13) = 51 := by unfold wrap64; decide
  unfold spec_l1Turn.f
  rw [e, if_pos (by decide), if_pos (by decide)]
  have e1 : shl .u64 x 13 = IntKind.u64.wrap (x * 8192) := by
    unfold shl
    rw [show (2 : Int) ^ min (13 : Int).toNat IntKind.u64.bits = 8192 by decide]
  have e2 : shr .u64 x 51 = x / 2251799813685248 := by
    unfold shr
    rw [show (2 : Int) ^ min (51 : Int).toNat IntKind.u64.bits = 2251799813685248 by decide]
  rw [e1, e2]
  rfl
theorem spec_turn29 (x : Int) : spec_l1Turn.f x 29 = some (Dig.r29 x) := by
  have e : wrap64 (64 - 29) = 35 := by unfold wrap64; decide
  unfold spec_l1Turn.f
  rw [e, if_pos (by decide), if_pos (by decide)]
  have e1 : shl .u64 x 29 = IntKind.u64.wrap (x * 536870912) := by
    unfold shl
    rw [show (2 : Int) ^ min (29 : Int).toNat IntKind.u64.bits = 536870912 by decide]
  have e2 : shr .u64 x 35 = x / 34359738368 := by
    unfold shr
    rw [show (2 : Int) ^ min (35 : Int).toNat IntKind.u64.bits = 34359738368 by decide]
  rw [e1, e2]
  rfl
theorem spec_turn41 (x : Int) : spec_l1Turn.f x 41 = some (Dig.r41 x) := by
  have e : wrap64 (64 - 41) = 23 := by unfold wrap64; decide
  unfold spec_l1Turn.f
  rw [e, if_pos (by decide), if_pos (by decide)]
  have e1 : shl .u64 x 41 = IntKind.u64.wrap (x * 2199023255552) := by
    unfold shl
    rw [show (2 : Int) ^ min (41 : Int).toNat IntKind.u64.bits = 2199023255552 by decide]
  have e2 : shr .u64 x 23 = x / 8388608 := by
    unfold shr
    rw [show (2 : Int) ^ min (23 : Int).toNat IntKind.u64.bits = 8388608 by decide]
  rw [e1, e2]
  rfl
theorem spec_round (a b c : Int) : spec_l1Round.f a b c = some (Dig.rnd (a, b, c)) := by
  unfold spec_l1Round.f
  simp only [spec_turn13, spec_turn29, spec_turn41, Option.bind_some, Dig.rnd0_left, Dig.rnd1_left, Dig.rnd2_left]
  rfl
theorem spec_out_l0 (bits : Int) (hb : 0 ≤ bits) (m : Nat) (hm : m ≤ 1000) (n : Nat) : ∀ (i : Nat) (a b c : Int), i + n = m →
    Ev (fun k => spec_l1Out.l0 k bits (m : Int) (i : Int) a b c) (Dig.out bits (Dig.rnds n (a, b, c))) := by
  induction n with
  | zero =>
    intro i a b c hi
    refine Ev.step (fun k => spec_l1Out.l0.eq_2 ..) ?_
    exact ev_neg (by omega) (ev_pos hb (ev_ret rfl))
  | succ n ih =>
    intro i a b c hi
    refine Ev.step (fun k => spec_l1Out.l0.eq_2 ..) ?_
    refine ev_pos (by omega) (ev_pure (spec_round a b c) ?_)
    rw [wr_succ (by omega)]
    exact ih (i + 1) _ _ _ (by omega)
theorem spec_out {bits : Int} (hb : 0 ≤ bits) (a b c : Int) (m : Nat) (hm : m ≤ 1000) : Ev (fun k => spec_l1Out.f k bits a b c (m : Int)) (Dig.out bits (Dig.rnds m (a, b, c))) := by
  unfold spec_l1Out.f
  exact spec_out_l0 bits hb m hm m 0 a b c (Nat.zero_add _)
theorem spec_digest_l0 {bits : Int} (hb : 0 ≤ bits) (l : List Int) (hl : l.length ≤ 4000) (n : Nat) : ∀ (i : Nat) (a b c : Int), i + n = l.length → Dig.takes (l.take i) (1, 2, 3) = (a, b, c) →
    Ev (fun k => spec_Digest.l0 k bits l (i : Int) a b c) (Dig.out bits (Dig.rnds 6 (Dig.taken l))) := by
  induction n with
  | zero =>
    intro i a b c hi hs
    refine Ev.step (fun k => spec_Digest.l0.eq_2 ..) ?_
    rw [List.take_of_length_le (by omega)] at hs
    refine ev_neg (by omega) ?_
    have e : Dig.taken l = (Go.bits .xor .u64 a (IntKind.u64.wrap (l.length : Int)), b, c) := by
      unfold Dig.taken
      rw [hs]
      rfl
    refine ev_bind (a := Dig.out bits (Dig.rnds 6 (Dig.taken l))) ?_ (ev_ret rfl)
    rw [e]
    exact spec_out hb _ _ _ 6 (by decide)
  | succ n ih =>
    intro i a b c hi hs
    refine Ev.step (fun k => spec_Digest.l0.eq_2 ..) ?_
    refine ev_pos (by omega) (ev_pos (by omega) (ev_pure (spec_round _ _ _) (ev_pure (spec_round _ _ _) ?_)))
    rw [wr_succ (by omega)]
    refine ih (i + 1) _ _ _ (by omega) ?_
    have et : l.take (i + 1) = l.take i ++ [rd l (i : Int)] := by
      rw [rd_nat, take_getD l 0 i (by omega)]
    rw [et, Dig.takes_snoc, hs]
    rfl
theorem spec_digest (a0 : Int) (l : List Int) : Ev (fun k => spec_Digest.f k a0 l) (Dig.digest a0 l) := by
  unfold spec_Digest.f Dig.digest
  refine ev_pure (a := decide (2 ≤ a0 ∧ a0 ≤ 60)) (by unfold spec_l1In.f; by_cases h : a0 ≥ 2 <;> simp [h]) ?_
  by_cases h1 : 2 ≤ a0 ∧ a0 ≤ 60
  · rw [if_pos h1]
    refine ev_pos (by simp [h1]) ?_
    refine Ev.step (fun k => spec_Digest.j0.eq_2 ..) ?_
    by_cases h2 : l.length ≤ 4000
    · rw [if_pos h2]
      refine ev_neg (by simp; omega) ?_
      exact spec_digest_l0 (by omega) l h2 l.length 0 1 2 3 (Nat.zero_add _) rfl
    · rw [if_neg h2]
      exact ev_pos (by simp; omega) (ev_ret rfl)
  · rw [if_neg h1]
    refine ev_neg (by simp; omega) ?_
    refine Ev.step (fun k => spec_Digest.j0.eq_2 ..) ?_
    exact ev_pos rfl (ev_ret rfl)
/-- The last n bytes of a number, the highest first. -/
def be : Nat → Nat → List Int
  | 0, _ => []
  | n + 1, x => be n (x / 256) ++ [((x % 256 : Nat) : Int)]
theorem be_length (n : Nat) : ∀ x, (be n x).length = n := by
  induction n with
  | zero => intro x; rfl
  | succ n ih => intro x; simp [be, ih]
/-- The eight bytes of a number, nothing below 0. -/
def eightOf (x : Int) : List Int := if x < 0 then [] else be 8 x.toNat
theorem impl_high_l0 (n : Nat) : ∀ (x : Nat) (t : List Int), n ≤ 8 → t.length = 8 - n →
    Ev (fun k => impl_high.l0 k (x : Int) (List.replicate n 0 ++ t) ((n : Int) - 1)) (be n x ++ t) := by
  induction n with
  | zero =>
    intro x t _ _
    refine Ev.step (fun k => impl_high.l0.eq_2 ..) ?_
    exact ev_neg (by omega) (ev_ret rfl)
  | succ n ih =>
    intro x t hn ht
    refine Ev.step (fun k => impl_high.l0.eq_2 ..) ?_
    refine ev_pos (by omega) (ev_pos (by omega) (ev_pos (by rw [List.length_append, List.length_replicate, ht]; omega) ?_))
    have e1 : wrap64 (((n + 1 : Nat) : Int) - 1 - 1) = (n : Int) - 1 := by rw [wr (by omega) (by omega)]; omega
    have e2 : (((n + 1 : Nat) : Int) - 1).toNat = n := by omega
    have e3 : (x : Int) / 256 = ((x / 256 : Nat) : Int) := by omega
    have e4 : (x : Int) % 256 = ((x % 256 : Nat) : Int) := by omega
    rw [e1, e2, e3, e4]
    have e5 : (List.replicate (n + 1) (0 : Int) ++ t).set n ((x % 256 : Nat) : Int) = List.replicate n 0 ++ (((x % 256 : Nat) : Int) :: t) := by
      rw [List.replicate_succ', List.append_assoc, List.set_append_right _ _ (by rw [List.length_replicate]; exact Nat.le_refl _), List.length_replicate, Nat.sub_self]
      rfl
    rw [e5]
    have := ih (x / 256) (((x % 256 : Nat) : Int) :: t) (by omega) (by rw [List.length_cons, ht]; omega)
    simp only [be, List.append_assoc, List.singleton_append]
    exact this
theorem impl_eight {x : Int} (hx : x ≤ 9223372036854775807) : Ev (fun k => impl_Eight.f k x) (eightOf x) := by
  unfold impl_Eight.f eightOf
  by_cases h : x < 0
  · rw [if_pos h]
    exact ev_pos h (ev_ret rfl)
  · rw [if_neg h]
    refine ev_neg h (ev_bind (a := be 8 x.toNat) ?_ (ev_ret rfl))
    unfold impl_high.f
    refine ev_pos (by decide) (ev_pos (by decide) ?_)
    have := impl_high_l0 8 x.toNat [] (by decide) rfl
    rw [Int.toNat_of_nonneg (by omega)] at this
    simpa [wrap64] using this
theorem spec_eight_l0 (x : Nat) (hx : x ≤ 9223372036854775807) (n : Nat) : ∀ (i : Nat), i + n = 8 →
    Ev (fun k => spec_Eight.l0 k (x : Int) (be i (x / 256 ^ n)) ((n : Int) - 1)) (be 8 x) := by
  induction n with
  | zero =>
    intro i hi
    refine Ev.step (fun k => spec_Eight.l0.eq_2 ..) ?_
    obtain rfl : i = 8 := by omega
    refine ev_neg (by omega) (ev_ret ?_)
    rw [Nat.pow_zero, Nat.div_one]
  | succ n ih =>
    intro i hi
    refine Ev.step (fun k => spec_Eight.l0.eq_2 ..) ?_
    have e1 : wrap64 (8 * (((n + 1 : Nat) : Int) - 1)) = ((8 * n : Nat) : Int) := by rw [wr (by omega) (by omega)]; omega
    have e2 : wrap64 (((n + 1 : Nat) : Int) - 1 - 1) = (n : Int) - 1 := by rw [wr (by omega) (by omega)]; omega
    have e3 : shr .i64 (x : Int) ((8 * n : Nat) : Int) = ((x / 256 ^ n : Nat) : Int) := by
      unfold shr
      have e : (256 : Nat) ^ n = 2 ^ (8 * n) := by rw [show (256 : Nat) = 2 ^ 8 from rfl, ← Nat.pow_mul]
      rw [Int.toNat_natCast, Nat.min_eq_left (show 8 * n ≤ IntKind.i64.bits by show 8 * n ≤ 64; omega), e]
      simp
    have e4 : ((x / 256 ^ n : Nat) : Int) % 256 = ((x / 256 ^ n % 256 : Nat) : Int) := by omega
    rw [e1, e2]
    refine ev_pos (by omega) (ev_pos (by omega) (ev_pos (by rw [be_length]; omega) ?_))
    rw [e3, e4]
    have := ih (i + 1) (by omega)
    have e5 : be (i + 1) (x / 256 ^ n) = be i (x / 256 ^ (n + 1)) ++ [((x / 256 ^ n % 256 : Nat) : Int)] := by
      rw [Nat.pow_succ, ← Nat.div_div_eq_div_mul]
      rfl
    rw [e5] at this
    exact this
theorem spec_eight {x : Int} (hx : x ≤ 9223372036854775807) : Ev (fun k => spec_Eight.f k x) (eightOf x) := by
  unfold spec_Eight.f eightOf
  refine ev_some ?_
  by_cases h : x < 0
  · rw [if_pos h]
    exact ev_pos h (ev_ret rfl)
  · rw [if_neg h]
    refine ev_neg h ?_
    have := spec_eight_l0 x.toNat (by omega) 8 0 rfl
    rw [Int.toNat_of_nonneg (by omega)] at this
    exact this
theorem shl_one {b : Int} (h : 2 ≤ b ∧ b ≤ 60) : shl .i64 1 b = 2 ^ b.toNat ∧ (4 : Int) ≤ 2 ^ b.toNat ∧ (2 : Int) ^ b.toNat ≤ 1152921504606846976 := by
  have h1 := Dig.two_pow_le b.toNat (by omega)
  have e60 : (2 : Nat) ^ 60 = 1152921504606846976 := by decide
  have ec : (2 : Int) ^ b.toNat = ((2 ^ b.toNat : Nat) : Int) := by simp
  have h2 : 2 ^ 2 ≤ 2 ^ b.toNat := Nat.pow_le_pow_right (by decide) (by omega)
  unfold shl
  rw [Nat.min_eq_left (show b.toNat ≤ IntKind.i64.bits by show b.toNat ≤ 64; omega), IntKind.wrap_i64, ec]
  omega
/-- A number that is a digest of so many bits. -/
def okd (b x : Int) : Prop := (2 ≤ b ∧ b ≤ 60) ∧ 0 ≤ x ∧ x < 2 ^ b.toNat
instance (b x : Int) : Decidable (okd b x) := by unfold okd; infer_instance
theorem okd_le {b x : Int} (h : okd b x) : 0 ≤ x ∧ x ≤ 9223372036854775807 := by
  have := (shl_one h.1).2.2
  have := h.2
  omega
theorem impl_in_eq (a b c : Int) : impl_in.f a b c = some (decide (b ≤ a ∧ a ≤ c)) := by
  unfold impl_in.f
  by_cases h : a ≥ b <;> simp [h]
theorem impl_bits_eq (a : Int) : impl_bitsOk.f a = some (decide (2 ≤ a ∧ a ≤ 60)) := by
  unfold impl_bitsOk.f
  rw [impl_in_eq, Option.bind_some]
theorem impl_isdig (b x : Int) : impl_isDigest.f b x = some (decide (okd b x)) := by
  unfold impl_isDigest.f
  rw [impl_bits_eq, Option.bind_some]
  by_cases h : 2 ≤ b ∧ b ≤ 60
  · obtain ⟨h1, h2, h3⟩ := shl_one h
    rw [if_pos (by simp [h]), if_pos (by omega), h1, wr (by omega) (by omega), impl_in_eq, Option.bind_some]
    congr 1
    apply decide_eq_decide.2
    unfold okd
    omega
  · rw [if_neg (by simp [h])]
    congr 1
    exact (decide_eq_false (fun k => h k.1)).symm
theorem spec_in_eq (a b c : Int) : spec_l1In.f a b c = some (decide (b ≤ a ∧ a ≤ c)) := by
  unfold spec_l1In.f
  by_cases h : a ≥ b <;> simp [h]
theorem spec_isdig (b x : Int) : spec_l2Digest.f b x = some (decide (okd b x)) := by
  unfold spec_l2Digest.f
  rw [spec_in_eq, Option.bind_some]
  by_cases h : 2 ≤ b ∧ b ≤ 60
  · obtain ⟨h1, h2, h3⟩ := shl_one h
    rw [if_pos (by simp [h]), if_pos (by omega), h1, wr (by omega) (by omega), spec_in_eq, Option.bind_some]
    congr 1
    apply decide_eq_decide.2
    unfold okd
    omega
  · rw [if_neg (by simp [h])]
    congr 1
    exact (decide_eq_false (fun k => h k.1)).symm
theorem eightOf_le (x : Int) : (eightOf x).length ≤ 8 := by
  unfold eightOf; split
  · simp
  · rw [be_length]; omega
/-- What a node's digest is taken of. -/
def nodeIn (x y : Int) : List Int := 1 :: (eightOf x ++ eightOf y)
theorem nodeIn_le (x y : Int) : (nodeIn x y).length ≤ 17 := by
  have := eightOf_le x
  have := eightOf_le y
  unfold nodeIn
  simp only [List.length_cons, List.length_append]
  omega
theorem impl_nodein {x y : Int} (hx : x ≤ 9223372036854775807) (hy : y ≤ 9223372036854775807) : Ev (fun k => impl_nodeInput.f k x y) (nodeIn x y) := by
  unfold impl_nodeInput.f
  have h1 := eightOf_le x
  have h2 := eightOf_le y
  refine ev_bind (impl_eight hx) (ev_bind (impl_eight hy) (ev_pure (a := nodeIn x y) ?_ (ev_ret rfl)))
  unfold slices_Concat_byte_byte.f nodeIn
  generalize eightOf x = p at h1 ⊢
  generalize eightOf y = q at h2 ⊢
  have e : [[1], p, q].flatten = 1 :: (p ++ q) := by simp
  rw [e, if_pos (by simp only [List.length_cons, List.length_append]; omega)]
/-- A node's digest. -/
def node (b x y : Int) : Int := if okd b x ∧ okd b y then Dig.digest b (nodeIn x y) else -1
theorem spec_nodein {x y : Int} (hx : x ≤ 9223372036854775807) (hy : y ≤ 9223372036854775807) : Ev (fun k => spec_l2Node.f k x y) (nodeIn x y) := by
  unfold spec_l2Node.f nodeIn
  have h1 := eightOf_le x
  have h2 := eightOf_le y
  refine ev_some (ev_bind (spec_eight hx) (ev_pos (by simp only [List.length_singleton]; omega) (ev_some (ev_bind (spec_eight hy) (ev_pos (by simp only [List.length_append, List.length_singleton]; omega) (ev_ret ?_))))))
  simp
theorem spec_node (b x y : Int) : Ev (fun k => spec_NodeOf.f k b x y) (node b x y) := by
  unfold spec_NodeOf.f node
  refine ev_pure (spec_isdig b x) ?_
  by_cases h1 : okd b x
  · refine ev_pos (decide_eq_true h1) (ev_pure (spec_isdig b y) (Ev.step (fun k => spec_NodeOf.j0.eq_2 ..) ?_))
    by_cases h2 : okd b y
    · rw [if_pos ⟨h1, h2⟩]
      exact ev_neg (by simp [h2]) (ev_bind (spec_nodein (okd_le h1).2 (okd_le h2).2) (ev_bind (spec_digest b (nodeIn x y)) (ev_ret rfl)))
    · rw [if_neg (fun h => h2 h.2)]
      exact ev_pos (by simp [h2]) (ev_ret rfl)
  · rw [if_neg (fun h => h1 h.1)]
    exact ev_neg (by simp [h1]) (Ev.step (fun k => spec_NodeOf.j0.eq_2 ..) (ev_pos rfl (ev_ret rfl)))
/-- What a top's digest is taken of. -/
def topIn (many : Nat) (x : Int) : List Int := 2 :: (many : Int) :: eightOf x
theorem topIn_le (many : Nat) (x : Int) : (topIn many x).length ≤ 10 := by
  have := eightOf_le x
  unfold topIn
  simp only [List.length_cons]
  omega
/-- The place beside. -/
def beside (a : Nat) : Nat := if a % 2 = 0 then a + 1 else a - 1
/-- The input of a step up. -/
def stepIn (a : Nat) (q x : Int) : List Int := if a % 2 = 1 then nodeIn q x else nodeIn x q
/-- The way up from a place: the nodes' inputs, what is left of the path, and the digest at the end. -/
def ups (b : Int) : Nat → Nat → Nat → Int → List Int → Option (List (List Int) × List Int × Int)
  | 0, _, _, x, p => some ([], p, x)
  | n + 1, size, a, x, p =>
    if 1 < size then
      if beside a < size then
        match p with
        | [] => none
        | q :: p => (ups b n ((size + 1) / 2) (a / 2) (Dig.digest b (stepIn a q x)) p).map fun r => (stepIn a q x :: r.1, r.2)
      else ups b n ((size + 1) / 2) (a / 2) x p
    else some ([], p, x)
/-- All that a way up must hold to. -/
def upOk (b many at_ : Int) (leaf path : List Int) : Prop := (1 ≤ many ∧ many ≤ 16) ∧ (0 ≤ at_ ∧ at_ < many) ∧ (2 ≤ b ∧ b ≤ 60) ∧ leaf.length < 4000 ∧ ∀ p ∈ path, okd b p
instance (b many at_ : Int) (leaf path : List Int) : Decidable (upOk b many at_ leaf path) := by unfold upOk; infer_instance
theorem upOk_okd {b many at_ : Int} {leaf path : List Int} (h : upOk b many at_ leaf path) : okd b (Dig.digest b (0 :: leaf)) := by
  obtain ⟨_, _, h3, h4, _⟩ := h
  exact ⟨h3, Dig.digest_range h3.1 h3.2 (by simp only [List.length_cons]; omega)⟩
theorem node_okd {b : Int} (hb : 2 ≤ b ∧ b ≤ 60) (x y : Int) : okd b (Dig.digest b (nodeIn x y)) :=
  ⟨hb, Dig.digest_range hb.1 hb.2 (by have := nodeIn_le x y; omega)⟩
/-- The inputs of a way up, the top's the last. -/
def climbed (b many at_ : Int) (leaf path : List Int) : List (List Int) × Bool :=
  if upOk b many at_ leaf path then
    match ups b 16 many.toNat at_.toNat (Dig.digest b (0 :: leaf)) path with
    | none => ([], false)
    | some (l, r, y) => ((0 :: leaf) :: (l ++ [topIn many.toNat y]), decide (r = []))
  else ([], false)
/-- RootFrom's answer. -/
def rootFrom (b many at_ : Int) (leaf path : List Int) : Int :=
  if upOk b many at_ leaf path then
    match ups b 16 many.toNat at_.toNat (Dig.digest b (0 :: leaf)) path with
    | none => -1
    | some (_, r, y) => if r = [] then Dig.digest b (topIn many.toNat y) else -1
  else -1
theorem half_nat (a : Nat) (h : a ≤ 1000) : wrap64 (Int.tdiv (a : Int) 2) = ((a / 2 : Nat) : Int) := by
  rw [Int.tdiv_eq_ediv_of_nonneg (by omega), wr (by omega) (by omega)]
  omega
theorem odd_nat (a : Nat) : Int.tmod (a : Int) 2 = ((a % 2 : Nat) : Int) := by
  rw [Int.tmod_eq_emod_of_nonneg (by omega)]
  omega
theorem ups_le (b : Int) (n size a : Nat) (x : Int) (p : List Int) (h : size ≤ 1) : ups b (n + 1) size a x p = some ([], p, x) := by
  unfold ups
  rw [if_neg (by omega)]
theorem ups_nil (b : Int) (n size a : Nat) (x : Int) (h : 1 < size) (h2 : beside a < size) : ups b (n + 1) size a x [] = none := by
  rw [ups, if_pos h, if_pos h2]
theorem step_okd {b : Int} (hb : 2 ≤ b ∧ b ≤ 60) (a : Nat) (q x : Int) : okd b (Dig.digest b (stepIn a q x)) := by
  by_cases h : a % 2 = 1
  · have e : stepIn a q x = nodeIn q x := if_pos h
    rw [e]
    exact node_okd hb _ _
  · have e : stepIn a q x = nodeIn x q := if_neg h
    rw [e]
    exact node_okd hb _ _
theorem ups_step (b : Int) (n size a : Nat) (x q : Int) (p : List Int) (h : 1 < size) (h2 : beside a < size) : ups b (n + 1) size a x (q :: p) = (ups b n ((size + 1) / 2) (a / 2) (Dig.digest b (stepIn a q x)) p).map fun r => (stepIn a q x :: r.1, r.2) := by
  rw [ups, if_pos h, if_pos h2]
theorem ups_skip (b : Int) (n size a : Nat) (x : Int) (p : List Int) (h : 1 < size) (h2 : ¬ beside a < size) : ups b (n + 1) size a x p = ups b n ((size + 1) / 2) (a / 2) x p := by
  cases p <;> rw [ups, if_pos h, if_neg h2]
theorem xor_one : ∀ a : Fin 16, Go.bits .xor .i64 ((a.val : Nat) : Int) 1 = ((beside a.val : Nat) : Int) := by decide
theorem impl_leafin' {l : List Int} (hl : l.length < 4000) : impl_leafInput.f l = some (0 :: l) := by
  unfold impl_leafInput.f
  rw [Option.bind_some, if_pos (by simp only [List.length_singleton]; omega)]
  rfl
theorem impl_topin {many : Nat} {x : Int} (hm : many ≤ 16) (hx : x ≤ 9223372036854775807) : Ev (fun k => impl_topInput.f k (many : Int) x) (topIn many x) := by
  unfold impl_topInput.f topIn
  have h1 := eightOf_le x
  have e : (many : Int) % 256 = many := by omega
  rw [e]
  exact ev_some (ev_bind (impl_eight hx) (ev_pos (by simp only [List.length_cons, List.length_nil]; omega) (ev_ret rfl)))
theorem rd_last (l : List (List Int)) (x : List Int) (hl : l.length ≤ 1000) : rd_L2 (l ++ [x]) (wrap64 (((l ++ [x]).length : Int) - 1)) = x := by
  have e : wrap64 (((l ++ [x]).length : Int) - 1) = (l.length : Int) := by
    rw [List.length_append, List.length_singleton, wr (by omega) (by omega)]
    omega
  rw [e]
  unfold rd_L2
  rw [Int.toNat_natCast, List.getD_eq_getElem?_getD, List.getElem?_append_right (Nat.le_refl _), Nat.sub_self]
  rfl
theorem last_le (l : List (List Int)) (x : List Int) (hl : l.length ≤ 1000) : 0 ≤ wrap64 (((l ++ [x]).length : Int) - 1) ∧ wrap64 (((l ++ [x]).length : Int) - 1) < ((l ++ [x]).length : Int) := by
  rw [List.length_append, List.length_singleton, wr (by omega) (by omega)]
  omega
/-- What climb answers behind its leaf. -/
def climbEnd (many : Nat) (out : List (List Int)) : Option (List (List Int) × List Int × Int) → List (List Int) × Bool
  | none => ([], false)
  | some (l, r, y) => (out ++ (l ++ [topIn many y]), decide (r = []))
theorem climbEnd_some (many : Nat) (out l : List (List Int)) (r : List Int) (y : Int) : climbEnd many out (some (l, r, y)) = (out ++ (l ++ [topIn many y]), decide (r = [])) := rfl
theorem nil_len (p : List Int) : ((p.length : Int) == 0) = decide (p = []) := by
  cases p with
  | nil => rfl
  | cons x p =>
    rw [decide_eq_false (by simp)]
    simp only [List.length_cons, beq_eq_false_iff_ne]
    omega
theorem climb_l0 {b : Int} (hb : 2 ≤ b ∧ b ≤ 60) (many : Nat) (hm : many ≤ 16) (n : Nat) : ∀ (size a : Nat) (x : Int) (p : List Int) (out : List (List Int)), size ≤ n + 1 → size ≤ 16 → a < 16 → okd b x → (∀ q ∈ p, okd b q) → out.length + n ≤ 100 →
    Ev (fun k => impl_climb.l0 k b (many : Int) (a : Int) p out x (size : Int)) (climbEnd many out (ups b (n + 1) size a x p)) := by
  induction n with
  | zero =>
    intro size a x p out hs _ _ hx hp ho
    refine Ev.step (fun k => impl_climb.l0.eq_2 ..) (ev_neg (by omega) (ev_bind (impl_topin hm (okd_le hx).2) (ev_pos (by omega) (ev_ret ?_))))
    rw [ups_le b 0 size a x p (by omega), climbEnd_some, nil_len, List.nil_append]
  | succ n ih =>
    intro size a x p out hs hs2 ha hx hp ho
    refine Ev.step (fun k => impl_climb.l0.eq_2 ..) ?_
    by_cases h1 : 1 < size
    · have e1 : wrap64 ((size : Int) + 1) = ((size + 1 : Nat) : Int) := wr_succ (by omega)
      rw [e1, half_nat a (by omega), half_nat (size + 1) (by omega), xor_one ⟨a, ha⟩, odd_nat a]
      refine ev_pos (by omega) ?_
      by_cases h2 : beside a < size
      · refine ev_pos (by show ((beside a : Nat) : Int) < size; omega) ?_
        cases p with
        | nil =>
          rw [ups_nil b (n + 1) size a x h1 h2]
          exact ev_pos rfl (ev_ret rfl)
        | cons q p =>
          rw [ups_step b (n + 1) size a x q p h1 h2]
          have hq : okd b q := hp q List.mem_cons_self
          have hp2 : ∀ r ∈ p, okd b r := fun r hr => hp r (List.mem_cons_of_mem _ hr)
          have eq0 : rd (q :: p) 0 = q := rfl
          have ed0 : (q :: p).drop 1 = p := rfl
          rw [eq0, ed0]
          refine ev_neg (by simp only [List.length_cons]; omega) (ev_pos (by simp only [List.length_cons]; omega) ?_)
          have hr := ih ((size + 1) / 2) (a / 2) (Dig.digest b (stepIn a q x)) p (out ++ [stepIn a q x]) (by omega) (by omega) (by omega) (step_okd hb a q x) hp2 (by simp only [List.length_append, List.length_singleton]; omega)
          have hfin : ∀ u, climbEnd many (out ++ [stepIn a q x]) u = climbEnd many out (u.map fun r => (stepIn a q x :: r.1, r.2)) := by
            intro u
            generalize stepIn a q x = s
            cases u with
            | none => rfl
            | some u => obtain ⟨l, r, y⟩ := u; simp [climbEnd]
          rw [hfin] at hr
          by_cases h3 : a % 2 = 1
          · have es : stepIn a q x = nodeIn q x := if_pos h3
            refine ev_pos (by omega) (ev_pos (by simp only [List.length_cons]; omega) (ev_bind (impl_nodein (okd_le hq).2 (okd_le hx).2) ?_))
            rw [es] at hr ⊢
            refine ev_pos (by omega) (ev_some (ev_pos (last_le _ _ (by omega)).1 (ev_pos (last_le _ _ (by omega)).2 (ev_pure (impl_digest b _) ?_))))
            rw [rd_last _ _ (by omega)]
            exact hr
          · have es : stepIn a q x = nodeIn x q := if_neg h3
            refine ev_neg (by omega) (ev_pos (by simp only [List.length_cons]; omega) (ev_bind (impl_nodein (okd_le hx).2 (okd_le hq).2) ?_))
            rw [es] at hr ⊢
            refine ev_pos (by omega) (ev_some (ev_pos (last_le _ _ (by omega)).1 (ev_pos (last_le _ _ (by omega)).2 (ev_pure (impl_digest b _) ?_))))
            rw [rd_last _ _ (by omega)]
            exact hr
      · rw [ups_skip b (n + 1) size a x p h1 h2]
        exact ev_neg (by show ¬ ((beside a : Nat) : Int) < size; omega) (ih ((size + 1) / 2) (a / 2) x p out (by omega) (by omega) (by omega) hx hp (by omega))
    · refine ev_neg (by omega) (ev_bind (impl_topin hm (okd_le hx).2) (ev_pos (by omega) (ev_ret ?_)))
      rw [ups_le b (n + 1) size a x p (by omega), climbEnd_some, nil_len, List.nil_append]
theorem impl_leaves (b : Int) (l : List (List Int)) : impl_leavesOk.f b l = some (decide ((2 ≤ b ∧ b ≤ 60) ∧ 1 ≤ l.length ∧ l.length ≤ 16) && l.all fun x => decide (x.length < 4000)) := rfl
theorem impl_digs (b : Int) (l : List Int) : impl_digests.f b l = some (decide (∀ x ∈ l, okd b x)) := by
  unfold impl_digests.f
  rw [if_pos (List.all_eq_true.2 fun x _ => by rw [impl_isdig]; rfl)]
  congr 1
  rw [Bool.eq_iff_iff, List.all_eq_true]
  simp only [impl_isdig, Option.getD_some, decide_eq_true_eq]
theorem impl_climbed (b many at_ : Int) (leaf path : List Int) : Ev (fun k => impl_climb.f k b many at_ leaf path) (climbed b many at_ leaf path) := by
  unfold impl_climb.f
  have hno : ∀ a : Bool, a = true → ¬ upOk b many at_ leaf path → Ev (fun k => impl_climb.j0 k b many at_ leaf path a) (climbed b many at_ leaf path) := by
    intro a ha h
    subst ha
    unfold climbed
    rw [if_neg h]
    exact Ev.step (fun k => impl_climb.j0.eq_2 ..) (ev_pos rfl (ev_ret rfl))
  refine ev_pure (impl_in_eq _ _ _) ?_
  by_cases h1 : 1 ≤ many ∧ many ≤ 16
  · refine ev_pos (decide_eq_true h1) (ev_pure (impl_in_eq _ _ _) ?_)
    rw [wr (n := many - 1) (by omega) (by omega)]
    by_cases h2 : 0 ≤ at_ ∧ at_ ≤ many - 1
    · refine ev_pos (decide_eq_true h2) (ev_pure (impl_leaves b _) ?_)
      by_cases h3 : (2 ≤ b ∧ b ≤ 60) ∧ leaf.length < 4000
      · refine ev_pos (by simp [h3]) (ev_pure (impl_digs b path) ?_)
        by_cases h4 : ∀ p ∈ path, okd b p
        · have hu : upOk b many at_ leaf path := ⟨h1, ⟨h2.1, by omega⟩, h3.1, h3.2, h4⟩
          have hx := upOk_okd hu
          obtain ⟨m, rfl⟩ := Int.eq_ofNat_of_zero_le (by omega : 0 ≤ many)
          obtain ⟨a, rfl⟩ := Int.eq_ofNat_of_zero_le h2.1
          have hr := climb_l0 h3.1 m (by omega) 15 m a (Dig.digest b (0 :: leaf)) path [0 :: leaf] (by omega) (by omega) (by omega) hx h4 (by simp only [List.length_singleton]; omega)
          refine Ev.step (fun k => impl_climb.j0.eq_2 ..) (ev_neg (by simp; exact h4) (ev_pure (impl_leafin' h3.2) (ev_some (ev_pos (by simp only [List.length_singleton]; omega) (ev_pure (impl_digest b _) ?_)))))
          refine ev_eq hr ?_
          unfold climbed
          rw [if_pos hu, Int.toNat_natCast, Int.toNat_natCast]
          generalize ups b (15 + 1) m a (Dig.digest b (0 :: leaf)) path = u
          cases u with
          | none => rfl
          | some u => rfl
        · exact hno _ (by simp only [decide_eq_false h4]; rfl) (fun h => h4 h.2.2.2.2)
      · refine ev_neg ?_ (hno _ rfl (fun h => h3 ⟨h.2.2.1, h.2.2.2.1⟩))
        simp only [List.all_cons, List.all_nil, Bool.and_true, Bool.and_eq_true, decide_eq_true_eq]
        exact fun h => h3 ⟨h.1.1, h.2⟩
    · exact ev_neg (by simp only [decide_eq_true_eq]; exact h2) (hno _ rfl (fun h => h2 ⟨h.2.1.1, by have := h.2.1.2; omega⟩))
  · exact ev_neg (by simp only [decide_eq_true_eq]; exact h1) (hno _ rfl (fun h => h1 h.1))
theorem ups_length {b : Int} (n : Nat) : ∀ (size a : Nat) (x : Int) (p : List Int) {r}, ups b n size a x p = some r → r.1.length ≤ n := by
  induction n with
  | zero => intro size a x p r h; unfold ups at h; cases h; exact Nat.le_refl _
  | succ n ih =>
    intro size a x p r h
    by_cases h1 : 1 < size
    · by_cases h2 : beside a < size
      · cases p with
        | nil => rw [ups_nil b n size a x h1 h2] at h; cases h
        | cons q p =>
          rw [ups_step b n size a x q p h1 h2] at h
          obtain ⟨r', h1, rfl⟩ := Option.map_eq_some_iff.1 h
          have := ih _ _ _ _ h1
          simp only [List.length_cons]
          omega
      · rw [ups_skip b n size a x p h1 h2] at h
        have := ih _ _ _ _ h
        omega
    · rw [ups_le b n size a x p (by omega)] at h
      cases h
      exact Nat.zero_le _
theorem impl_root (b many at_ : Int) (leaf path : List Int) : Ev (fun k => impl_RootFrom.f k b many at_ leaf path) (rootFrom b many at_ leaf path) := by
  unfold impl_RootFrom.f
  refine ev_bind (impl_climbed b many at_ leaf path) (ev_pure (a := rootFrom b many at_ leaf path) ?_ (ev_ret rfl))
  unfold climbed rootFrom impl_lastOf.f
  by_cases hu : upOk b many at_ leaf path
  · rw [if_pos hu, if_pos hu]
    have hl := fun r => @ups_length b 16 many.toNat at_.toNat (Dig.digest b (0 :: leaf)) path r
    generalize ups b 16 many.toNat at_.toNat (Dig.digest b (0 :: leaf)) path = u at hl ⊢
    cases u with
    | none => rfl
    | some u =>
      obtain ⟨l, r, y⟩ := u
      have hl := hl _ rfl
      simp only at hl
      simp only []
      by_cases hr : r = []
      · have e1 := rd_last ((0 :: leaf) :: l) (topIn many.toNat y) (by simp only [List.length_cons]; omega)
        have e2 := last_le ((0 :: leaf) :: l) (topIn many.toNat y) (by simp only [List.length_cons]; omega)
        rw [List.cons_append] at e1 e2
        rw [if_pos (decide_eq_true hr), if_pos e2.1, if_pos e2.2, e1, impl_digest, if_pos hr]
        rfl
      · rw [if_neg (by simp [hr]), if_neg hr]
  · rw [if_neg hu, if_neg hu]
    rfl
theorem spec_leaf' (b : Int) {l : List Int} (hl : l.length < 4000) : Ev (fun k => spec_LeafOf.f k b l) (Dig.digest b (0 :: l)) := by
  unfold spec_LeafOf.f
  refine ev_pure (a := 0 :: l) ?_ (ev_bind (spec_digest b (0 :: l)) (ev_ret rfl))
  unfold spec_l2Leaf.f
  rw [Option.bind_some, if_pos (by simp only [List.length_singleton]; omega)]
  rfl
theorem spec_topin {many : Nat} {x : Int} (hm : many ≤ 16) (hx : x ≤ 9223372036854775807) : Ev (fun k => spec_l2Top.f k (many : Int) x) (topIn many x) := by
  unfold spec_l2Top.f topIn
  have h1 := eightOf_le x
  have e : (many : Int) % 256 = many := by omega
  rw [e]
  exact ev_some (ev_bind (spec_eight hx) (ev_pos (by simp only [List.length_cons, List.length_nil]; omega) (ev_ret rfl)))
theorem beside_eq (a : Nat) (h : a ≤ 100) : wrap64 ((wrap64 ((a : Int) + 1)) - (wrap64 (2 * (Int.tmod (a : Int) 2)))) = ((beside a : Nat) : Int) := by
  rw [odd_nat, wr (n := (a : Int) + 1) (by omega) (by omega), wr (n := 2 * ((a % 2 : Nat) : Int)) (by omega) (by omega), wr (by omega) (by omega)]
  unfold beside
  split <;> omega
/-- What the reference answers at the end of its way. -/
def rootEnd (b : Int) (many : Nat) : Option (List (List Int) × List Int × Int) → Int
  | none => -1
  | some (_, r, y) => if r = [] then Dig.digest b (topIn many y) else -1
theorem rootEnd_some (b : Int) (many : Nat) (l : List (List Int)) (r : List Int) (y : Int) : rootEnd b many (some (l, r, y)) = if r = [] then Dig.digest b (topIn many y) else -1 := rfl
theorem rootEnd_map (b : Int) (many : Nat) (i : List Int) (u : Option (List (List Int) × List Int × Int)) : rootEnd b many (u.map fun r => (i :: r.1, r.2)) = rootEnd b many u := by
  cases u with
  | none => rfl
  | some u => obtain ⟨l, r, y⟩ := u; rfl
theorem ite_iff {p q : Prop} [Decidable p] [Decidable q] (h : p ↔ q) (a b : Int) : (if p then a else b) = if q then a else b := by
  by_cases hq : q
  · rw [if_pos hq, if_pos (h.2 hq)]
  · rw [if_neg hq, if_neg (fun k => hq (h.1 k))]
theorem root_l0 {b : Int} (hb : 2 ≤ b ∧ b ≤ 60) (many : Nat) (hm : many ≤ 16) (path : List Int) (hpl : path.length ≤ 1048576) (n : Nat) : ∀ (size a : Nat) (x : Int) (p : List Int) (u : Nat), size ≤ n + 1 → size ≤ 16 → a < 16 → okd b x → path.drop u = p → u ≤ path.length →
    Ev (fun k => spec_RootFrom.l0 k b (many : Int) (a : Int) path x (u : Int) (size : Int)) (if ∀ q ∈ p, okd b q then rootEnd b many (ups b (n + 1) size a x p) else -1) := by
  have hend : ∀ (size a : Nat) (x : Int) (p : List Int) (u : Nat), size ≤ 1 → okd b x → path.drop u = p → u ≤ path.length → Ev (fun k => spec_RootFrom.l0 k b (many : Int) (a : Int) path x (u : Int) (size : Int)) (if ∀ q ∈ p, okd b q then (if p = [] then Dig.digest b (topIn many x) else -1) else -1) := by
    intro size a x p u hs hx hp hu
    refine Ev.step (fun k => spec_RootFrom.l0.eq_2 ..) (ev_neg (by omega) ?_)
    have hpl := congrArg List.length hp
    rw [List.length_drop] at hpl
    by_cases h : u = path.length
    · have : p = [] := List.length_eq_zero_iff.1 (by omega)
      subst this
      rw [if_pos (by simp), if_pos rfl]
      exact ev_pos (by omega) (ev_bind (spec_topin hm (okd_le hx).2) (ev_bind (spec_digest b _) (ev_ret rfl)))
    · have hne : p ≠ [] := fun e => by subst e; simp only [List.length_nil] at hpl; omega
      rw [if_neg hne, ite_self]
      exact ev_neg (by omega) (ev_ret rfl)
  induction n with
  | zero =>
    intro size a x p u hs _ _ hx hp hu
    rw [ups_le b 0 size a x p (by omega), rootEnd_some]
    exact hend size a x p u (by omega) hx hp hu
  | succ n ih =>
    intro size a x p u hs hs2 ha hx hp hu
    by_cases h1 : 1 < size
    · have s1 : (size + 1) / 2 ≤ n + 1 := by omega
      have s2 : (size + 1) / 2 ≤ 16 := by omega
      have s3 : a / 2 < 16 := by omega
      refine Ev.step (fun k => spec_RootFrom.l0.eq_2 ..) ?_
      have e1 : wrap64 ((size : Int) + 1) = ((size + 1 : Nat) : Int) := wr_succ (by omega)
      have hh1 : ∀ _ : Unit, wrap64 (Int.tdiv (a : Int) 2) = ((a / 2 : Nat) : Int) := fun _ => half_nat a (by omega)
      have hh2 : ∀ _ : Unit, wrap64 (Int.tdiv ((size + 1 : Nat) : Int) 2) = (((size + 1) / 2 : Nat) : Int) := fun _ => half_nat (size + 1) (by omega)
      rw [e1, hh1 (), hh2 (), beside_eq a (by omega)]
      refine ev_pos (by omega) ?_
      have hpl2 := congrArg List.length hp
      rw [List.length_drop] at hpl2
      by_cases h2 : beside a < size
      · refine ev_pos (by omega) ?_
        cases p with
        | nil =>
          simp only [List.length_nil] at hpl2
          rw [if_pos (by simp), ups_nil b (n + 1) size a x h1 h2]
          exact ev_pos (by omega) (Ev.step (fun k => spec_RootFrom.j2.eq_2 ..) (ev_pos rfl (ev_ret rfl)))
        | cons q p =>
          simp only [List.length_cons] at hpl2
          have s4 : u + 1 ≤ path.length := by omega
          have hu1 : (0 : Int) ≤ u := by omega
          have hu2 : (u : Int) < path.length := by omega
          have hu3 : ¬ (u : Int) = (path.length : Int) := by omega
          rw [ups_step b (n + 1) size a x q p h1 h2, rootEnd_map]
          have hq : rd path (u : Int) = q := by
            rw [rd_nat, List.getD_eq_getElem?_getD, ← List.head?_drop, hp]
            rfl
          have hp' : path.drop (u + 1) = p := by
            rw [← List.drop_drop, hp]
            rfl
          refine ev_neg hu3 (ev_pos hu1 (ev_pos hu2 (ev_pure (spec_isdig b _) (Ev.step (fun k => spec_RootFrom.j2.eq_2 ..) ?_))))
          rw [hq]
          by_cases hqd : okd b q
          · have hall : (∀ r ∈ q :: p, okd b r) ↔ ∀ r ∈ p, okd b r := by simp [hqd]
            have e2 : wrap64 ((u : Int) + 1) = ((u + 1 : Nat) : Int) := wr_succ (by omega)
            have hpar : beside a > a ↔ ¬ a % 2 = 1 := by
              unfold beside
              split <;> omega
            have hr := ih ((size + 1) / 2) (a / 2) (Dig.digest b (stepIn a q x)) p (u + 1) s1 s2 s3 (step_okd hb a q x) hp' s4
            rw [e2, e1, hh1 (), hh2 ()]
            clear ih hend hpl2 hp hp'
            rw [ite_iff hall]
            refine ev_neg (by simp [hqd]) ?_
            by_cases h3 : a % 2 = 1
            · have es : stepIn a q x = nodeIn q x := if_pos h3
              have hn := spec_node b q x
              unfold node at hn
              rw [if_pos ⟨hqd, hx⟩] at hn
              rw [es] at hr ⊢
              have hlt : ¬ ((beside a : Nat) : Int) > (a : Int) := by omega
              exact ev_neg hlt (ev_pos hu1 (ev_pos hu2 (ev_bind hn hr)))
            · have es : stepIn a q x = nodeIn x q := if_neg h3
              have hn := spec_node b x q
              unfold node at hn
              rw [if_pos ⟨hx, hqd⟩] at hn
              rw [es] at hr ⊢
              have hlt : ((beside a : Nat) : Int) > (a : Int) := by omega
              exact ev_pos hlt (ev_pos hu1 (ev_pos hu2 (ev_bind hn hr)))
          · rw [if_neg (fun h => hqd (h q List.mem_cons_self))]
            exact ev_pos (by simp [hqd]) (ev_ret rfl)
      · rw [ups_skip b (n + 1) size a x p h1 h2]
        exact ev_neg (by omega) (ih ((size + 1) / 2) (a / 2) x p u (by omega) (by omega) (by omega) hx hp hu)
    · rw [ups_le b (n + 1) size a x p (by omega), rootEnd_some]
      exact hend size a x p u (by omega) hx hp hu
theorem spec_root (b many at_ : Int) (leaf path : List Int) (hpl : path.length ≤ 1048576) : Ev (fun k => spec_RootFrom.f k b many at_ leaf path) (rootFrom b many at_ leaf path) := by
  unfold spec_RootFrom.f
  have hno : ∀ a : Bool, a = true → ¬ upOk b many at_ leaf path → Ev (fun k => spec_RootFrom.j0 k b many at_ leaf path a) (rootFrom b many at_ leaf path) := by
    intro a ha h
    subst ha
    unfold rootFrom
    rw [if_neg h]
    exact Ev.step (fun k => spec_RootFrom.j0.eq_2 ..) (ev_pos rfl (ev_ret rfl))
  refine ev_pure (spec_in_eq _ _ _) ?_
  by_cases h0 : 2 ≤ b ∧ b ≤ 60
  · refine ev_pos (decide_eq_true h0) (ev_pure (spec_in_eq _ _ _) ?_)
    by_cases h1 : 1 ≤ many ∧ many ≤ 16
    · refine ev_pos (decide_eq_true h1) (ev_pure (spec_in_eq _ _ _) ?_)
      rw [wr (n := many - 1) (by omega) (by omega)]
      by_cases h2 : 0 ≤ at_ ∧ at_ ≤ many - 1
      · refine ev_pos (decide_eq_true h2) ?_
        by_cases h3 : leaf.length < 4000
        · refine Ev.step (fun k => spec_RootFrom.j0.eq_2 ..) (ev_neg (by simp only [decide_eq_true_eq]; omega) (ev_bind (spec_leaf' b h3) ?_))
          obtain ⟨m, rfl⟩ := Int.eq_ofNat_of_zero_le (by omega : 0 ≤ many)
          obtain ⟨a, rfl⟩ := Int.eq_ofNat_of_zero_le h2.1
          have hx : okd b (Dig.digest b (0 :: leaf)) := ⟨h0, Dig.digest_range h0.1 h0.2 (by simp only [List.length_cons]; omega)⟩
          have hr := root_l0 h0 m (by omega) path hpl 15 m a (Dig.digest b (0 :: leaf)) path 0 (by omega) (by omega) (by omega) hx rfl (Nat.zero_le _)
          refine ev_eq hr ?_
          unfold rootFrom
          rw [Int.toNat_natCast, Int.toNat_natCast]
          by_cases h4 : ∀ q ∈ path, okd b q
          · have hu : upOk b m a leaf path := ⟨h1, ⟨h2.1, by omega⟩, h0, h3, h4⟩
            rw [if_pos h4, if_pos hu]
            generalize ups b (15 + 1) m a (Dig.digest b (0 :: leaf)) path = u
            cases u with
            | none => rfl
            | some u => rfl
          · rw [if_neg h4, if_neg (fun h => h4 h.2.2.2.2)]
        · exact hno _ (by simp only [decide_eq_true_eq]; omega) (fun h => h3 h.2.2.2.1)
      · exact ev_neg (by simp only [decide_eq_true_eq]; exact h2) (hno _ rfl (fun h => h2 ⟨h.2.1.1, by have := h.2.1.2; omega⟩))
    · exact ev_neg (by simp only [decide_eq_true_eq]; exact h1) (hno _ rfl (fun h => h1 h.1))
  · exact ev_neg (by simp only [decide_eq_true_eq]; exact h0) (hno _ rfl (fun h => h0 h.2.2.1))
theorem rootFrom_ge (b many at_ : Int) (l p : List Int) : -1 ≤ rootFrom b many at_ l p := by
  unfold rootFrom
  split
  · generalize ups b 16 many.toNat at_.toNat (Dig.digest b (0 :: l)) p = u
    cases u with
    | none => exact Int.le_refl _
    | some u =>
      obtain ⟨x, r, y⟩ := u
      simp only []
      by_cases hr : r = []
      · rw [if_pos hr]
        have h := Dig.digest_cases b (topIn many.toNat y)
        generalize Dig.digest b (topIn many.toNat y) = d at h ⊢
        omega
      · rw [if_neg hr]
        exact Int.le_refl _
  · exact Int.le_refl _
theorem FnExactProven : laws_FnExactProven.Pure := by
  intro b root many at_ l p
  intros
  refine Ev.rounds ?_
  unfold laws_FnExactProven.f
  by_cases h : (l.length : Int) > 1048576
  · exact ev_pos h (ev_ret rfl)
  by_cases h2 : (p.length : Int) > 1048576
  · exact ev_neg h (ev_pos h2 (ev_ret rfl))
  have ht := toByteS l (by omega)
  have hp := toIntS p (by omega)
  have hg := rootFrom_ge b many at_ l p
  have hs := spec_root b many at_ l p (by omega)
  have hi := impl_root b many at_ l p
  generalize rootFrom b many at_ l p = x at hg hs hi
  have hs2 : Ev (fun k => spec_Proven.f k b root many at_ l p) (decide (0 ≤ x ∧ x = root)) := by
    unfold spec_Proven.f
    refine ev_bind hs ?_
    by_cases h0 : x ≥ 0
    · exact ev_pos h0 (ev_ret (by rw [Bool.eq_iff_iff]; simp only [beq_iff_eq, decide_eq_true_eq]; omega))
    · exact ev_neg h0 (ev_ret (decide_eq_false (by omega)).symm)
  have hi2 : Ev (fun k => impl_Proven.f k b root many at_ l p) (decide (0 ≤ x ∧ x = root)) := by
    unfold impl_Proven.f
    by_cases h0 : root = -1
    · exact ev_pos h0 (ev_ret (decide_eq_false (by omega)).symm)
    · exact ev_neg h0 (ev_bind hi (ev_ret (by rw [Bool.eq_iff_iff]; simp only [beq_iff_eq, decide_eq_true_eq]; omega)))
  generalize decide (0 ≤ x ∧ x = root) = o at hs2 hi2
  refine ev_neg h (ev_neg h2 (ev_bind ht (ev_bind hp (ev_bind hs2 (ev_bind ht (ev_bind hp (ev_bind hi2 (ev_neg (by simp) ?_))))))))
  exact ev_bind ht (ev_bind (eqByteS l (by omega)) (ev_pos rfl (ev_bind hp (ev_bind (eqIntS p (by omega)) (ev_pos rfl (ev_ret rfl))))))

end Go.Proofs.Ytaacidhgnappdaa.Pure
