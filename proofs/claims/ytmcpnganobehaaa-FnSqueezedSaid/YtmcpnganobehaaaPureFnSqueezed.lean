/- Of what is squeezed out of drawn bytes the first is the digest, each has its bits, and fewer are the beginning of more: for every text of bytes. -/
import Derived.Test.YtmcpnganobehaaaPFnSqueezedx5
import Derived.Test.YtmcpnganobehaaaKit
import Derived.Test.YtmcpnganobehaaaDig
namespace Go.Proofs.Ytmcpnganobehaaa.Pure
open Go.RowKit Go.Proofs.Ytmcpnganobehaaa Go.Proofs.Ytmcpnganobehaaa.PFnSqueezed Go.Proofs.YtmcpnganobehaaaW.PrintWords Go.Proofs.YtmcpnganobehaaaW.PrintLast Go.Proofs.YtmcpnganobehaaaW.PrintMore Go.Proofs.Ytmcpnganobehaaa.K
set_option linter.unusedVariables false

theorem and_bits_lt (x : Int) (j : Nat) (hj : j ≤ 62) (y : Int) (hy : y = ((2 ^ j - 1 : Nat) : Int)) : 0 ≤ Go.bits .and .i64 x y ∧ Go.bits .and .i64 x y < 2 ^ j := by
  subst hy
  have hp : 0 < 2 ^ j := Nat.two_pow_pos j
  have hle : (BitVec.ofInt 64 x &&& BitVec.ofInt 64 ((2 ^ j - 1 : Nat) : Int)).toNat ≤ 2 ^ j - 1 := by
    rw [BitVec.toNat_and, BitVec.ofInt_natCast, BitVec.toNat_ofNat]
    exact Nat.le_trans Nat.and_le_right (Nat.mod_le _ _)
  have h62 : 2 ^ j ≤ 2 ^ 62 := Nat.pow_le_pow_right (by decide) hj
  have e62 : (2 : Nat) ^ 62 = 4611686018427387904 := by decide
  have ec : (2 : Int) ^ j = ((2 ^ j : Nat) : Int) := by simp
  have h0 : (0 : Int) ≤ (((BitVec.ofInt 64 x &&& BitVec.ofInt 64 ((2 ^ j - 1 : Nat) : Int)).toNat : Nat) : Int) := Int.natCast_nonneg _
  have h1 : (((BitVec.ofInt 64 x &&& BitVec.ofInt 64 ((2 ^ j - 1 : Nat) : Int)).toNat : Nat) : Int) < 2 ^ 63 := by
    have : (2 : Int) ^ 63 = 9223372036854775808 := by decide
    omega
  have e : Go.bits .and .i64 x ((2 ^ j - 1 : Nat) : Int) = (((BitVec.ofInt 64 x &&& BitVec.ofInt 64 ((2 ^ j - 1 : Nat) : Int)).toNat : Nat) : Int) := wraps_i64 _ h0 h1
  rw [e, ec]
  omega
theorem and255 (x : Int) : 0 ≤ Go.bits .and .i64 x 255 ∧ Go.bits .and .i64 x 255 < 256 := by
  have := and_bits_lt x 8 (by decide) 255 (by decide)
  simpa using this
/-- Where a cursor stands: inside its bytes. -/
def Cur (b : List Int) (i : Int) : Prop := 0 ≤ i ∧ i ≤ b.length ∧ b.length ≤ 1048576
theorem d_new (l : List Int) (hl : l.length ≤ 1048576) : ∃ h, Ev (fun k => spec_l1New.f k l) (l, 0, h) := by
  have key : ∀ (n i : Nat) (h : Int), i + n = l.length → ∃ h', Ev (fun k => spec_l1New.l0 k l h (i : Int)) (l, 0, h') := by
    intro n
    induction n with
    | zero =>
      intro i h hi
      exact ⟨h, Ev.step (fun k => spec_l1New.l0.eq_2 ..) (ev_neg (by omega) (ev_ret rfl))⟩
    | succ n ih =>
      intro i h hi
      by_cases h4 : (i : Int) < 4000
      · obtain ⟨h', e⟩ := ih (i + 1) _ (by omega)
        refine ⟨h', Ev.step (fun k => spec_l1New.l0.eq_2 ..) (ev_pos (by omega) (ev_pos h4 (ev_pos (by omega) ?_)))⟩
        rw [wr_succ (by omega)]
        exact e
      · exact ⟨h, Ev.step (fun k => spec_l1New.l0.eq_2 ..) (ev_pos (by omega) (ev_neg h4 (ev_ret rfl)))⟩
  obtain ⟨h, e⟩ := key l.length 0 (wrap64 (88088 + (l.length : Int))) (Nat.zero_add _)
  exact ⟨h, e⟩
theorem d_cur {l : List Int} (hl : l.length ≤ 1048576) : Cur l 0 := ⟨Int.le_refl _, by omega, hl⟩
theorem d_byte {b : List Int} {i : Int} (h : Int) (hc : Cur b i) : ∃ v i' h', spec_l1Byte.f b i h = some (v, i', h') ∧ 0 ≤ v ∧ v < 256 ∧ Cur b i' := by
  obtain ⟨h0, h1, h2⟩ := hc
  unfold spec_l1Byte.f
  by_cases hi : i < (b.length : Int)
  · rw [if_pos hi, if_pos h0]
    exact ⟨_, _, _, rfl, (and255 _).1, (and255 _).2, by rw [wr (by omega) (by omega)]; omega, by rw [wr (by omega) (by omega)]; omega, h2⟩
  · rw [if_neg hi]
    exact ⟨_, _, _, rfl, (and255 _).1, (and255 _).2, h0, h1, h2⟩
theorem d_below {b : List Int} {i : Int} (h : Int) (hc : Cur b i) (n : Int) (hn : n ≤ 1000000) : ∃ v i' h', spec_l1Below.f b i h n = some (v, i', h') ∧ 0 ≤ v ∧ (v < n ∨ v = 0) ∧ Cur b i' := by
  unfold spec_l1Below.f
  by_cases h0 : n ≤ 0
  · rw [if_pos h0]
    exact ⟨_, _, _, rfl, Int.le_refl _, .inr rfl, hc⟩
  rw [if_neg h0]
  obtain ⟨v, i1, h1, e1, v0, v1, c1⟩ := d_byte h hc
  by_cases h256 : n ≤ 256
  · rw [if_pos h256, e1, Option.bind_some, if_neg (by omega)]
    refine ⟨_, _, _, rfl, ?_, .inl ?_, c1⟩
    · rw [Int.tmod_eq_emod_of_nonneg v0]; exact Int.emod_nonneg _ (by omega)
    · rw [Int.tmod_eq_emod_of_nonneg v0]; exact Int.emod_lt_of_pos _ (by omega)
  · rw [if_neg h256, e1, Option.bind_some]
    obtain ⟨x, i2, h2, e2, x0, x1, c2⟩ := d_byte h1 c1
    rw [e2, Option.bind_some]
    obtain ⟨y, i3, h3, e3, y0, y1, c3⟩ := d_byte h2 c2
    rw [e3, Option.bind_some]
    obtain ⟨z, i4, h4, e4, z0, z1, c4⟩ := d_byte h3 c3
    rw [e4, Option.bind_some, if_neg (by omega)]
    have ew : wrap64 ((wrap64 ((wrap64 ((wrap64 (v * 16777216)) + (wrap64 (x * 65536)))) + (wrap64 (y * 256)))) + z) = v * 16777216 + x * 65536 + y * 256 + z := by
      rw [wr (n := v * 16777216) (by omega) (by omega), wr (n := x * 65536) (by omega) (by omega), wr (n := v * 16777216 + x * 65536) (by omega) (by omega), wr (n := y * 256) (by omega) (by omega), wr (n := v * 16777216 + x * 65536 + y * 256) (by omega) (by omega), wr (by omega) (by omega)]
    refine ⟨_, _, _, rfl, ?_, .inl ?_, c4⟩
    · show 0 ≤ Int.tmod (wrap64 ((wrap64 ((wrap64 ((wrap64 (v * 16777216)) + (wrap64 (x * 65536)))) + (wrap64 (y * 256)))) + z)) n
      rw [ew, Int.tmod_eq_emod_of_nonneg (by omega)]
      exact Int.emod_nonneg _ (by omega)
    · show Int.tmod (wrap64 ((wrap64 ((wrap64 ((wrap64 (v * 16777216)) + (wrap64 (x * 65536)))) + (wrap64 (y * 256)))) + z)) n < n
      rw [ew, Int.tmod_eq_emod_of_nonneg (by omega)]
      exact Int.emod_lt_of_pos _ (by omega)
theorem d_once {b : List Int} {i : Int} (h : Int) (hc : Cur b i) (n : Int) (hn : n ≤ 1000000) : ∃ v i' h', spec_l1Once.f b i h n = some (v, i', h') ∧ Cur b i' := by
  obtain ⟨v, i', h', e, _, _, c⟩ := d_below h hc n hn
  unfold spec_l1Once.f
  rw [e, Option.bind_some]
  exact ⟨_, _, _, rfl, c⟩
theorem d_pick {b : List Int} {i : Int} (h : Int) (hc : Cur b i) (l : List Int) (h0 : 0 < l.length) (h1 : l.length ≤ 100) : ∃ v i' h', spec_l1PickInt.f b i h l = some (v, i', h') ∧ v ∈ l ∧ Cur b i' := by
  obtain ⟨v, i', h', e, v0, v1, c⟩ := d_below h hc (l.length : Int) (by omega)
  unfold spec_l1PickInt.f
  rw [e, Option.bind_some]
  have hv : v < (l.length : Int) := by omega
  rw [if_pos v0, if_pos hv]
  refine ⟨_, _, _, rfl, ?_, c⟩
  show rd l v ∈ l
  unfold rd
  rw [List.getD_eq_getElem?_getD, List.getElem?_eq_getElem (by omega)]
  exact List.getElem_mem _
theorem d_bits {b : List Int} {i : Int} (h : Int) (hc : Cur b i) : ∃ v i' h', spec_l1DrawBits.f b i h = some (v, i', h') ∧ (-1 ≤ v ∧ v ≤ 64) ∧ Cur b i' := by
  obtain ⟨o, i1, h1, e1, c1⟩ := d_once h hc 20 (by decide)
  unfold spec_l1DrawBits.f
  rw [e1, Option.bind_some]
  by_cases ho : o = true
  · obtain ⟨v, i2, h2, e2, hv, c2⟩ := d_pick h1 c1 [-1, 1, 61, 64] (by decide) (by decide)
    rw [if_pos ho, e2, Option.bind_some]
    refine ⟨v, i2, h2, rfl, ?_, c2⟩
    simp only [List.mem_cons, List.not_mem_nil, or_false] at hv
    rcases hv with rfl | rfl | rfl | rfl <;> decide
  · obtain ⟨v, i2, h2, e2, hv, c2⟩ := d_pick h1 c1 [2, 3, 4, 8, 16, 32, 60, 5] (by decide) (by decide)
    rw [if_neg ho, e2, Option.bind_some]
    refine ⟨v, i2, h2, rfl, ?_, c2⟩
    simp only [List.mem_cons, List.not_mem_nil, or_false] at hv
    rcases hv with rfl | rfl | rfl | rfl | rfl | rfl | rfl | rfl <;> decide
theorem d_data {b : List Int} {i : Int} (h : Int) (hc : Cur b i) (n : Nat) (hn : n ≤ 1000) : ∃ l i' h', Ev (fun k => spec_l1DrawData.f k b i h (n : Int)) (l, i', h') ∧ l.length ≤ n ∧ (∀ x ∈ l, 0 ≤ x ∧ x < 256) ∧ Cur b i' := by
  have key : ∀ (m : Nat) (o : List Int) (i h : Int), o.length + m ≤ 1000 → Cur b i → (∀ x ∈ o, 0 ≤ x ∧ x < 256) → ∃ l i' h', Ev (fun k => spec_l1DrawData.l0 k o (m : Int) b i h) (l, i', h') ∧ l.length = o.length + m ∧ (∀ x ∈ l, 0 ≤ x ∧ x < 256) ∧ Cur b i' := by
    intro m
    induction m with
    | zero =>
      intro o i h ho hc hb
      exact ⟨o, i, h, Ev.step (fun k => spec_l1DrawData.l0.eq_2 ..) (ev_neg (by omega) (ev_ret rfl)), rfl, hb, hc⟩
    | succ m ih =>
      intro o i h ho hc hb
      obtain ⟨v, i1, h1, e1, v0, v1, c1⟩ := d_byte h hc
      have ev : v % 256 = v := by omega
      obtain ⟨l, i2, h2, e2, hl, hx, c2⟩ := ih (o ++ [v]) i1 h1 (by simp only [List.length_append, List.length_singleton]; omega) c1 (by
        intro x hx
        rcases List.mem_append.1 hx with hx | hx
        · exact hb x hx
        · rw [List.mem_singleton.1 hx]; exact ⟨v0, v1⟩)
      refine ⟨l, i2, h2, Ev.step (fun k => spec_l1DrawData.l0.eq_2 ..) (ev_pos (by omega) (ev_pure e1 (ev_pos (by omega) ?_))), by rw [hl, List.length_append, List.length_singleton]; omega, hx, c2⟩
      have ew : wrap64 (((m + 1 : Nat) : Int) - 1) = (m : Int) := by rw [wr (by omega) (by omega)]; omega
      rw [ew]
      show Ev (fun k => spec_l1DrawData.l0 k (o ++ [v % 256]) (m : Int) b i1 h1) _
      rw [ev]
      exact e2
  obtain ⟨v, i1, h1, e1, v0, v1, c1⟩ := d_below h hc (n : Int) (by omega)
  obtain ⟨m, rfl⟩ := Int.eq_ofNat_of_zero_le v0
  obtain ⟨l, i2, h2, e2, hl, hx, c2⟩ := key m [] i1 h1 (by simp; omega) c1 (by simp)
  refine ⟨l, i2, h2, ?_, by rw [hl]; simp; omega, hx, c2⟩
  unfold spec_l1DrawData.f
  exact ev_pure e1 e2
theorem digest_a (a0 : Int) (l : List Int) (h1 : 2 ≤ a0 ∧ a0 ≤ 60) (h2 : l.length ≤ 4000) : impl_Squeeze.f a0 l 1 = some ([Dig.out a0 (Dig.rnds 6 (Dig.taken l))], true) := by
  unfold impl_Squeeze.f
  rw [if_pos h1, if_pos h2, if_pos (by decide)]
  generalize Dig.rnds 6 (Dig.taken l) = s
  simp only [Int.toNat_one, Dig.squeeze]
theorem digest_b (a0 : Int) (l : List Int) (h : ¬ ((2 ≤ a0 ∧ a0 ≤ 60) ∧ l.length ≤ 4000)) : impl_Squeeze.f a0 l 1 = some ([], false) := by
  unfold impl_Squeeze.f
  by_cases h1 : 2 ≤ a0 ∧ a0 ≤ 60
  · rw [if_pos h1, if_neg (fun h2 => h ⟨h1, h2⟩)]
  · rw [if_neg h1]
theorem digest_fin (x : Int) : ((some ([x], true) : Option (List Int × Bool)).bind fun bt => (if bt.2 = true then (if 0 < (bt.1.length : Int) then (some (rd bt.1 0)) else (none)) else (some (-1)))) = some x := by
  rw [Option.bind_some, if_pos rfl, if_pos (by simp)]
  rfl
theorem digest_non : ((some ([], false) : Option (List Int × Bool)).bind fun bt => (if bt.2 = true then (if 0 < (bt.1.length : Int) then (some (rd bt.1 0)) else (none)) else (some (-1)))) = some (-1) := by
  rw [Option.bind_some, if_neg (by simp)]
theorem impl_digest (a0 : Int) (l : List Int) : impl_Digest.f a0 l = some (Dig.digest a0 l) := by
  unfold impl_Digest.f
  by_cases h1 : 2 ≤ a0 ∧ a0 ≤ 60
  · by_cases h2 : l.length ≤ 4000
    · have e : Dig.digest a0 l = Dig.out a0 (Dig.rnds 6 (Dig.taken l)) := by
        unfold Dig.digest
        rw [if_pos h1, if_pos h2]
      rw [digest_a a0 l h1 h2, e]
      exact digest_fin _
    · have e : Dig.digest a0 l = -1 := by
        unfold Dig.digest
        rw [if_pos h1, if_neg h2]
      rw [digest_b a0 l (fun h => h2 h.2), e]
      exact digest_non
  · have e : Dig.digest a0 l = -1 := by
      unfold Dig.digest
      rw [if_neg h1]
    rw [digest_b a0 l (fun h => h1 h.1), e]
    exact digest_non

theorem spec_turn13 (x : Int) : spec_l1Turn.f x 13 = some (Dig.r13 x) := by
  have e : wrap64 (64 - 13) = 51 := by unfold wrap64; decide
  unfold spec_l1Turn.f
  rw [e, if_pos (by decide), if_pos (by decide)]
  have e1 : shl .u64 x 13 = IntKind.u64.wrap (x * 8192) := by
    unfold shl
    rw [show (2 : Int) ^ min (13 : Int).toNat IntKind.u64.bits = 8192 by decide]
  have e2 : shr .u64 x 51 = x / 2251799813685248 := by
    unfold shr
    rw [show (2 : Int) ^ min (51 : Int).toNat IntKind.u64.bits = 2251799813685248 by decide]
  rw [e1, e2]
  rfl
theorem spec_turn29 (x : Int) : spec_l1Turn.f x 29 = some (Dig.r29 x) := by
  have e : wrap64 (64 - 29) = 35 := by unfold wrap64; decide
  unfold spec_l1Turn.f
  rw [e, if_pos (by decide), if_pos (by decide)]
  have e1 : shl .u64 x 29 = IntKind.u64.wrap (x * 536870912) := by
    unfold shl
    rw [show (2 : Int) ^ min (29 : Int).toNat IntKind.u64.bits = 536870912 by decide]
  have e2 : shr .u64 x 35 = x / 34359738368 := by
    unfold shr
    rw [show (2 : Int) ^ min (35 : Int).toNat IntKind.u64.bits = 34359738368 by decide]
  rw [e1, e2]
  rfl
theorem spec_turn41 (x : Int) : spec_l1Turn.f x 41 = some (Dig.r41 x) := by
  have e : wrap64 (64 - 41) = 23 := by unfold wrap64; decide
  unfold spec_l1Turn.f
  rw [e, if_pos (by decide), if_pos (by decide)]
  have e1 : shl .u64 x 41 = IntKind.u64.wrap (x * 2199023255552) := by
    unfold shl
    rw [show (2 : Int) ^ min (41 : Int).toNat IntKind.u64.bits = 2199023255552 by decide]
  have e2 : shr .u64 x 23 = x / 8388608 := by
    unfold shr
    rw [show (2 : Int) ^ min (23 : Int).toNat IntKind.u64.bits = 8388608 by decide]
  rw [e1, e2]
  rfl
theorem spec_round (a b c : Int) : spec_l1Round.f a b c = some (Dig.rnd (a, b, c)) := by
  unfold spec_l1Round.f
  simp only [spec_turn13, spec_turn29, spec_turn41, Option.bind_some, Dig.rnd0_left, Dig.rnd1_left, Dig.rnd2_left]
  rfl
theorem spec_out_l0 (bits : Int) (hb : 0 ≤ bits) (m : Nat) (hm : m ≤ 1000) (n : Nat) : ∀ (i : Nat) (a b c : Int), i + n = m →
    Ev (fun k => spec_l1Out.l0 k bits (m : Int) (i : Int) a b c) (Dig.out bits (Dig.rnds n (a, b, c))) := by
  induction n with
  | zero =>
    intro i a b c hi
    refine Ev.step (fun k => spec_l1Out.l0.eq_2 ..) ?_
    exact ev_neg (by omega) (ev_pos hb (ev_ret rfl))
  | succ n ih =>
    intro i a b c hi
    refine Ev.step (fun k => spec_l1Out.l0.eq_2 ..) ?_
    refine ev_pos (by omega) (ev_pure (spec_round a b c) ?_)
    rw [wr_succ (by omega)]
    exact ih (i + 1) _ _ _ (by omega)
theorem spec_out {bits : Int} (hb : 0 ≤ bits) (a b c : Int) (m : Nat) (hm : m ≤ 1000) : Ev (fun k => spec_l1Out.f k bits a b c (m : Int)) (Dig.out bits (Dig.rnds m (a, b, c))) := by
  unfold spec_l1Out.f
  exact spec_out_l0 bits hb m hm m 0 a b c (Nat.zero_add _)
theorem spec_digest_l0 {bits : Int} (hb : 0 ≤ bits) (l : List Int) (hl : l.length ≤ 4000) (n : Nat) : ∀ (i : Nat) (a b c : Int), i + n = l.length → Dig.takes (l.take i) (1, 2, 3) = (a, b, c) →
    Ev (fun k => spec_Digest.l0 k bits l (i : Int) a b c) (Dig.out bits (Dig.rnds 6 (Dig.taken l))) := by
  induction n with
  | zero =>
    intro i a b c hi hs
    refine Ev.step (fun k => spec_Digest.l0.eq_2 ..) ?_
    rw [List.take_of_length_le (by omega)] at hs
    refine ev_neg (by omega) ?_
    have e : Dig.taken l = (Go.bits .xor .u64 a (IntKind.u64.wrap (l.length : Int)), b, c) := by
      unfold Dig.taken
      rw [hs]
      rfl
    refine ev_bind (a := Dig.out bits (Dig.rnds 6 (Dig.taken l))) ?_ (ev_ret rfl)
    rw [e]
    exact spec_out hb _ _ _ 6 (by decide)
  | succ n ih =>
    intro i a b c hi hs
    refine Ev.step (fun k => spec_Digest.l0.eq_2 ..) ?_
    refine ev_pos (by omega) (ev_pos (by omega) (ev_pure (spec_round _ _ _) (ev_pure (spec_round _ _ _) ?_)))
    rw [wr_succ (by omega)]
    refine ih (i + 1) _ _ _ (by omega) ?_
    have et : l.take (i + 1) = l.take i ++ [rd l (i : Int)] := by
      rw [rd_nat, take_getD l 0 i (by omega)]
    rw [et, Dig.takes_snoc, hs]
    rfl
theorem spec_digest (a0 : Int) (l : List Int) : Ev (fun k => spec_Digest.f k a0 l) (Dig.digest a0 l) := by
  unfold spec_Digest.f Dig.digest
  refine ev_pure (a := decide (2 ≤ a0 ∧ a0 ≤ 60)) (by unfold spec_l1In.f; by_cases h : a0 ≥ 2 <;> simp [h]) ?_
  by_cases h1 : 2 ≤ a0 ∧ a0 ≤ 60
  · rw [if_pos h1]
    refine ev_pos (by simp [h1]) ?_
    refine Ev.step (fun k => spec_Digest.j0.eq_2 ..) ?_
    by_cases h2 : l.length ≤ 4000
    · rw [if_pos h2]
      refine ev_neg (by simp; omega) ?_
      exact spec_digest_l0 (by omega) l h2 l.length 0 1 2 3 (Nat.zero_add _) rfl
    · rw [if_neg h2]
      exact ev_pos (by simp; omega) (ev_ret rfl)
  · rw [if_neg h1]
    refine ev_neg (by simp; omega) ?_
    refine Ev.step (fun k => spec_Digest.j0.eq_2 ..) ?_
    exact ev_pos rfl (ev_ret rfl)
theorem impl_squeeze (a0 : Int) (l : List Int) (n : Int) : impl_Squeeze.f a0 l n = some (Dig.squeezed a0 l n) := by
  unfold impl_Squeeze.f Dig.squeezed
  by_cases h1 : 2 ≤ a0 ∧ a0 ≤ 60
  · rw [if_pos h1]
    by_cases h2 : l.length ≤ 4000
    · rw [if_pos h2]
      by_cases h3 : 1 ≤ n ∧ n ≤ 40
      · rw [if_pos h3, if_pos ⟨h1, h2, h3⟩]
      · rw [if_neg h3, if_neg (fun h => h3 h.2.2)]
    · rw [if_neg h2, if_neg (fun h => h2 h.2.1)]
  · rw [if_neg h1, if_neg (fun h => h1 h.1)]
theorem spec_squeeze_l1 {bits : Int} (hb : 0 ≤ bits) (m : Nat) (hm : m ≤ 40) (s : Int × Int × Int) (n : Nat) : ∀ i : Nat, i + n = m →
    Ev (fun k => spec_Squeeze.l1 k bits (m : Int) (Dig.squeeze bits i (Dig.rnds 6 s)) (i : Int) s.1 s.2.1 s.2.2) (Dig.squeeze bits m (Dig.rnds 6 s), true) := by
  induction n with
  | zero =>
    intro i hi
    obtain rfl : i = m := by omega
    refine Ev.step (fun k => spec_Squeeze.l1.eq_2 ..) ?_
    exact ev_neg (by omega) (ev_ret rfl)
  | succ n ih =>
    intro i hi
    refine Ev.step (fun k => spec_Squeeze.l1.eq_2 ..) ?_
    have e : wrap64 (6 + wrap64 (2 * (i : Int))) = ((6 + 2 * i : Nat) : Int) := by
      rw [wr (n := 2 * (i : Int)) (by omega) (by omega), wr (by omega) (by omega)]; omega
    rw [e]
    refine ev_pos (by omega) (ev_bind (spec_out hb s.1 s.2.1 s.2.2 (6 + 2 * i) (by omega)) (ev_pos (by rw [Dig.squeeze_length]; omega) ?_))
    rw [wr_succ (by omega), Dig.rnds_add, Dig.squeeze_snoc]
    exact ih (i + 1) (by omega)
theorem spec_squeeze_l0 {bits : Int} (hb : 0 ≤ bits) (m : Nat) (hm : m ≤ 40) (l : List Int) (hl : l.length ≤ 4000) (n : Nat) : ∀ (i : Nat) (a b c : Int), i + n = l.length → Dig.takes (l.take i) (1, 2, 3) = (a, b, c) →
    Ev (fun k => spec_Squeeze.l0 k bits l (m : Int) [] (i : Int) a b c) (Dig.squeeze bits m (Dig.rnds 6 (Dig.taken l)), true) := by
  induction n with
  | zero =>
    intro i a b c hi hs
    refine Ev.step (fun k => spec_Squeeze.l0.eq_2 ..) ?_
    rw [List.take_of_length_le (by omega)] at hs
    refine ev_neg (by omega) ?_
    have e : Dig.taken l = (Go.bits .xor .u64 a (IntKind.u64.wrap (l.length : Int)), b, c) := by
      unfold Dig.taken
      rw [hs]
      rfl
    rw [e]
    exact spec_squeeze_l1 hb m hm (Go.bits .xor .u64 a (IntKind.u64.wrap (l.length : Int)), b, c) m 0 (Nat.zero_add _)
  | succ n ih =>
    intro i a b c hi hs
    refine Ev.step (fun k => spec_Squeeze.l0.eq_2 ..) ?_
    refine ev_pos (by omega) (ev_pos (by omega) (ev_pure (spec_round _ _ _) (ev_pure (spec_round _ _ _) ?_)))
    rw [wr_succ (by omega)]
    refine ih (i + 1) _ _ _ (by omega) ?_
    have et : l.take (i + 1) = l.take i ++ [rd l (i : Int)] := by
      rw [rd_nat, take_getD l 0 i (by omega)]
    rw [et, Dig.takes_snoc, hs]
    rfl
theorem spec_squeeze (a0 : Int) (l : List Int) (n : Int) : Ev (fun k => spec_Squeeze.f k a0 l n) (Dig.squeezed a0 l n) := by
  unfold spec_Squeeze.f
  refine ev_some (ev_pure (a := decide (1 ≤ n ∧ n ≤ 40)) (by unfold spec_l1In.f; by_cases h : n ≥ 1 <;> simp [h]) ?_)
  by_cases h3 : 1 ≤ n ∧ n ≤ 40
  · refine ev_pos (by simp [h3]) (ev_bind (spec_digest a0 l) ?_)
    refine Ev.step (fun k => spec_Squeeze.j0.eq_2 ..) ?_
    rcases Dig.digest_cases a0 l with ⟨hd, hn⟩ | ⟨h1, h2, hd, _⟩
    · rw [hd]
      refine ev_pos (by decide) (ev_ret ?_)
      unfold Dig.squeezed
      rw [if_neg (fun h => hn ⟨h.1, h.2.1⟩)]
    · refine ev_neg (by simp; omega) ?_
      have e : n = ((n.toNat : Nat) : Int) := by omega
      unfold Dig.squeezed
      rw [if_pos ⟨h1, h2, h3⟩]
      have := spec_squeeze_l0 (bits := a0) (by omega) n.toNat (by omega) l h2 l.length 0 1 2 3 (Nat.zero_add _) rfl
      rw [← e] at this
      exact this
  · refine ev_neg (by simp; omega) ?_
    refine Ev.step (fun k => spec_Squeeze.j0.eq_2 ..) ?_
    refine ev_pos rfl (ev_ret ?_)
    unfold Dig.squeezed
    rw [if_neg (fun h => h3 h.2.2)]
theorem draw_squeeze (l : List Int) (hl : l.length ≤ 1048576) : ∃ bits data n, Ev (fun k => spec_DrawSqueeze.f k l) (bits, data, n) := by
  obtain ⟨h0, e0⟩ := d_new l hl
  obtain ⟨d, i1, h1, e1, _, _, c1⟩ := d_data h0 (d_cur hl) 10 (by decide)
  obtain ⟨o, i2, h2, e2, c2⟩ := d_once h1 c1 60 (by decide)
  by_cases ho : o = true
  · obtain ⟨v, i3, h3, e3, v0, v1, c3⟩ := d_below h2 c2 2 (by decide)
    obtain ⟨x, i4, h4, e4, _, c4⟩ := d_bits h3 c3
    obtain ⟨n, i5, h5, e5, _, c5⟩ := d_pick h4 c4 [1, 2, 5, 40, 41, 0, -1, 7] (by decide) (by decide)
    refine ⟨x, List.replicate (wrap64 (4000 + v) : Int).toNat 0, n, ?_⟩
    unfold spec_DrawSqueeze.f
    have ew : wrap64 (4000 + v) = 4000 + v := wr (by omega) (by omega)
    exact ev_bind e0 (ev_bind e1 (ev_pure e2 (ev_pos ho (ev_pure e3 (ev_pos (by rw [ew]; omega) (ev_pos (by rw [ew]; omega) (ev_pure e4 (ev_pure e5 (ev_ret rfl)))))))))
  · obtain ⟨x, i4, h4, e4, _, c4⟩ := d_bits h2 c2
    obtain ⟨n, i5, h5, e5, _, c5⟩ := d_pick h4 c4 [1, 2, 5, 40, 41, 0, -1, 7] (by decide) (by decide)
    refine ⟨x, d, n, ?_⟩
    unfold spec_DrawSqueeze.f
    exact ev_bind e0 (ev_bind e1 (ev_pure e2 (ev_neg ho (ev_pure e4 (ev_pure e5 (ev_ret rfl))))))
theorem squeeze_getD (bits : Int) (n : Nat) : ∀ (s : Int × Int × Int) (i : Nat), i < n → (Dig.squeeze bits n s).getD i 0 = Dig.out bits (Dig.rnds (2 * i) s) := by
  induction n with
  | zero => intro s i h; omega
  | succ n ih =>
    intro s i h
    cases i with
    | zero => exact List.getD_cons_zero
    | succ i =>
      show (Dig.squeeze bits n (Dig.rnds 2 s)).getD i 0 = _
      have e : 2 * (i + 1) = 2 + 2 * i := by omega
      rw [ih _ _ (by omega), ← Dig.rnds_add, e]
theorem squeezed_loop (bits : Int) (hb : 2 ≤ bits ∧ bits ≤ 60) (data : List Int) (hd : data.length ≤ 4000) (m : Nat) (hm : m ≤ 40) (n : Nat) : ∀ i : Nat, i + n = m →
    Ev (fun k => laws_FnSqueezed.l0 k bits data (m : Int) (Dig.squeeze bits m (Dig.rnds 6 (Dig.taken data))) (i : Int)) true := by
  induction n with
  | zero =>
    intro i hi
    exact Ev.step (fun k => laws_FnSqueezed.l0.eq_2 ..) (ev_neg (by omega) (ev_ret rfl))
  | succ n ih =>
    intro i hi
    have e0 : wrap64 ((i : Int) + 1) = ((i + 1 : Nat) : Int) := wr_succ (by omega)
    have e1 : impl_Squeeze.f bits data ((i + 1 : Nat) : Int) = some (Dig.squeeze bits (i + 1) (Dig.rnds 6 (Dig.taken data)), true) := by
      rw [impl_squeeze]
      unfold Dig.squeezed
      rw [if_pos ⟨hb, hd, by omega, by omega⟩, Int.toNat_natCast]
    generalize Dig.rnds 6 (Dig.taken data) = s at e1 ih ⊢
    have g1 : rd (Dig.squeeze bits (i + 1) s) (i : Int) = Dig.out bits (Dig.rnds (2 * i) s) := by rw [rd_nat, squeeze_getD _ _ _ _ (by omega)]
    have g2 : rd (Dig.squeeze bits m s) (i : Int) = Dig.out bits (Dig.rnds (2 * i) s) := by rw [rd_nat, squeeze_getD _ _ _ _ (by omega)]
    have hr := Dig.out_range bits hb.1 hb.2 (Dig.rnds (2 * i) s)
    have l1 : (Dig.squeeze bits (i + 1) s).length = i + 1 := Dig.squeeze_length ..
    have l2 : (Dig.squeeze bits m s).length = m := Dig.squeeze_length ..
    generalize Dig.squeeze bits (i + 1) s = q1 at e1 g1 l1
    generalize Dig.squeeze bits m s = q2 at ih g2 l2 ⊢
    generalize Dig.out bits (Dig.rnds (2 * i) s) = o at g1 g2 hr
    refine Ev.step (fun k => laws_FnSqueezed.l0.eq_2 ..) ?_
    rw [e0]
    refine ev_pos (by omega) (ev_pure e1 ?_)
    simp only []
    rw [g1, g2, l1, l2]
    refine ev_pos (by simp) (ev_pos (by simp) (ev_pos (by omega) (ev_pos (by omega) (ev_pos (by omega) (ev_pos (by simp) (ev_neg (by omega) (ev_pos (by omega) (ev_neg ?_ (ih (i + 1) (by omega))))))))))
    have es : shl .i64 1 bits = 2 ^ bits.toNat := by
      unfold shl
      rw [Nat.min_eq_left (show bits.toNat ≤ IntKind.i64.bits by show bits.toNat ≤ 64; omega), IntKind.wrap_i64]
      have := Dig.two_pow_le bits.toNat (by omega)
      have e60 : (2 : Nat) ^ 60 = 1152921504606846976 := by decide
      have ec : (2 : Int) ^ bits.toNat = ((2 ^ bits.toNat : Nat) : Int) := by simp
      rw [ec]
      omega
    rw [es]
    omega
theorem squeeze_zero (bits : Int) (m : Nat) (hm : 0 < m) (s : Int × Int × Int) : rd (Dig.squeeze bits m s) 0 = Dig.out bits s := by
  have e := squeeze_getD bits m s 0 hm
  have z : Dig.rnds 0 s = s := rfl
  rw [Nat.mul_zero, z] at e
  generalize Dig.squeeze bits m s = q at e ⊢
  generalize Dig.out bits s = o at e ⊢
  unfold rd
  exact e
theorem squeeze_first (bits : Int) (data : List Int) (m : Nat) (hm : 0 < m) (h1 : 2 ≤ bits ∧ bits ≤ 60) (h2 : data.length ≤ 4000) : rd (Dig.squeeze bits m (Dig.rnds 6 (Dig.taken data))) 0 = Dig.digest bits data := by
  rw [squeeze_zero bits m hm]
  unfold Dig.digest
  rw [if_pos h1, if_pos h2]
theorem squeezed_tail (bits : Int) (data : List Int) (n : Int) (q : List Int) (o : Int) (hq : rd q 0 = o) (e : Ev (fun k => laws_FnSqueezed.l0 k bits data n q 0) true) : Ev (fun k => laws_FnSqueezed.j1 k bits data n q (rd q 0 != o)) true := by
  subst hq
  refine Ev.step (fun k => laws_FnSqueezed.j1.eq_2 ..) ?_
  exact ev_neg (by simp) e
theorem squeezed_mid (bits : Int) (data : List Int) (n : Int) (q : List Int) (o : Int) (hd : impl_Digest.f bits data = some o) (hq : rd q 0 = o) (hl : (q.length : Int) = n) (hn : 0 < n) (e : Ev (fun k => laws_FnSqueezed.l0 k bits data n q 0) true) : Ev (fun k => laws_FnSqueezed.j0 k bits data n q true true false) true := by
  refine Ev.step (fun k => laws_FnSqueezed.j0.eq_2 ..) ?_
  exact ev_neg (by simp) (ev_pos hl (ev_pos (by omega) (ev_pure hd (squeezed_tail bits data n q o hq e))))
theorem FnSqueezed : laws_FnSqueezed.Pure := by
  intro l
  intros
  refine Ev.rounds ?_
  unfold laws_FnSqueezed.f
  refine ev_pure (a := decide ((l.length : Int) > 1048576)) rfl ?_
  by_cases h : (l.length : Int) > 1048576
  · exact ev_pos (by simp [h]) (ev_ret rfl)
  refine ev_neg (by simp only [decide_eq_true_eq]; exact h) ?_
  obtain ⟨bits, data, n, ed⟩ := draw_squeeze l (by omega)
  refine ev_bind ed (ev_pure (impl_squeeze bits data n) (ev_bind (spec_squeeze bits data n) (ev_neg (by simp) ?_)))
  by_cases hg : (2 ≤ bits ∧ bits ≤ 60) ∧ data.length ≤ 4000 ∧ 1 ≤ n ∧ n ≤ 40
  · have es : Dig.squeezed bits data n = (Dig.squeeze bits n.toNat (Dig.rnds 6 (Dig.taken data)), true) := if_pos hg
    rw [es]
    obtain ⟨h1, h2, h3, h4⟩ := hg
    obtain ⟨m, rfl⟩ := Int.eq_ofNat_of_zero_le (by omega : 0 ≤ n)
    rw [Int.toNat_natCast]
    exact squeezed_mid bits data m _ _ (impl_digest bits data) (squeeze_first bits data m (by omega) h1 h2) (by rw [Dig.squeeze_length]) (by omega) (squeezed_loop bits h1 data h2 m (by omega) m 0 (Nat.zero_add _))
  · have es : Dig.squeezed bits data n = ([], false) := if_neg hg
    rw [es]
    refine Ev.step (fun k => laws_FnSqueezed.j0.eq_2 ..) ?_
    exact ev_pos (by simp) (ev_pos (by simp) (ev_ret (by simp)))

end Go.Proofs.Ytmcpnganobehaaa.Pure
