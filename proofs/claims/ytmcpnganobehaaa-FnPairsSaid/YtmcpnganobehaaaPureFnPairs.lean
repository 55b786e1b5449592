/- The pair that is found among drawn byte lists collides, and none ahead of it does: what is drawn, and what FindPair says of it. -/
import Derived.Test.YtmcpnganobehaaaPFnPairsx3
import Derived.Test.YtmcpnganobehaaaKit
import Derived.Test.YtmcpnganobehaaaDig
namespace Go.Proofs.Ytmcpnganobehaaa.Pure
open Go.RowKit Go.Proofs.Ytmcpnganobehaaa Go.Proofs.Ytmcpnganobehaaa.PFnPairs Go.Proofs.YtmcpnganobehaaaW.PrintWords Go.Proofs.YtmcpnganobehaaaW.PrintLast Go.Proofs.YtmcpnganobehaaaW.PrintMore Go.Proofs.Ytmcpnganobehaaa.K
set_option linter.unusedVariables false

/-- What is left of a behind a taking of t; -1: t was too much. -/
def left (a : Int) (t : Nat) : Int := if a - (t : Int) < 0 then -1 else a - (t : Int)
theorem left_ok {a : Int} {t : Nat} (h : ¬ left a t < 0) : left a t = a - (t : Int) := by
  unfold left at h ⊢
  split
  · rename_i h2
    rw [if_pos h2] at h
    omega
  · rfl
theorem left_neg {a : Int} {t : Nat} (h : a - (t : Int) < 0) : left a t = -1 := if_pos h
theorem left_pos {a : Int} {t : Nat} (h : ¬ a - (t : Int) < 0) : left a t = a - (t : Int) := if_neg h
theorem len_max {n : Nat} (h : n ≤ maxLen) : n ≤ 9223372036854775807 := by unfold maxLen at h; omega
/-- The bytes of all texts together. -/
def tsum : List (List Int) → Nat
  | [] => 0
  | x :: l => x.length + tsum l
/-- .. and the texts. -/
def tot (l : List (List Int)) : Nat := l.length + tsum l
theorem tsum_le (l : List (List Int)) : tsum l ≤ tot l := Nat.le_add_left _ _
theorem tot_len (l : List (List Int)) : l.length ≤ tot l := Nat.le_add_right _ _
theorem tsum_mem {l : List (List Int)} {x : List Int} (h : x ∈ l) : x.length ≤ tsum l := by
  induction l with
  | nil => cases h
  | cons y l ih =>
    rcases List.mem_cons.1 h with rfl | h
    · unfold tsum; omega
    · have := ih h; unfold tsum; omega
theorem tsum_append (l m : List (List Int)) : tsum (l ++ m) = tsum l + tsum m := by
  induction l with
  | nil => simp [tsum]
  | cons x l ih => simp only [List.cons_append, tsum, ih]; omega
theorem rdB_nat (l : List (List Int)) (i : Nat) : rd_L1 l (i : Int) = l.getD i [] := by unfold rd_L1; rw [Int.toNat_natCast]
theorem getD_mem {l : List (List Int)} {i : Nat} (h : i < l.length) : l.getD i [] ∈ l := by
  rw [List.getD_eq_getElem?_getD, List.getElem?_eq_getElem h]
  exact List.getElem_mem h
theorem dropB {l : List (List Int)} {i : Nat} (h : i < l.length) : l.drop i = l.getD i [] :: l.drop (i + 1) := drop_getD l [] i h
theorem digest_a (a0 : Int) (l : List Int) (h1 : 2 ≤ a0 ∧ a0 ≤ 60) (h2 : l.length ≤ 4000) : impl_Squeeze.f a0 l 1 = some ([Dig.out a0 (Dig.rnds 6 (Dig.taken l))], true) := by
  unfold impl_Squeeze.f
  rw [if_pos h1, if_pos h2, if_pos (by decide)]
  generalize Dig.rnds 6 (Dig.taken l) = s
  simp only [Int.toNat_one, Dig.squeeze]
theorem digest_b (a0 : Int) (l : List Int) (h : ¬ ((2 ≤ a0 ∧ a0 ≤ 60) ∧ l.length ≤ 4000)) : impl_Squeeze.f a0 l 1 = some ([], false) := by
  unfold impl_Squeeze.f
  by_cases h1 : 2 ≤ a0 ∧ a0 ≤ 60
  · rw [if_pos h1, if_neg (fun h2 => h ⟨h1, h2⟩)]
  · rw [if_neg h1]
theorem digest_fin (x : Int) : ((some ([x], true) : Option (List Int × Bool)).bind fun bt => (if bt.2 = true then (if 0 < (bt.1.length : Int) then (some (rd bt.1 0)) else (none)) else (some (-1)))) = some x := by
  rw [Option.bind_some, if_pos rfl, if_pos (by simp)]
  rfl
theorem digest_non : ((some ([], false) : Option (List Int × Bool)).bind fun bt => (if bt.2 = true then (if 0 < (bt.1.length : Int) then (some (rd bt.1 0)) else (none)) else (some (-1)))) = some (-1) := by
  rw [Option.bind_some, if_neg (by simp)]
theorem impl_digest (a0 : Int) (l : List Int) : impl_Digest.f a0 l = some (Dig.digest a0 l) := by
  unfold impl_Digest.f
  by_cases h1 : 2 ≤ a0 ∧ a0 ≤ 60
  · by_cases h2 : l.length ≤ 4000
    · have e : Dig.digest a0 l = Dig.out a0 (Dig.rnds 6 (Dig.taken l)) := by
        unfold Dig.digest
        rw [if_pos h1, if_pos h2]
      rw [digest_a a0 l h1 h2, e]
      exact digest_fin _
    · have e : Dig.digest a0 l = -1 := by
        unfold Dig.digest
        rw [if_pos h1, if_neg h2]
      rw [digest_b a0 l (fun h => h2 h.2), e]
      exact digest_non
  · have e : Dig.digest a0 l = -1 := by
      unfold Dig.digest
      rw [if_neg h1]
    rw [digest_b a0 l (fun h => h1 h.1), e]
    exact digest_non

/-- The two texts collide. -/
def coll (b : Int) (p q : List Int) : Bool := decide (0 ≤ Dig.digest b p) && (decide (Dig.digest b p = Dig.digest b q) && !((strOfNums p).toList == (strOfNums q).toList))
theorem impl_coll (b : Int) (p q : List Int) : impl_Collides.f b p q = some (coll b p q) := by
  unfold impl_Collides.f coll bytes_Equal.f
  rw [impl_digest, Option.bind_some]
  generalize Dig.digest b p = x
  by_cases h : x ≥ 0
  · rw [if_pos h, Option.bind_some]
    by_cases hs : ((strOfNums p).toList == (strOfNums q).toList) = true
    · rw [if_pos hs, hs]
      simp
    · rw [if_neg hs, impl_digest, Option.bind_some]
      generalize Dig.digest b q = y
      simp only [Bool.not_eq_true] at hs
      rw [hs]
      simp [h]
      try rfl
  · rw [if_neg h]
    simp [h]
    try omega
theorem strs_map (l : List Int) : (strOfNums l).toList = l.map (fun n => UInt8.ofNat n.toNat) := ByteArray.toList_mk _
/-- As the two programs compare two texts. -/
def same (p q : List Int) : Bool := (strOfNums p).toList == (strOfNums q).toList
theorem same_self (p : List Int) : same p p = true := by simp [same]
theorem same_imp (p : List Int) : ∀ q : List Int, (∀ x ∈ p, 0 ≤ x ∧ x < 256) → (∀ x ∈ q, 0 ≤ x ∧ x < 256) → same p q = true → p = q := by
  induction p with
  | nil =>
    intro q _ _ h
    cases q with
    | nil => rfl
    | cons y q => simp [same, strs_map] at h
  | cons x p ih =>
    intro q hp hq h
    cases q with
    | nil => simp [same, strs_map] at h
    | cons y q =>
      unfold same at h
      rw [strs_map, strs_map, List.map_cons, List.map_cons, beq_iff_eq, List.cons.injEq] at h
      obtain ⟨h1, h2⟩ := h
      have hx := hp x List.mem_cons_self
      have hy := hq y List.mem_cons_self
      have e : x.toNat = y.toNat := by
        have := congrArg UInt8.toNat h1
        simp only [UInt8.toNat_ofNat'] at this
        omega
      have exy : x = y := by omega
      subst exy
      rw [ih q (fun z hz => hp z (List.mem_cons_of_mem _ hz)) (fun z hz => hq z (List.mem_cons_of_mem _ hz)) (by unfold same; rw [strs_map, strs_map, beq_iff_eq]; exact h2)]
/-- The first pair that collides; l behind p. -/
def findP (b : Int) : List (List Int) → List (List Int) → List Int × List Int × Bool
  | _, [] => ([], [], false)
  | p, x :: l => match p.find? (fun a => coll b a x) with | some a => (a, x, true) | none => findP b (p ++ [x]) l
theorem findP_mem (b : Int) (l : List (List Int)) : ∀ p, ((findP b p l).1 ∈ p ++ l ∨ (findP b p l).1 = []) ∧ ((findP b p l).2.1 ∈ p ++ l ∨ (findP b p l).2.1 = []) := by
  induction l with
  | nil => intro p; exact ⟨.inr rfl, .inr rfl⟩
  | cons x l ih =>
    intro p
    unfold findP
    cases h : p.find? (fun a => coll b a x) with
    | none =>
      have := ih (p ++ [x])
      rw [List.append_assoc] at this
      exact this
    | some a => exact ⟨.inl (List.mem_append_left _ (List.mem_of_find?_eq_some h)), .inl (List.mem_append_right _ List.mem_cons_self)⟩
def findPair (b : Int) (l : List (List Int)) : List Int × List Int × Bool := if l.length ≤ 100 then findP b [] l else ([], [], false)
theorem rdD (b : Int) (p : List (List Int)) {j : Nat} (h : j < p.length) : rd (p.map (Dig.digest b)) (j : Int) = Dig.digest b (p.getD j []) := by
  rw [rd_nat, List.getD_eq_getElem?_getD, List.getElem?_map, List.getD_eq_getElem?_getD, List.getElem?_eq_getElem h]
  rfl
theorem impl_fp_l1 (b : Int) (l p : List (List Int)) (x : List Int) (n i : Int) {R : List Int × List Int × Bool} (hp : p.length ≤ 100) (hb : ∀ u ∈ p, u.length ≤ 1048576) (hx : x.length ≤ 1048576) (h0 : Ev (fun k => impl_FindPair.l0 k b l (p.map (Dig.digest b) ++ [Dig.digest b x]) l n (wrap64 (i + 1))) R) (m : Nat) : ∀ j : Nat, j + m = p.length →
    Ev (fun k => impl_FindPair.l1 k b l (p.map (Dig.digest b)) x (Dig.digest b x) l n i p (p.length : Int) (j : Int)) (match (p.drop j).find? (fun a => coll b a x) with | some a => (a, x, true) | none => R) := by
  induction m with
  | zero =>
    intro j hj
    rw [show p.drop j = [] from List.drop_eq_nil_of_le (by omega)]
    exact Ev.step (fun k => impl_FindPair.l1.eq_2 ..) (ev_neg (by omega) (ev_pos (by rw [List.length_map]; omega) h0))
  | succ m ih =>
    intro j hj
    have hi := ih (j + 1) (by omega)
    rw [dropB (l := p) (by omega)]
    refine Ev.step (fun k => impl_FindPair.l1.eq_2 ..) (ev_pos (by omega) (ev_pos (by omega) (ev_pos (by omega) ?_)))
    rw [rdD b p (by omega), rdB_nat, wr_succ (by omega), List.find?_cons]
    have hc : coll b (p.getD j []) x = (decide (0 ≤ Dig.digest b (p.getD j [])) && (decide (Dig.digest b (p.getD j []) = Dig.digest b x) && !same (p.getD j []) x)) := rfl
    have ha := hb _ (getD_mem (l := p) (i := j) (by omega))
    generalize p.getD j [] = a at hc ha ⊢
    have hl : (j : Int) < ((p.map (Dig.digest b)).length : Int) := by rw [List.length_map]; omega
    generalize p.map (Dig.digest b) = kn at hi hl ⊢
    generalize Dig.digest b x = dx at hc hi ⊢
    generalize Dig.digest b a = da at hc ⊢
    by_cases h1 : dx ≥ 0
    · refine ev_pos h1 (ev_pos hl ?_)
      by_cases h2 : da = dx
      · subst h2
        refine ev_pos rfl (ev_pure (a := same a x) rfl ?_)
        by_cases h3 : same a x = true
        · have e : coll b a x = false := by rw [hc, h3]; simp
          rw [e]
          exact ev_pos h3 hi
        · have e : coll b a x = true := by rw [hc]; simp only [Bool.not_eq_true] at h3; rw [h3]; simp; omega
          rw [e]
          refine ev_neg h3 (ev_pure (a := (a, x)) ?_ (ev_ret rfl))
          unfold impl_pairOf.f bytes_Clone.f
          rw [if_pos (by omega), Option.bind_some, if_pos (by omega), Option.bind_some]
      · have e : coll b a x = false := by rw [hc]; simp [h2]
        rw [e]
        exact ev_neg h2 hi
    · have e : coll b a x = false := by
        rw [hc]
        by_cases h2 : da = dx
        · subst h2; simp; omega
        · simp [h2]
      rw [e]
      exact ev_neg h1 hi
theorem impl_fp_l0 (b : Int) (l : List (List Int)) (hb : ∀ u ∈ l, u.length ≤ 1048576) (hl : l.length ≤ 100) (m : Nat) : ∀ i : Nat, i + m = l.length →
    Ev (fun k => impl_FindPair.l0 k b l ((l.take i).map (Dig.digest b)) l (l.length : Int) (i : Int)) (findP b (l.take i) (l.drop i)) := by
  induction m with
  | zero =>
    intro i hi
    rw [show l.drop i = [] from List.drop_eq_nil_of_le (by omega)]
    exact Ev.step (fun k => impl_FindPair.l0.eq_2 ..) (ev_neg (by omega) (ev_ret rfl))
  | succ m ih =>
    intro i hi
    have hn := ih (i + 1) (by omega)
    have et := take_getD l [] i (by omega)
    rw [← et, List.map_append, List.map_cons, List.map_nil] at hn
    rw [dropB (l := l) (by omega)]
    refine Ev.step (fun k => impl_FindPair.l0.eq_2 ..) (ev_pos (by omega) (ev_pos (by omega) (ev_pos (by omega) ?_)))
    rw [rdB_nat]
    refine ev_pure (impl_digest b (l.getD i [])) (ev_pos (by omega) (ev_some ?_))
    rw [Int.toNat_natCast]
    have ht : (l.take i).length ≤ 100 := Nat.le_trans (List.length_take_le' _ _) hl
    rw [← wr_succ (n := i) (by omega)] at hn
    exact impl_fp_l1 b l (l.take i) (l.getD i []) (l.length : Int) (i : Int) ht (fun u hu => hb u (List.mem_of_mem_take hu)) (hb _ (getD_mem (by omega))) hn (l.take i).length 0 (by omega)
theorem impl_findpair (b : Int) (l : List (List Int)) (hb : ∀ u ∈ l, u.length ≤ 1048576) : Ev (fun k => impl_FindPair.f k b l) (findPair b l) := by
  unfold impl_FindPair.f findPair
  by_cases h : l.length ≤ 100
  · rw [if_pos h]
    exact ev_neg (by omega) (impl_fp_l0 b l hb h l.length 0 (by omega))
  · rw [if_neg h]
    exact ev_pos (by omega) (ev_ret rfl)
theorem and_bits_lt (x : Int) (j : Nat) (hj : j ≤ 62) (y : Int) (hy : y = ((2 ^ j - 1 : Nat) : Int)) : 0 ≤ Go.bits .and .i64 x y ∧ Go.bits .and .i64 x y < 2 ^ j := by
  subst hy
  have hp : 0 < 2 ^ j := Nat.two_pow_pos j
  have hle : (BitVec.ofInt 64 x &&& BitVec.ofInt 64 ((2 ^ j - 1 : Nat) : Int)).toNat ≤ 2 ^ j - 1 := by
    rw [BitVec.toNat_and, BitVec.ofInt_natCast, BitVec.toNat_ofNat]
    exact Nat.le_trans Nat.and_le_right (Nat.mod_le _ _)
  have h62 : 2 ^ j ≤ 2 ^ 62 := Nat.pow_le_pow_right (by decide) hj
  have e62 : (2 : Nat) ^ 62 = 4611686018427387904 := by decide
  have ec : (2 : Int) ^ j = ((2 ^ j : Nat) : Int) := by simp
  have h0 : (0 : Int) ≤ (((BitVec.ofInt 64 x &&& BitVec.ofInt 64 ((2 ^ j - 1 : Nat) : Int)).toNat : Nat) : Int) := Int.natCast_nonneg _
  have h1 : (((BitVec.ofInt 64 x &&& BitVec.ofInt 64 ((2 ^ j - 1 : Nat) : Int)).toNat : Nat) : Int) < 2 ^ 63 := by
    have : (2 : Int) ^ 63 = 9223372036854775808 := by decide
    omega
  have e : Go.bits .and .i64 x ((2 ^ j - 1 : Nat) : Int) = (((BitVec.ofInt 64 x &&& BitVec.ofInt 64 ((2 ^ j - 1 : Nat) : Int)).toNat : Nat) : Int) := wraps_i64 _ h0 h1
  rw [e, ec]
  omega
theorem and255 (x : Int) : 0 ≤ Go.bits .and .i64 x 255 ∧ Go.bits .and .i64 x 255 < 256 := by
  have := and_bits_lt x 8 (by decide) 255 (by decide)
  simpa using this
/-- Where a cursor stands: inside its bytes. -/
def Cur (b : List Int) (i : Int) : Prop := 0 ≤ i ∧ i ≤ b.length ∧ b.length ≤ 1048576
theorem d_new (l : List Int) (hl : l.length ≤ 1048576) : ∃ h, Ev (fun k => spec_l1New.f k l) (l, 0, h) := by
  have key : ∀ (n i : Nat) (h : Int), i + n = l.length → ∃ h', Ev (fun k => spec_l1New.l0 k l h (i : Int)) (l, 0, h') := by
    intro n
    induction n with
    | zero =>
      intro i h hi
      exact ⟨h, Ev.step (fun k => spec_l1New.l0.eq_2 ..) (ev_neg (by omega) (ev_ret rfl))⟩
    | succ n ih =>
      intro i h hi
      by_cases h4 : (i : Int) < 4000
      · obtain ⟨h', e⟩ := ih (i + 1) _ (by omega)
        refine ⟨h', Ev.step (fun k => spec_l1New.l0.eq_2 ..) (ev_pos (by omega) (ev_pos h4 (ev_pos (by omega) ?_)))⟩
        rw [wr_succ (by omega)]
        exact e
      · exact ⟨h, Ev.step (fun k => spec_l1New.l0.eq_2 ..) (ev_pos (by omega) (ev_neg h4 (ev_ret rfl)))⟩
  obtain ⟨h, e⟩ := key l.length 0 (wrap64 (88088 + (l.length : Int))) (Nat.zero_add _)
  exact ⟨h, e⟩
theorem d_cur {l : List Int} (hl : l.length ≤ 1048576) : Cur l 0 := ⟨Int.le_refl _, by omega, hl⟩
theorem d_byte {b : List Int} {i : Int} (h : Int) (hc : Cur b i) : ∃ v i' h', spec_l1Byte.f b i h = some (v, i', h') ∧ 0 ≤ v ∧ v < 256 ∧ Cur b i' := by
  obtain ⟨h0, h1, h2⟩ := hc
  unfold spec_l1Byte.f
  by_cases hi : i < (b.length : Int)
  · rw [if_pos hi, if_pos h0]
    exact ⟨_, _, _, rfl, (and255 _).1, (and255 _).2, by rw [wr (by omega) (by omega)]; omega, by rw [wr (by omega) (by omega)]; omega, h2⟩
  · rw [if_neg hi]
    exact ⟨_, _, _, rfl, (and255 _).1, (and255 _).2, h0, h1, h2⟩
theorem d_below {b : List Int} {i : Int} (h : Int) (hc : Cur b i) (n : Int) (hn : n ≤ 1000000) : ∃ v i' h', spec_l1Below.f b i h n = some (v, i', h') ∧ 0 ≤ v ∧ (v < n ∨ v = 0) ∧ Cur b i' := by
  unfold spec_l1Below.f
  by_cases h0 : n ≤ 0
  · rw [if_pos h0]
    exact ⟨_, _, _, rfl, Int.le_refl _, .inr rfl, hc⟩
  rw [if_neg h0]
  obtain ⟨v, i1, h1, e1, v0, v1, c1⟩ := d_byte h hc
  by_cases h256 : n ≤ 256
  · rw [if_pos h256, e1, Option.bind_some, if_neg (by omega)]
    refine ⟨_, _, _, rfl, ?_, .inl ?_, c1⟩
    · rw [Int.tmod_eq_emod_of_nonneg v0]; exact Int.emod_nonneg _ (by omega)
    · rw [Int.tmod_eq_emod_of_nonneg v0]; exact Int.emod_lt_of_pos _ (by omega)
  · rw [if_neg h256, e1, Option.bind_some]
    obtain ⟨x, i2, h2, e2, x0, x1, c2⟩ := d_byte h1 c1
    rw [e2, Option.bind_some]
    obtain ⟨y, i3, h3, e3, y0, y1, c3⟩ := d_byte h2 c2
    rw [e3, Option.bind_some]
    obtain ⟨z, i4, h4, e4, z0, z1, c4⟩ := d_byte h3 c3
    rw [e4, Option.bind_some, if_neg (by omega)]
    have ew : wrap64 ((wrap64 ((wrap64 ((wrap64 (v * 16777216)) + (wrap64 (x * 65536)))) + (wrap64 (y * 256)))) + z) = v * 16777216 + x * 65536 + y * 256 + z := by
      rw [wr (n := v * 16777216) (by omega) (by omega), wr (n := x * 65536) (by omega) (by omega), wr (n := v * 16777216 + x * 65536) (by omega) (by omega), wr (n := y * 256) (by omega) (by omega), wr (n := v * 16777216 + x * 65536 + y * 256) (by omega) (by omega), wr (by omega) (by omega)]
    refine ⟨_, _, _, rfl, ?_, .inl ?_, c4⟩
    · show 0 ≤ Int.tmod (wrap64 ((wrap64 ((wrap64 ((wrap64 (v * 16777216)) + (wrap64 (x * 65536)))) + (wrap64 (y * 256)))) + z)) n
      rw [ew, Int.tmod_eq_emod_of_nonneg (by omega)]
      exact Int.emod_nonneg _ (by omega)
    · show Int.tmod (wrap64 ((wrap64 ((wrap64 ((wrap64 (v * 16777216)) + (wrap64 (x * 65536)))) + (wrap64 (y * 256)))) + z)) n < n
      rw [ew, Int.tmod_eq_emod_of_nonneg (by omega)]
      exact Int.emod_lt_of_pos _ (by omega)
theorem d_once {b : List Int} {i : Int} (h : Int) (hc : Cur b i) (n : Int) (hn : n ≤ 1000000) : ∃ v i' h', spec_l1Once.f b i h n = some (v, i', h') ∧ Cur b i' := by
  obtain ⟨v, i', h', e, _, _, c⟩ := d_below h hc n hn
  unfold spec_l1Once.f
  rw [e, Option.bind_some]
  exact ⟨_, _, _, rfl, c⟩
theorem d_pick {b : List Int} {i : Int} (h : Int) (hc : Cur b i) (l : List Int) (h0 : 0 < l.length) (h1 : l.length ≤ 100) : ∃ v i' h', spec_l1PickInt.f b i h l = some (v, i', h') ∧ v ∈ l ∧ Cur b i' := by
  obtain ⟨v, i', h', e, v0, v1, c⟩ := d_below h hc (l.length : Int) (by omega)
  unfold spec_l1PickInt.f
  rw [e, Option.bind_some]
  have hv : v < (l.length : Int) := by omega
  rw [if_pos v0, if_pos hv]
  refine ⟨_, _, _, rfl, ?_, c⟩
  show rd l v ∈ l
  unfold rd
  rw [List.getD_eq_getElem?_getD, List.getElem?_eq_getElem (by omega)]
  exact List.getElem_mem _
theorem d_bits {b : List Int} {i : Int} (h : Int) (hc : Cur b i) : ∃ v i' h', spec_l1DrawBits.f b i h = some (v, i', h') ∧ (-1 ≤ v ∧ v ≤ 64) ∧ Cur b i' := by
  obtain ⟨o, i1, h1, e1, c1⟩ := d_once h hc 20 (by decide)
  unfold spec_l1DrawBits.f
  rw [e1, Option.bind_some]
  by_cases ho : o = true
  · obtain ⟨v, i2, h2, e2, hv, c2⟩ := d_pick h1 c1 [-1, 1, 61, 64] (by decide) (by decide)
    rw [if_pos ho, e2, Option.bind_some]
    refine ⟨v, i2, h2, rfl, ?_, c2⟩
    simp only [List.mem_cons, List.not_mem_nil, or_false] at hv
    rcases hv with rfl | rfl | rfl | rfl <;> decide
  · obtain ⟨v, i2, h2, e2, hv, c2⟩ := d_pick h1 c1 [2, 3, 4, 8, 16, 32, 60, 5] (by decide) (by decide)
    rw [if_neg ho, e2, Option.bind_some]
    refine ⟨v, i2, h2, rfl, ?_, c2⟩
    simp only [List.mem_cons, List.not_mem_nil, or_false] at hv
    rcases hv with rfl | rfl | rfl | rfl | rfl | rfl | rfl | rfl <;> decide
theorem d_data {b : List Int} {i : Int} (h : Int) (hc : Cur b i) (n : Nat) (hn : n ≤ 1000) : ∃ l i' h', Ev (fun k => spec_l1DrawData.f k b i h (n : Int)) (l, i', h') ∧ l.length ≤ n ∧ (∀ x ∈ l, 0 ≤ x ∧ x < 256) ∧ Cur b i' := by
  have key : ∀ (m : Nat) (o : List Int) (i h : Int), o.length + m ≤ 1000 → Cur b i → (∀ x ∈ o, 0 ≤ x ∧ x < 256) → ∃ l i' h', Ev (fun k => spec_l1DrawData.l0 k o (m : Int) b i h) (l, i', h') ∧ l.length = o.length + m ∧ (∀ x ∈ l, 0 ≤ x ∧ x < 256) ∧ Cur b i' := by
    intro m
    induction m with
    | zero =>
      intro o i h ho hc hb
      exact ⟨o, i, h, Ev.step (fun k => spec_l1DrawData.l0.eq_2 ..) (ev_neg (by omega) (ev_ret rfl)), rfl, hb, hc⟩
    | succ m ih =>
      intro o i h ho hc hb
      obtain ⟨v, i1, h1, e1, v0, v1, c1⟩ := d_byte h hc
      have ev : v % 256 = v := by omega
      obtain ⟨l, i2, h2, e2, hl, hx, c2⟩ := ih (o ++ [v]) i1 h1 (by simp only [List.length_append, List.length_singleton]; omega) c1 (by
        intro x hx
        rcases List.mem_append.1 hx with hx | hx
        · exact hb x hx
        · rw [List.mem_singleton.1 hx]; exact ⟨v0, v1⟩)
      refine ⟨l, i2, h2, Ev.step (fun k => spec_l1DrawData.l0.eq_2 ..) (ev_pos (by omega) (ev_pure e1 (ev_pos (by omega) ?_))), by rw [hl, List.length_append, List.length_singleton]; omega, hx, c2⟩
      have ew : wrap64 (((m + 1 : Nat) : Int) - 1) = (m : Int) := by rw [wr (by omega) (by omega)]; omega
      rw [ew]
      show Ev (fun k => spec_l1DrawData.l0 k (o ++ [v % 256]) (m : Int) b i1 h1) _
      rw [ev]
      exact e2
  obtain ⟨v, i1, h1, e1, v0, v1, c1⟩ := d_below h hc (n : Int) (by omega)
  obtain ⟨m, rfl⟩ := Int.eq_ofNat_of_zero_le v0
  obtain ⟨l, i2, h2, e2, hl, hx, c2⟩ := key m [] i1 h1 (by simp; omega) c1 (by simp)
  refine ⟨l, i2, h2, ?_, by rw [hl]; simp; omega, hx, c2⟩
  unfold spec_l1DrawData.f
  exact ev_pure e1 e2
theorem d_parts {b : List Int} {i : Int} (h : Int) (hc : Cur b i) (n : Nat) (hn : n ≤ 20) : ∃ (l : List (List Int)) (i' h' : Int), Ev (fun k => spec_l1DrawParts.f k b i h (n : Int)) (l, i', h') ∧ l.length ≤ n ∧ tsum l ≤ 7 * n ∧ (∀ x ∈ l, ∀ z ∈ x, 0 ≤ z ∧ z < 256) ∧ Cur b i' := by
  have key : ∀ (m : Nat) (o : List (List Int)) (i h : Int), o.length + m ≤ n → tsum o ≤ 7 * o.length → Cur b i → (∀ x ∈ o, ∀ z ∈ x, 0 ≤ z ∧ z < 256) →
      ∃ (l : List (List Int)) (i' h' : Int), Ev (fun k => spec_l1DrawParts.l0 k o (m : Int) b i h) (l, i', h') ∧ l.length ≤ n ∧ tsum l ≤ 7 * n ∧ (∀ x ∈ l, ∀ z ∈ x, 0 ≤ z ∧ z < 256) ∧ Cur b i' := by
    intro m
    induction m with
    | zero =>
      intro o i h ho ht hc hb
      exact ⟨o, i, h, Ev.step (fun k => spec_l1DrawParts.l0.eq_2 ..) (ev_neg (by omega) (ev_ret rfl)), by omega, by omega, hb, hc⟩
    | succ m ih =>
      intro o i h ho ht hc hb
      obtain ⟨d, i1, h1, e1, hd, hx, c1⟩ := d_data h hc 7 (by decide)
      obtain ⟨l, i2, h2, e2, hl, hs, hy, c2⟩ := ih (o ++ [d]) i1 h1 (by simp only [List.length_append, List.length_singleton]; omega) (by rw [tsum_append]; simp only [tsum, List.length_append, List.length_singleton]; omega) c1 (by
        intro x hx'
        rcases List.mem_append.1 hx' with hx' | hx'
        · exact hb x hx'
        · rw [List.mem_singleton.1 hx']; exact hx)
      refine ⟨l, i2, h2, Ev.step (fun k => spec_l1DrawParts.l0.eq_2 ..) (ev_pos (by omega) (ev_bind e1 (ev_pos (by omega) ?_))), hl, hs, hy, c2⟩
      have ew : wrap64 (((m + 1 : Nat) : Int) - 1) = (m : Int) := by rw [wr (by omega) (by omega)]; omega
      rw [ew]
      exact e2
  obtain ⟨v, i1, h1, e1, v0, v1, c1⟩ := d_below h hc (n : Int) (by omega)
  obtain ⟨m, rfl⟩ := Int.eq_ofNat_of_zero_le v0
  obtain ⟨l, i2, h2, e2, hl, hs, hy, c2⟩ := key m [] i1 h1 (by simp; omega) (by simp [tsum]) c1 (by simp)
  refine ⟨l, i2, h2, ?_, hl, hs, hy, c2⟩
  unfold spec_l1DrawParts.f
  exact ev_pure e1 e2
theorem draw_findpair (l : List Int) (hl : l.length ≤ 1048576) : ∃ bits L, Ev (fun k => spec_DrawFindPair.f k l) (bits, L) ∧ ∀ u ∈ L, u.length ≤ 1048576 := by
  obtain ⟨h0, e0⟩ := d_new l hl
  obtain ⟨L, i1, h1, e1, hL, hs, hb, c1⟩ := d_parts h0 (d_cur hl) 12 (by decide)
  obtain ⟨o, i2, h2, e2, c2⟩ := d_once h1 c1 60 (by decide)
  unfold spec_DrawFindPair.f
  by_cases ho : o = true
  · obtain ⟨v, i3, h3, e3, v0, v1, c3⟩ := d_below h2 c2 2 (by decide)
    obtain ⟨x, i4, h4, e4, _, c4⟩ := d_bits h3 c3
    have key : ∀ (m : Nat) (p : List (List Int)), p.length + m ≤ 200 → (∀ u ∈ p, u.length ≤ 1048576) → ∃ L, Ev (fun k => spec_DrawFindPair.l0 k p (m : Int) l i3 h3) (x, L) ∧ ∀ u ∈ L, u.length ≤ 1048576 := by
      intro m
      induction m with
      | zero =>
        intro p _ hp
        exact ⟨p, Ev.step (fun k => spec_DrawFindPair.l0.eq_2 ..) (ev_neg (by omega) (ev_pure e4 (ev_ret rfl))), hp⟩
      | succ m ih =>
        intro p hm hp
        obtain ⟨L, e, hu⟩ := ih (p ++ [[((m + 1 : Nat) : Int) % 256]]) (by simp only [List.length_append, List.length_singleton]; omega) (by
          intro u hu
          rcases List.mem_append.1 hu with hu | hu
          · exact hp u hu
          · rw [List.mem_singleton.1 hu]; simp)
        have ew : wrap64 (((m + 1 : Nat) : Int) - 1) = (m : Int) := by rw [wr (by omega) (by omega)]; omega
        refine ⟨L, Ev.step (fun k => spec_DrawFindPair.l0.eq_2 ..) (ev_pos (by omega) (ev_pos (by omega) ?_)), hu⟩
        rw [ew]
        exact e
    have ew : wrap64 (100 + v) = 100 + v := wr (by omega) (by omega)
    obtain ⟨m, hm⟩ := Int.eq_ofNat_of_zero_le (show 0 ≤ 100 + v by omega)
    obtain ⟨L', e, hu⟩ := key m [] (by simp only [List.length_nil]; omega) (by simp)
    rw [← hm, ← ew] at e
    exact ⟨x, L', ev_bind e0 (ev_bind e1 (ev_pure e2 (ev_pos ho (ev_pure e3 e)))), hu⟩
  · obtain ⟨x, i4, h4, e4, _, c4⟩ := d_bits h2 c2
    exact ⟨x, L, ev_bind e0 (ev_bind e1 (ev_pure e2 (ev_neg ho (ev_pure e4 (ev_ret rfl))))), fun u hu => by have := tsum_mem hu; omega⟩
theorem coll_sym (b : Int) (p q : List Int) : coll b p q = coll b q p := by
  unfold coll
  by_cases h : Dig.digest b p = Dig.digest b q
  · rw [h]
    have e : ((strOfNums p).toList == (strOfNums q).toList) = ((strOfNums q).toList == (strOfNums p).toList) := by
      by_cases h2 : (strOfNums p).toList = (strOfNums q).toList
      · rw [h2]
      · rw [beq_eq_false_iff_ne.mpr h2, beq_eq_false_iff_ne.mpr (fun e => h2 e.symm)]
    rw [e]
  · have h' : ¬ Dig.digest b q = Dig.digest b p := fun e => h e.symm
    rw [decide_eq_false h, decide_eq_false h']
    simp
theorem findP_cons (b : Int) (p : List (List Int)) (x : List Int) (l : List (List Int)) : findP b p (x :: l) = match p.find? (fun a => coll b a x) with | some a => (a, x, true) | none => findP b (p ++ [x]) l := rfl
theorem findP_none (b : Int) (L : List (List Int)) : ∀ k : Nat, k ≤ L.length → (∀ i' k' : Nat, i' < k' → k' < k → coll b (L.getD i' []) (L.getD k' []) = false) → findP b [] L = findP b (L.take k) (L.drop k) := by
  intro k
  induction k with
  | zero => intro _ _; rfl
  | succ k ih =>
    intro hk h
    rw [ih (by omega) (fun i' k' h1 h2 => h i' k' h1 (by omega)), dropB (l := L) (i := k) (by omega)]
    have e : (L.take k).find? (fun a => coll b a (L.getD k [])) = none := by
      rw [List.find?_eq_none]
      intro a ha
      obtain ⟨i, hi, rfl⟩ := List.getElem_of_mem ha
      have hi' : i < k := by rw [List.length_take] at hi; omega
      have := h i k hi' (by omega)
      rw [List.getD_eq_getElem?_getD, List.getElem?_eq_getElem (by omega : i < L.length)] at this
      rw [List.getElem_take]
      simpa using this
    rw [findP_cons, e]
    show findP b (L.take k ++ [L.getD k []]) (L.drop (k + 1)) = _
    rw [take_getD L [] k (by omega)]
theorem findP_hit (b : Int) (L : List (List Int)) (i k : Nat) (hik : i < k) (hk : k < L.length) (h : ∀ i' k' : Nat, i' < k' → (k' < k ∨ k' = k ∧ i' < i) → k' < L.length → coll b (L.getD i' []) (L.getD k' []) = false) (hc : coll b (L.getD i []) (L.getD k []) = true) : findP b [] L = (L.getD i [], L.getD k [], true) := by
  rw [findP_none b L k (by omega) (fun i' k' h1 h2 => h i' k' h1 (.inl h2) (by omega)), dropB (l := L) (i := k) hk]
  have e : (L.take k).find? (fun a => coll b a (L.getD k [])) = some (L.getD i []) := by
    rw [List.find?_eq_some_iff_append]
    refine ⟨hc, L.take i, (L.take k).drop (i + 1), ?_, fun a ha => ?_⟩
    · have e1 : (L.take k).take i = L.take i := by rw [List.take_take, Nat.min_eq_left (by omega)]
      have e2 : (L.take k).getD i [] = L.getD i [] := by rw [List.getD_eq_getElem?_getD, List.getElem?_take_of_lt hik, List.getD_eq_getElem?_getD]
      have e3 := dropB (l := L.take k) (i := i) (by rw [List.length_take]; omega)
      rw [e2] at e3
      rw [← e3, ← e1, List.take_append_drop]
    · obtain ⟨j, hj, rfl⟩ := List.getElem_of_mem ha
      have hj' : j < i := by rw [List.length_take] at hj; omega
      have := h j k (by omega) (.inr ⟨rfl, hj'⟩) hk
      rw [List.getD_eq_getElem?_getD, List.getElem?_eq_getElem (by omega : j < L.length)] at this
      rw [List.getElem_take]
      simpa using this
  rw [findP_cons, e]
theorem findP_no (b : Int) (L : List (List Int)) (h : ∀ i' k' : Nat, i' < k' → k' < L.length → coll b (L.getD i' []) (L.getD k' []) = false) : (findP b [] L).2.2 = false := by
  rw [findP_none b L L.length (Nat.le_refl _) h, List.drop_length]
  rfl
theorem coll_self (b : Int) (p : List Int) : coll b p p = false := by
  unfold coll
  simp
theorem five_pair : (findPair 2 [[1], [2], [3], [4], [5]]).2.2 = true := by decide +kernel

end Go.Proofs.Ytmcpnganobehaaa.Pure
