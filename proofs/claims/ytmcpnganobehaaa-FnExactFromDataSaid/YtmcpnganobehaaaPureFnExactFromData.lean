/- FromData answers as the reference's FromData, at all numbers and lists (of at most 2^20 each), in memory of its own, and leaves both lists as they were. -/
import Derived.Test.YtmcpnganobehaaaPFnExactFromDatax5
import Derived.Test.YtmcpnganobehaaaKit
import Derived.Test.YtmcpnganobehaaaDig
namespace Go.Proofs.Ytmcpnganobehaaa.Pure
open Go.RowKit Go.Proofs.Ytmcpnganobehaaa Go.Proofs.Ytmcpnganobehaaa.PFnExactFromData Go.Proofs.YtmcpnganobehaaaW.PrintWords Go.Proofs.YtmcpnganobehaaaW.PrintLast Go.Proofs.YtmcpnganobehaaaW.PrintMore Go.Proofs.Ytmcpnganobehaaa.K
set_option linter.unusedVariables false

theorem toByteS_l0 (l : List Int) (hl : l.length ≤ 9223372036854775806) (n : Nat) : ∀ i : Nat, i + n = l.length →
    Ev (fun k => laws_toByteS.l0 k l (l.take i ++ List.replicate n 0) (i : Int)) l := by
  induction n with
  | zero =>
    intro i hi
    refine Ev.step (fun k => laws_toByteS.l0.eq_2 ..) ?_
    refine ev_neg (by omega) (ev_ret ?_)
    rw [List.replicate_zero, List.append_nil, List.take_of_length_le (by omega)]
  | succ n ih =>
    intro i hi
    refine Ev.step (fun k => laws_toByteS.l0.eq_2 ..) ?_
    have hlen : (l.take i).length = i := by rw [List.length_take]; omega
    refine ev_pos (by omega) (ev_pos (by omega) (ev_pos (by rw [List.length_append, hlen, List.length_replicate]; omega) ?_))
    rw [wr_succ (by omega), rd_nat, Int.toNat_natCast]
    have e := set_fill (l.take i) (l.getD i 0) 0 n
    rw [hlen, take_getD l 0 i (by omega)] at e
    rw [e]
    exact ih (i + 1) (by omega)
theorem toByteS (l : List Int) (hl : l.length ≤ 140737488355328) : Ev (fun k => laws_toByteS.f k l) l := by
  unfold laws_toByteS.f
  refine ev_pos (by omega) (ev_pos (by omega) ?_)
  have := toByteS_l0 l (by omega) l.length 0 (by omega)
  simpa using this
theorem eqByteS_l0 (l : List Int) (hl : l.length ≤ 9223372036854775806) (n : Nat) : ∀ i : Nat, i + n = l.length →
    Ev (fun k => laws_eqByteS.l0 k l l (i : Int)) true := by
  induction n with
  | zero =>
    intro i hi
    refine Ev.step (fun k => laws_eqByteS.l0.eq_2 ..) ?_
    exact ev_neg (by omega) (ev_ret rfl)
  | succ n ih =>
    intro i hi
    refine Ev.step (fun k => laws_eqByteS.l0.eq_2 ..) ?_
    refine ev_pos (by omega) (ev_pos (by omega) (ev_pos (by omega) (ev_pos rfl ?_)))
    rw [wr_succ (by omega)]
    exact ih (i + 1) (by omega)
theorem eqByteS (l : List Int) (hl : l.length ≤ 140737488355328) : Ev (fun k => laws_eqByteS.f k l l) true := by
  unfold laws_eqByteS.f
  exact ev_pos rfl (eqByteS_l0 l (by omega) l.length 0 (by omega))
def marked (a : Int) : Nat → List Int
  | 0 => []
  | n + 1 => (a % 256) :: marked (a + 1) n
theorem marked_length (n : Nat) : ∀ a, (marked a n).length = n := by
  induction n with
  | zero => intro a; rfl
  | succ n ih => intro a; simp [marked, ih]
theorem marked_snoc (n : Nat) : ∀ a, marked a n ++ [(a + n) % 256] = marked a (n + 1) := by
  induction n with
  | zero => intro a; simp [marked]
  | succ n ih =>
    intro a
    have := ih (a + 1)
    simp only [marked, List.cons_append] at this ⊢
    rw [← this]
    congr 3
    omega
theorem marked_getD (n : Nat) : ∀ a i, i < n → (marked a n).getD i 0 = (a + i) % 256 := by
  induction n with
  | zero => intro a i h; omega
  | succ n ih =>
    intro a i h
    cases i with
    | zero => simp [marked]
    | succ i =>
      have := ih (a + 1) i (by omega)
      simp only [marked, List.getD_cons_succ] at this ⊢
      rw [this]
      congr 1
      omega
theorem markByteS_l0 (l : List Int) (a : Int) (h0 : 0 ≤ a) (ha : a + l.length ≤ 4611686018427387904) (n : Nat) : ∀ i : Nat, i + n = l.length →
    Ev (fun k => laws_markByteS.l0 k (marked a i ++ l.drop i) (a + i) (i : Int)) (a + l.length, marked a l.length) := by
  induction n with
  | zero =>
    intro i hi
    refine Ev.step (fun k => laws_markByteS.l0.eq_2 ..) ?_
    refine ev_neg (by rw [List.length_append, marked_length, List.length_drop]; omega) (ev_ret ?_)
    obtain rfl : i = l.length := by omega
    rw [List.drop_length, List.append_nil]
  | succ n ih =>
    intro i hi
    refine Ev.step (fun k => laws_markByteS.l0.eq_2 ..) ?_
    refine ev_pos (by rw [List.length_append, marked_length, List.length_drop]; omega) (ev_pos (by omega) ?_)
    rw [wr_succ (by omega), Int.toNat_natCast, wr (n := a + i + 1) (by omega) (by omega), drop_getD l 0 i (by omega),
      List.set_append_right _ _ (by rw [marked_length]; exact Nat.le_refl _), marked_length, Nat.sub_self, List.set_cons_zero]
    have := ih (i + 1) (by omega)
    rw [← marked_snoc, List.append_assoc] at this
    rw [show a + (i : Int) + 1 = a + ((i + 1 : Nat) : Int) by omega]
    exact this
theorem markByteS (l : List Int) (a : Int) (h0 : 0 ≤ a) (ha : a + l.length ≤ 4611686018427387904) :
    Ev (fun k => laws_markByteS.f k l a) (a + l.length, marked a l.length) := by
  unfold laws_markByteS.f
  have := markByteS_l0 l a h0 ha l.length 0 (by omega)
  simpa [marked] using this
theorem heldByteS_l0 (a : Int) (m : Nat) (h0 : 0 ≤ a) (ha : a + m ≤ 4611686018427387904) (n : Nat) : ∀ i : Nat, i + n = m →
    Ev (fun k => laws_heldByteS.l0 k (marked a m) (a + i) (i : Int)) (a + m) := by
  induction n with
  | zero =>
    intro i hi
    refine Ev.step (fun k => laws_heldByteS.l0.eq_2 ..) ?_
    refine ev_neg (by rw [marked_length]; omega) (ev_ret ?_)
    omega
  | succ n ih =>
    intro i hi
    refine Ev.step (fun k => laws_heldByteS.l0.eq_2 ..) ?_
    refine ev_pos (by rw [marked_length]; omega) (ev_pos (by omega) (ev_pos (by rw [rd_nat, marked_getD _ _ _ (by omega)]) ?_))
    rw [wr_succ (by omega), wr (n := a + i + 1) (by omega) (by omega), show a + (i : Int) + 1 = a + ((i + 1 : Nat) : Int) by omega]
    exact ih (i + 1) (by omega)
theorem heldByteS (a : Int) (m : Nat) (h0 : 0 ≤ a) (ha : a + m ≤ 4611686018427387904) :
    Ev (fun k => laws_heldByteS.f k (marked a m) a) (a + m) := by
  unfold laws_heldByteS.f
  have := heldByteS_l0 a m h0 ha m 0 (by omega)
  simpa using this
theorem digest_a (a0 : Int) (l : List Int) (h1 : 2 ≤ a0 ∧ a0 ≤ 60) (h2 : l.length ≤ 4000) : impl_Squeeze.f a0 l 1 = some ([Dig.out a0 (Dig.rnds 6 (Dig.taken l))], true) := by
  unfold impl_Squeeze.f
  rw [if_pos h1, if_pos h2, if_pos (by decide)]
  generalize Dig.rnds 6 (Dig.taken l) = s
  simp only [Int.toNat_one, Dig.squeeze]
theorem digest_b (a0 : Int) (l : List Int) (h : ¬ ((2 ≤ a0 ∧ a0 ≤ 60) ∧ l.length ≤ 4000)) : impl_Squeeze.f a0 l 1 = some ([], false) := by
  unfold impl_Squeeze.f
  by_cases h1 : 2 ≤ a0 ∧ a0 ≤ 60
  · rw [if_pos h1, if_neg (fun h2 => h ⟨h1, h2⟩)]
  · rw [if_neg h1]
theorem digest_fin (x : Int) : ((some ([x], true) : Option (List Int × Bool)).bind fun bt => (if bt.2 = true then (if 0 < (bt.1.length : Int) then (some (rd bt.1 0)) else (none)) else (some (-1)))) = some x := by
  rw [Option.bind_some, if_pos rfl, if_pos (by simp)]
  rfl
theorem digest_non : ((some ([], false) : Option (List Int × Bool)).bind fun bt => (if bt.2 = true then (if 0 < (bt.1.length : Int) then (some (rd bt.1 0)) else (none)) else (some (-1)))) = some (-1) := by
  rw [Option.bind_some, if_neg (by simp)]
theorem impl_digest (a0 : Int) (l : List Int) : impl_Digest.f a0 l = some (Dig.digest a0 l) := by
  unfold impl_Digest.f
  by_cases h1 : 2 ≤ a0 ∧ a0 ≤ 60
  · by_cases h2 : l.length ≤ 4000
    · have e : Dig.digest a0 l = Dig.out a0 (Dig.rnds 6 (Dig.taken l)) := by
        unfold Dig.digest
        rw [if_pos h1, if_pos h2]
      rw [digest_a a0 l h1 h2, e]
      exact digest_fin _
    · have e : Dig.digest a0 l = -1 := by
        unfold Dig.digest
        rw [if_pos h1, if_neg h2]
      rw [digest_b a0 l (fun h => h2 h.2), e]
      exact digest_non
  · have e : Dig.digest a0 l = -1 := by
      unfold Dig.digest
      rw [if_neg h1]
    rw [digest_b a0 l (fun h => h1 h.1), e]
    exact digest_non

theorem spec_turn13 (x : Int) : spec_l1Turn.f x 13 = some (Dig.r13 x) := by
  have e : wrap64 (64 - 13) = 51 := by unfold wrap64; decide
  unfold spec_l1Turn.f
  rw [e, if_pos (by decide), if_pos (by decide)]
  have e1 : shl .u64 x 13 = IntKind.u64.wrap (x * 8192) := by
    unfold shl
    rw [show (2 : Int) ^ min (13 : Int).toNat IntKind.u64.bits = 8192 by decide]
  have e2 : shr .u64 x 51 = x / 2251799813685248 := by
    unfold shr
    rw [show (2 : Int) ^ min (51 : Int).toNat IntKind.u64.bits = 2251799813685248 by decide]
  rw [e1, e2]
  rfl
theorem spec_turn29 (x : Int) : spec_l1Turn.f x 29 = some (Dig.r29 x) := by
  have e : wrap64 (64 - 29) = 35 := by unfold wrap64; decide
  unfold spec_l1Turn.f
  rw [e, if_pos (by decide), if_pos (by decide)]
  have e1 : shl .u64 x 29 = IntKind.u64.wrap (x * 536870912) := by
    unfold shl
    rw [show (2 : Int) ^ min (29 : Int).toNat IntKind.u64.bits = 536870912 by decide]
  have e2 : shr .u64 x 35 = x / 34359738368 := by
    unfold shr
    rw [show (2 : Int) ^ min (35 : Int).toNat IntKind.u64.bits = 34359738368 by decide]
  rw [e1, e2]
  rfl
theorem spec_turn41 (x : Int) : spec_l1Turn.f x 41 = some (Dig.r41 x) := by
  have e : wrap64 (64 - 41) = 23 := by unfold wrap64; decide
  unfold spec_l1Turn.f
  rw [e, if_pos (by decide), if_pos (by decide)]
  have e1 : shl .u64 x 41 = IntKind.u64.wrap (x * 2199023255552) := by
    unfold shl
    rw [show (2 : Int) ^ min (41 : Int).toNat IntKind.u64.bits = 2199023255552 by decide]
  have e2 : shr .u64 x 23 = x / 8388608 := by
    unfold shr
    rw [show (2 : Int) ^ min (23 : Int).toNat IntKind.u64.bits = 8388608 by decide]
  rw [e1, e2]
  rfl
theorem spec_round (a b c : Int) : spec_l1Round.f a b c = some (Dig.rnd (a, b, c)) := by
  unfold spec_l1Round.f
  simp only [spec_turn13, spec_turn29, spec_turn41, Option.bind_some, Dig.rnd0_left, Dig.rnd1_left, Dig.rnd2_left]
  rfl
theorem spec_out_l0 (bits : Int) (hb : 0 ≤ bits) (m : Nat) (hm : m ≤ 1000) (n : Nat) : ∀ (i : Nat) (a b c : Int), i + n = m →
    Ev (fun k => spec_l1Out.l0 k bits (m : Int) (i : Int) a b c) (Dig.out bits (Dig.rnds n (a, b, c))) := by
  induction n with
  | zero =>
    intro i a b c hi
    refine Ev.step (fun k => spec_l1Out.l0.eq_2 ..) ?_
    exact ev_neg (by omega) (ev_pos hb (ev_ret rfl))
  | succ n ih =>
    intro i a b c hi
    refine Ev.step (fun k => spec_l1Out.l0.eq_2 ..) ?_
    refine ev_pos (by omega) (ev_pure (spec_round a b c) ?_)
    rw [wr_succ (by omega)]
    exact ih (i + 1) _ _ _ (by omega)
theorem spec_out {bits : Int} (hb : 0 ≤ bits) (a b c : Int) (m : Nat) (hm : m ≤ 1000) : Ev (fun k => spec_l1Out.f k bits a b c (m : Int)) (Dig.out bits (Dig.rnds m (a, b, c))) := by
  unfold spec_l1Out.f
  exact spec_out_l0 bits hb m hm m 0 a b c (Nat.zero_add _)
theorem spec_digest_l0 {bits : Int} (hb : 0 ≤ bits) (l : List Int) (hl : l.length ≤ 4000) (n : Nat) : ∀ (i : Nat) (a b c : Int), i + n = l.length → Dig.takes (l.take i) (1, 2, 3) = (a, b, c) →
    Ev (fun k => spec_Digest.l0 k bits l (i : Int) a b c) (Dig.out bits (Dig.rnds 6 (Dig.taken l))) := by
  induction n with
  | zero =>
    intro i a b c hi hs
    refine Ev.step (fun k => spec_Digest.l0.eq_2 ..) ?_
    rw [List.take_of_length_le (by omega)] at hs
    refine ev_neg (by omega) ?_
    have e : Dig.taken l = (Go.bits .xor .u64 a (IntKind.u64.wrap (l.length : Int)), b, c) := by
      unfold Dig.taken
      rw [hs]
      rfl
    refine ev_bind (a := Dig.out bits (Dig.rnds 6 (Dig.taken l))) ?_ (ev_ret rfl)
    rw [e]
    exact spec_out hb _ _ _ 6 (by decide)
  | succ n ih =>
    intro i a b c hi hs
    refine Ev.step (fun k => spec_Digest.l0.eq_2 ..) ?_
    refine ev_pos (by omega) (ev_pos (by omega) (ev_pure (spec_round _ _ _) (ev_pure (spec_round _ _ _) ?_)))
    rw [wr_succ (by omega)]
    refine ih (i + 1) _ _ _ (by omega) ?_
    have et : l.take (i + 1) = l.take i ++ [rd l (i : Int)] := by
      rw [rd_nat, take_getD l 0 i (by omega)]
    rw [et, Dig.takes_snoc, hs]
    rfl
theorem spec_digest (a0 : Int) (l : List Int) : Ev (fun k => spec_Digest.f k a0 l) (Dig.digest a0 l) := by
  unfold spec_Digest.f Dig.digest
  refine ev_pure (a := decide (2 ≤ a0 ∧ a0 ≤ 60)) (by unfold spec_l1In.f; by_cases h : a0 ≥ 2 <;> simp [h]) ?_
  by_cases h1 : 2 ≤ a0 ∧ a0 ≤ 60
  · rw [if_pos h1]
    refine ev_pos (by simp [h1]) ?_
    refine Ev.step (fun k => spec_Digest.j0.eq_2 ..) ?_
    by_cases h2 : l.length ≤ 4000
    · rw [if_pos h2]
      refine ev_neg (by simp; omega) ?_
      exact spec_digest_l0 (by omega) l h2 l.length 0 1 2 3 (Nat.zero_add _) rfl
    · rw [if_neg h2]
      exact ev_pos (by simp; omega) (ev_ret rfl)
  · rw [if_neg h1]
    refine ev_neg (by simp; omega) ?_
    refine Ev.step (fun k => spec_Digest.j0.eq_2 ..) ?_
    exact ev_pos rfl (ev_ret rfl)
/-- The two texts collide. -/
def coll (b : Int) (p q : List Int) : Bool := decide (0 ≤ Dig.digest b p) && (decide (Dig.digest b p = Dig.digest b q) && !((strOfNums p).toList == (strOfNums q).toList))
theorem impl_coll (b : Int) (p q : List Int) : impl_Collides.f b p q = some (coll b p q) := by
  unfold impl_Collides.f coll bytes_Equal.f
  rw [impl_digest, Option.bind_some]
  generalize Dig.digest b p = x
  by_cases h : x ≥ 0
  · rw [if_pos h, Option.bind_some]
    by_cases hs : ((strOfNums p).toList == (strOfNums q).toList) = true
    · rw [if_pos hs, hs]
      simp
    · rw [if_neg hs, impl_digest, Option.bind_some]
      generalize Dig.digest b q = y
      simp only [Bool.not_eq_true] at hs
      rw [hs]
      simp [h]
      try rfl
  · rw [if_neg h]
    simp [h]
    try omega
theorem spec_coll (b : Int) (p q : List Int) : Ev (fun k => spec_Collides.f k b p q) (coll b p q) := by
  unfold spec_Collides.f coll
  refine ev_bind (spec_digest b p) ?_
  have hq := spec_digest b q
  generalize Dig.digest b p = x
  generalize Dig.digest b q = y at hq ⊢
  by_cases h : x ≥ 0
  · refine ev_pos h (ev_bind hq ?_)
    by_cases he : x = y
    · refine ev_pos he (ev_pure (a := ((strOfNums p).toList == (strOfNums q).toList)) rfl (ev_ret ?_))
      subst he
      simp [h]
      try omega
    · exact ev_neg he (ev_ret (by simp [he]))
  · exact ev_neg h (ev_ret (by simp [h]; try omega))
theorem eqPair (p q : List Int) (hp : p.length ≤ 140737488355328) (hq : q.length ≤ 140737488355328) : Ev (fun k => laws_eqPair.f k p q p q) true := by
  unfold laws_eqPair.f
  exact ev_bind (eqByteS p hp) (ev_pos rfl (ev_bind (eqByteS q hq) (ev_pos rfl (ev_ret rfl))))
theorem markPair (p q : List Int) (hp : p.length ≤ 140737488355328) (hq : q.length ≤ 140737488355328) : Ev (fun k => laws_markPair.f k p q 1) (1 + (p.length : Int) + (q.length : Int), marked 1 p.length, marked (1 + p.length) q.length) := by
  unfold laws_markPair.f
  exact ev_bind (markByteS p 1 (by decide) (by omega)) (ev_bind (markByteS q (1 + p.length) (by omega) (by omega)) (ev_ret rfl))
theorem heldPair (m n : Nat) (hp : m ≤ 140737488355328) (hq : n ≤ 140737488355328) : Ev (fun k => laws_heldPair.f k (marked 1 m) (marked (1 + m) n) 1) (1 + (m : Int) + (n : Int)) := by
  unfold laws_heldPair.f
  exact ev_bind (heldByteS 1 m (by decide) (by omega)) (ev_neg (by omega) (ev_bind (heldByteS (1 + m) n (by omega) (by omega)) (ev_neg (by omega) (ev_ret rfl))))
/-- FromData's answer. -/
def fromData (b : Int) (p q : List Int) : List Int × List Int × Bool := if coll b p q = true then (p, q, true) else ([], [], false)
theorem impl_fromdata (b : Int) {p q : List Int} (hp : p.length ≤ 1048576) (hq : q.length ≤ 1048576) : impl_FromData.f b p q = some (fromData b p q) := by
  unfold impl_FromData.f fromData
  rw [impl_coll, Option.bind_some]
  by_cases h : coll b p q = true
  · rw [if_pos h, if_pos h]
    unfold impl_pairOf.f bytes_Clone.f
    rw [if_pos (by omega), if_pos (by omega)]
    rfl
  · rw [if_neg h, if_neg h]
theorem spec_bytes {p : List Int} (hp : p.length ≤ 1048576) : spec_l1Bytes.f p = some p := by
  unfold spec_l1Bytes.f
  rw [Option.bind_some, if_pos (by simp only [List.length_nil]; omega), List.nil_append]
theorem spec_fromdata (b : Int) {p q : List Int} (hp : p.length ≤ 1048576) (hq : q.length ≤ 1048576) : Ev (fun k => spec_FromData.f k b p q) (fromData b p q) := by
  unfold spec_FromData.f fromData
  refine ev_pure (spec_bytes hp) (ev_pure (spec_bytes hq) (ev_bind (spec_coll b p q) ?_))
  by_cases h : coll b p q = true
  · exact ev_pos h (ev_ret (by rw [if_pos h]))
  · exact ev_neg h (ev_ret (by rw [if_neg h]))
theorem fromdata_j1 (b : Int) {p q : List Int} (hp : p.length ≤ 1048576) (hq : q.length ≤ 1048576) (x y : List Int) (o : Bool) (e : fromData b p q = (x, y, o)) (hx : x.length ≤ 1048576) (hy : y.length ≤ 1048576) :
    Ev (fun k => laws_FnExactFromData.j1 k b p q o false x y x y) true := by
  refine Ev.step (fun k => laws_FnExactFromData.j1.eq_2 ..) (ev_neg (by decide) (ev_bind (markPair x y (by omega) (by omega)) ?_))
  have hh := heldPair x.length y.length (by omega) (by omega)
  refine ev_bind hh (ev_neg (by omega) (ev_pos rfl (ev_bind (toByteS p (by omega)) (ev_bind (toByteS q (by omega)) (ev_pure (impl_fromdata b hp hq) ?_)))))
  rw [e]
  refine ev_bind (eqPair x y (by omega) (by omega)) (ev_pos rfl (Ev.step (fun k => laws_FnExactFromData.j2.eq_2 ..) (ev_neg (by simp) (ev_bind hh (ev_neg (by omega) (ev_pos rfl (ev_ret rfl)))))))
theorem fromdata_j0 (b : Int) {p q : List Int} (hp : p.length ≤ 1048576) (hq : q.length ≤ 1048576) (x y : List Int) (o : Bool) (e : fromData b p q = (x, y, o)) (hx : x.length ≤ 1048576) (hy : y.length ≤ 1048576) :
    Ev (fun k => laws_FnExactFromData.j0 k b p q o p q o false x y x y) true := by
  refine Ev.step (fun k => laws_FnExactFromData.j0.eq_2 ..) (ev_neg (by decide) (ev_bind (toByteS p (by omega)) (ev_bind (eqByteS p (by omega)) (ev_pos rfl (ev_bind (toByteS q (by omega)) (ev_bind (eqByteS q (by omega)) (ev_pos rfl ?_)))))))
  refine ev_bind (markByteS p 1 (by decide) (by omega)) (ev_bind (markByteS q (1 + p.length) (by omega) (by omega)) (ev_neg ?_ (ev_bind (eqPair x y (by omega) (by omega)) (ev_pos rfl ?_))))
  · show ¬ (1 + (p.length : Int) + (q.length : Int) < 0)
    omega
  · have := fromdata_j1 b hp hq x y o e hx hy
    rw [bne_self_eq_false]
    exact this
theorem FnExactFromData : laws_FnExactFromData.Pure := by
  intro b p q
  intros
  refine Ev.rounds ?_
  unfold laws_FnExactFromData.f
  by_cases h : (p.length : Int) > 1048576
  · exact ev_pos h (ev_ret rfl)
  by_cases h2 : (q.length : Int) > 1048576
  · exact ev_neg h (ev_pos h2 (ev_ret rfl))
  have hp : p.length ≤ 1048576 := by omega
  have hq : q.length ≤ 1048576 := by omega
  have tp := toByteS p (by omega)
  have tq := toByteS q (by omega)
  have hl : (fromData b p q).1.length ≤ 1048576 ∧ (fromData b p q).2.1.length ≤ 1048576 := by
    unfold fromData
    split
    · exact ⟨hp, hq⟩
    · exact ⟨Nat.zero_le _, Nat.zero_le _⟩
  refine ev_neg h (ev_neg h2 (ev_bind tp (ev_bind tq (ev_bind (spec_fromdata b hp hq) (ev_bind tp (ev_bind tq (ev_pure (impl_fromdata b hp hq) ?_)))))))
  generalize e : fromData b p q = r at hl ⊢
  obtain ⟨x, y, o⟩ := r
  have hl1 : x.length ≤ 1048576 := hl.1
  have hl2 : y.length ≤ 1048576 := hl.2
  refine ev_bind (eqPair x y (by omega) (by omega)) (ev_pos rfl ?_)
  have := fromdata_j0 b hp hq x y o e hl.1 hl.2
  rw [bne_self_eq_false]
  exact this

end Go.Proofs.Ytmcpnganobehaaa.Pure
