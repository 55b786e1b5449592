/- Squeeze answers as the reference's Squeeze, at every two numbers and every list of bytes (of at most 2^20), in memory of its own. -/
import Derived.Test.YtmcpnganobehaaaPFnExactSqueezex4
import Derived.Test.YtmcpnganobehaaaKit
import Derived.Test.YtmcpnganobehaaaDig
namespace Go.Proofs.Ytmcpnganobehaaa.Pure
open Go.RowKit Go.Proofs.Ytmcpnganobehaaa Go.Proofs.Ytmcpnganobehaaa.PFnExactSqueeze Go.Proofs.YtmcpnganobehaaaW.PrintWords Go.Proofs.YtmcpnganobehaaaW.PrintLast Go.Proofs.YtmcpnganobehaaaW.PrintMore Go.Proofs.Ytmcpnganobehaaa.K
set_option linter.unusedVariables false

theorem toByteS_l0 (l : List Int) (hl : l.length ≤ 9223372036854775806) (n : Nat) : ∀ i : Nat, i + n = l.length →
    Ev (fun k => laws_toByteS.l0 k l (l.take i ++ List.replicate n 0) (i : Int)) l := by
  induction n with
  | zero =>
    intro i hi
    refine Ev.step (fun k => laws_toByteS.l0.eq_2 ..) ?_
    refine ev_neg (by omega) (ev_ret ?_)
    rw [List.replicate_zero, List.append_nil, List.take_of_length_le (by omega)]
  | succ n ih =>
    intro i hi
    refine Ev.step (fun k => laws_toByteS.l0.eq_2 ..) ?_
    have hlen : (l.take i).length = i := by rw [List.length_take]; omega
    refine ev_pos (by omega) (ev_pos (by omega) (ev_pos (by rw [List.length_append, hlen, List.length_replicate]; omega) ?_))
    rw [wr_succ (by omega), rd_nat, Int.toNat_natCast]
    have e := set_fill (l.take i) (l.getD i 0) 0 n
    rw [hlen, take_getD l 0 i (by omega)] at e
    rw [e]
    exact ih (i + 1) (by omega)
theorem toByteS (l : List Int) (hl : l.length ≤ 140737488355328) : Ev (fun k => laws_toByteS.f k l) l := by
  unfold laws_toByteS.f
  refine ev_pos (by omega) (ev_pos (by omega) ?_)
  have := toByteS_l0 l (by omega) l.length 0 (by omega)
  simpa using this
theorem eqByteS_l0 (l : List Int) (hl : l.length ≤ 9223372036854775806) (n : Nat) : ∀ i : Nat, i + n = l.length →
    Ev (fun k => laws_eqByteS.l0 k l l (i : Int)) true := by
  induction n with
  | zero =>
    intro i hi
    refine Ev.step (fun k => laws_eqByteS.l0.eq_2 ..) ?_
    exact ev_neg (by omega) (ev_ret rfl)
  | succ n ih =>
    intro i hi
    refine Ev.step (fun k => laws_eqByteS.l0.eq_2 ..) ?_
    refine ev_pos (by omega) (ev_pos (by omega) (ev_pos (by omega) (ev_pos rfl ?_)))
    rw [wr_succ (by omega)]
    exact ih (i + 1) (by omega)
theorem eqByteS (l : List Int) (hl : l.length ≤ 140737488355328) : Ev (fun k => laws_eqByteS.f k l l) true := by
  unfold laws_eqByteS.f
  exact ev_pos rfl (eqByteS_l0 l (by omega) l.length 0 (by omega))
theorem eqIntS_l0 (l : List Int) (hl : l.length ≤ 9223372036854775806) (n : Nat) : ∀ i : Nat, i + n = l.length →
    Ev (fun k => laws_eqIntS.l0 k l l (i : Int)) true := by
  induction n with
  | zero =>
    intro i hi
    refine Ev.step (fun k => laws_eqIntS.l0.eq_2 ..) ?_
    exact ev_neg (by omega) (ev_ret rfl)
  | succ n ih =>
    intro i hi
    refine Ev.step (fun k => laws_eqIntS.l0.eq_2 ..) ?_
    refine ev_pos (by omega) (ev_pos (by omega) (ev_pos (by omega) (ev_pos rfl ?_)))
    rw [wr_succ (by omega)]
    exact ih (i + 1) (by omega)
theorem eqIntS (l : List Int) (hl : l.length ≤ 140737488355328) : Ev (fun k => laws_eqIntS.f k l l) true := by
  unfold laws_eqIntS.f
  exact ev_pos rfl (eqIntS_l0 l (by omega) l.length 0 (by omega))
def marked (a : Int) : Nat → List Int
  | 0 => []
  | n + 1 => (a % 256) :: marked (a + 1) n
theorem marked_length (n : Nat) : ∀ a, (marked a n).length = n := by
  induction n with
  | zero => intro a; rfl
  | succ n ih => intro a; simp [marked, ih]
theorem marked_snoc (n : Nat) : ∀ a, marked a n ++ [(a + n) % 256] = marked a (n + 1) := by
  induction n with
  | zero => intro a; simp [marked]
  | succ n ih =>
    intro a
    have := ih (a + 1)
    simp only [marked, List.cons_append] at this ⊢
    rw [← this]
    congr 3
    omega
theorem marked_getD (n : Nat) : ∀ a i, i < n → (marked a n).getD i 0 = (a + i) % 256 := by
  induction n with
  | zero => intro a i h; omega
  | succ n ih =>
    intro a i h
    cases i with
    | zero => simp [marked]
    | succ i =>
      have := ih (a + 1) i (by omega)
      simp only [marked, List.getD_cons_succ] at this ⊢
      rw [this]
      congr 1
      omega
theorem markByteS_l0 (l : List Int) (a : Int) (h0 : 0 ≤ a) (ha : a + l.length ≤ 4611686018427387904) (n : Nat) : ∀ i : Nat, i + n = l.length →
    Ev (fun k => laws_markByteS.l0 k (marked a i ++ l.drop i) (a + i) (i : Int)) (a + l.length, marked a l.length) := by
  induction n with
  | zero =>
    intro i hi
    refine Ev.step (fun k => laws_markByteS.l0.eq_2 ..) ?_
    refine ev_neg (by rw [List.length_append, marked_length, List.length_drop]; omega) (ev_ret ?_)
    obtain rfl : i = l.length := by omega
    rw [List.drop_length, List.append_nil]
  | succ n ih =>
    intro i hi
    refine Ev.step (fun k => laws_markByteS.l0.eq_2 ..) ?_
    refine ev_pos (by rw [List.length_append, marked_length, List.length_drop]; omega) (ev_pos (by omega) ?_)
    rw [wr_succ (by omega), Int.toNat_natCast, wr (n := a + i + 1) (by omega) (by omega), drop_getD l 0 i (by omega),
      List.set_append_right _ _ (by rw [marked_length]; exact Nat.le_refl _), marked_length, Nat.sub_self, List.set_cons_zero]
    have := ih (i + 1) (by omega)
    rw [← marked_snoc, List.append_assoc] at this
    rw [show a + (i : Int) + 1 = a + ((i + 1 : Nat) : Int) by omega]
    exact this
theorem markByteS (l : List Int) (a : Int) (h0 : 0 ≤ a) (ha : a + l.length ≤ 4611686018427387904) :
    Ev (fun k => laws_markByteS.f k l a) (a + l.length, marked a l.length) := by
  unfold laws_markByteS.f
  have := markByteS_l0 l a h0 ha l.length 0 (by omega)
  simpa [marked] using this
def markedI (a : Int) : Nat → List Int
  | 0 => []
  | n + 1 => a :: markedI (a + 1) n
theorem markedI_length (n : Nat) : ∀ a, (markedI a n).length = n := by
  induction n with
  | zero => intro a; rfl
  | succ n ih => intro a; simp [markedI, ih]
theorem markedI_snoc (n : Nat) : ∀ a, markedI a n ++ [a + n] = markedI a (n + 1) := by
  induction n with
  | zero => intro a; simp [markedI]
  | succ n ih =>
    intro a
    have := ih (a + 1)
    simp only [markedI, List.cons_append] at this ⊢
    rw [← this]
    congr 3
    omega
theorem markedI_getD (n : Nat) : ∀ a i, i < n → (markedI a n).getD i 0 = a + i := by
  induction n with
  | zero => intro a i h; omega
  | succ n ih =>
    intro a i h
    cases i with
    | zero => simp [markedI]
    | succ i =>
      have := ih (a + 1) i (by omega)
      simp only [markedI, List.getD_cons_succ] at this ⊢
      rw [this]
      omega
theorem markIntS_l0 (l : List Int) (a : Int) (h0 : 0 ≤ a) (ha : a + l.length ≤ 4611686018427387904) (n : Nat) : ∀ i : Nat, i + n = l.length →
    Ev (fun k => laws_markIntS.l0 k (markedI a i ++ l.drop i) (a + i) (i : Int)) (a + l.length, markedI a l.length) := by
  induction n with
  | zero =>
    intro i hi
    refine Ev.step (fun k => laws_markIntS.l0.eq_2 ..) ?_
    refine ev_neg (by rw [List.length_append, markedI_length, List.length_drop]; omega) (ev_ret ?_)
    obtain rfl : i = l.length := by omega
    rw [List.drop_length, List.append_nil]
  | succ n ih =>
    intro i hi
    refine Ev.step (fun k => laws_markIntS.l0.eq_2 ..) ?_
    refine ev_pos (by rw [List.length_append, markedI_length, List.length_drop]; omega) (ev_pos (by omega) ?_)
    rw [wr_succ (by omega), Int.toNat_natCast, wr (n := a + i + 1) (by omega) (by omega), drop_getD l 0 i (by omega),
      List.set_append_right _ _ (by rw [markedI_length]; exact Nat.le_refl _), markedI_length, Nat.sub_self, List.set_cons_zero]
    have := ih (i + 1) (by omega)
    rw [← markedI_snoc, List.append_assoc] at this
    rw [show a + (i : Int) + 1 = a + ((i + 1 : Nat) : Int) by omega]
    exact this
theorem markIntS (l : List Int) (a : Int) (h0 : 0 ≤ a) (ha : a + l.length ≤ 4611686018427387904) :
    Ev (fun k => laws_markIntS.f k l a) (a + l.length, markedI a l.length) := by
  unfold laws_markIntS.f
  have := markIntS_l0 l a h0 ha l.length 0 (by omega)
  simpa [markedI] using this
theorem heldIntS_l0 (a : Int) (m : Nat) (h0 : 0 ≤ a) (ha : a + m ≤ 4611686018427387904) (n : Nat) : ∀ i : Nat, i + n = m →
    Ev (fun k => laws_heldIntS.l0 k (markedI a m) (a + i) (i : Int)) (a + m) := by
  induction n with
  | zero =>
    intro i hi
    refine Ev.step (fun k => laws_heldIntS.l0.eq_2 ..) ?_
    refine ev_neg (by rw [markedI_length]; omega) (ev_ret ?_)
    omega
  | succ n ih =>
    intro i hi
    refine Ev.step (fun k => laws_heldIntS.l0.eq_2 ..) ?_
    refine ev_pos (by rw [markedI_length]; omega) (ev_pos (by omega) (ev_pos (by rw [rd_nat, markedI_getD _ _ _ (by omega)]) ?_))
    rw [wr_succ (by omega), wr (n := a + i + 1) (by omega) (by omega), show a + (i : Int) + 1 = a + ((i + 1 : Nat) : Int) by omega]
    exact ih (i + 1) (by omega)
theorem heldIntS (a : Int) (m : Nat) (h0 : 0 ≤ a) (ha : a + m ≤ 4611686018427387904) :
    Ev (fun k => laws_heldIntS.f k (markedI a m) a) (a + m) := by
  unfold laws_heldIntS.f
  have := heldIntS_l0 a m h0 ha m 0 (by omega)
  simpa using this
theorem spec_turn13 (x : Int) : spec_l1Turn.f x 13 = some (Dig.r13 x) := by
  have e : wrap64 (64 - 13) = 51 := by unfold wrap64; decide
  unfold spec_l1Turn.f
  rw [e, if_pos (by decide), if_pos (by decide)]
  have e1 : shl .u64 x 13 = IntKind.u64.wrap (x * 8192) := by
    unfold shl
    rw [show (2 : Int) ^ min (13 : Int).toNat IntKind.u64.bits = 8192 by decide]
  have e2 : shr .u64 x 51 = x / 2251799813685248 := by
    unfold shr
    rw [show (2 : Int) ^ min (51 : Int).toNat IntKind.u64.bits = 2251799813685248 by decide]
  rw [e1, e2]
  rfl
theorem spec_turn29 (x : Int) : spec_l1Turn.f x 29 = some (Dig.r29 x) := by
  have e : wrap64 (64 - 29) = 35 := by unfold wrap64; decide
  unfold spec_l1Turn.f
  rw [e, if_pos (by decide), if_pos (by decide)]
  have e1 : shl .u64 x 29 = IntKind.u64.wrap (x * 536870912) := by
    unfold shl
    rw [show (2 : Int) ^ min (29 : Int).toNat IntKind.u64.bits = 536870912 by decide]
  have e2 : shr .u64 x 35 = x / 34359738368 := by
    unfold shr
    rw [show (2 : Int) ^ min (35 : Int).toNat IntKind.u64.bits = 34359738368 by decide]
  rw [e1, e2]
  rfl
theorem spec_turn41 (x : Int) : spec_l1Turn.f x 41 = some (Dig.r41 x) := by
  have e : wrap64 (64 - 41) = 23 := by unfold wrap64; decide
  unfold spec_l1Turn.f
  rw [e, if_pos (by decide), if_pos (by decide)]
  have e1 : shl .u64 x 41 = IntKind.u64.wrap (x * 2199023255552) := by
    unfold shl
    rw [show (2 : Int) ^ min (41 : Int).toNat IntKind.u64.bits = 2199023255552 by decide]
  have e2 : shr .u64 x 23 = x / 8388608 := by
    unfold shr
    rw [show (2 : Int) ^ min (23 : Int).toNat IntKind.u64.bits = 8388608 by decide]
  rw [e1, e2]
  rfl
theorem spec_round (a b c : Int) : spec_l1Round.f a b c = some (Dig.rnd (a, b, c)) := by
  unfold spec_l1Round.f
  simp only [spec_turn13, spec_turn29, spec_turn41, Option.bind_some, Dig.rnd0_left, Dig.rnd1_left, Dig.rnd2_left]
  rfl
theorem spec_out_l0 (bits : Int) (hb : 0 ≤ bits) (m : Nat) (hm : m ≤ 1000) (n : Nat) : ∀ (i : Nat) (a b c : Int), i + n = m →
    Ev (fun k => spec_l1Out.l0 k bits (m : Int) (i : Int) a b c) (Dig.out bits (Dig.rnds n (a, b, c))) := by
  induction n with
  | zero =>
    intro i a b c hi
    refine Ev.step (fun k => spec_l1Out.l0.eq_2 ..) ?_
    exact ev_neg (by omega) (ev_pos hb (ev_ret rfl))
  | succ n ih =>
    intro i a b c hi
    refine Ev.step (fun k => spec_l1Out.l0.eq_2 ..) ?_
    refine ev_pos (by omega) (ev_pure (spec_round a b c) ?_)
    rw [wr_succ (by omega)]
    exact ih (i + 1) _ _ _ (by omega)
theorem spec_out {bits : Int} (hb : 0 ≤ bits) (a b c : Int) (m : Nat) (hm : m ≤ 1000) : Ev (fun k => spec_l1Out.f k bits a b c (m : Int)) (Dig.out bits (Dig.rnds m (a, b, c))) := by
  unfold spec_l1Out.f
  exact spec_out_l0 bits hb m hm m 0 a b c (Nat.zero_add _)
theorem spec_digest_l0 {bits : Int} (hb : 0 ≤ bits) (l : List Int) (hl : l.length ≤ 4000) (n : Nat) : ∀ (i : Nat) (a b c : Int), i + n = l.length → Dig.takes (l.take i) (1, 2, 3) = (a, b, c) →
    Ev (fun k => spec_Digest.l0 k bits l (i : Int) a b c) (Dig.out bits (Dig.rnds 6 (Dig.taken l))) := by
  induction n with
  | zero =>
    intro i a b c hi hs
    refine Ev.step (fun k => spec_Digest.l0.eq_2 ..) ?_
    rw [List.take_of_length_le (by omega)] at hs
    refine ev_neg (by omega) ?_
    have e : Dig.taken l = (Go.bits .xor .u64 a (IntKind.u64.wrap (l.length : Int)), b, c) := by
      unfold Dig.taken
      rw [hs]
      rfl
    refine ev_bind (a := Dig.out bits (Dig.rnds 6 (Dig.taken l))) ?_ (ev_ret rfl)
    rw [e]
    exact spec_out hb _ _ _ 6 (by decide)
  | succ n ih =>
    intro i a b c hi hs
    refine Ev.step (fun k => spec_Digest.l0.eq_2 ..) ?_
    refine ev_pos (by omega) (ev_pos (by omega) (ev_pure (spec_round _ _ _) (ev_pure (spec_round _ _ _) ?_)))
    rw [wr_succ (by omega)]
    refine ih (i + 1) _ _ _ (by omega) ?_
    have et : l.take (i + 1) = l.take i ++ [rd l (i : Int)] := by
      rw [rd_nat, take_getD l 0 i (by omega)]
    rw [et, Dig.takes_snoc, hs]
    rfl
theorem spec_digest (a0 : Int) (l : List Int) : Ev (fun k => spec_Digest.f k a0 l) (Dig.digest a0 l) := by
  unfold spec_Digest.f Dig.digest
  refine ev_pure (a := decide (2 ≤ a0 ∧ a0 ≤ 60)) (by unfold spec_l1In.f; by_cases h : a0 ≥ 2 <;> simp [h]) ?_
  by_cases h1 : 2 ≤ a0 ∧ a0 ≤ 60
  · rw [if_pos h1]
    refine ev_pos (by simp [h1]) ?_
    refine Ev.step (fun k => spec_Digest.j0.eq_2 ..) ?_
    by_cases h2 : l.length ≤ 4000
    · rw [if_pos h2]
      refine ev_neg (by simp; omega) ?_
      exact spec_digest_l0 (by omega) l h2 l.length 0 1 2 3 (Nat.zero_add _) rfl
    · rw [if_neg h2]
      exact ev_pos (by simp; omega) (ev_ret rfl)
  · rw [if_neg h1]
    refine ev_neg (by simp; omega) ?_
    refine Ev.step (fun k => spec_Digest.j0.eq_2 ..) ?_
    exact ev_pos rfl (ev_ret rfl)
theorem impl_squeeze (a0 : Int) (l : List Int) (n : Int) : impl_Squeeze.f a0 l n = some (Dig.squeezed a0 l n) := by
  unfold impl_Squeeze.f Dig.squeezed
  by_cases h1 : 2 ≤ a0 ∧ a0 ≤ 60
  · rw [if_pos h1]
    by_cases h2 : l.length ≤ 4000
    · rw [if_pos h2]
      by_cases h3 : 1 ≤ n ∧ n ≤ 40
      · rw [if_pos h3, if_pos ⟨h1, h2, h3⟩]
      · rw [if_neg h3, if_neg (fun h => h3 h.2.2)]
    · rw [if_neg h2, if_neg (fun h => h2 h.2.1)]
  · rw [if_neg h1, if_neg (fun h => h1 h.1)]
theorem spec_squeeze_l1 {bits : Int} (hb : 0 ≤ bits) (m : Nat) (hm : m ≤ 40) (s : Int × Int × Int) (n : Nat) : ∀ i : Nat, i + n = m →
    Ev (fun k => spec_Squeeze.l1 k bits (m : Int) (Dig.squeeze bits i (Dig.rnds 6 s)) (i : Int) s.1 s.2.1 s.2.2) (Dig.squeeze bits m (Dig.rnds 6 s), true) := by
  induction n with
  | zero =>
    intro i hi
    obtain rfl : i = m := by omega
    refine Ev.step (fun k => spec_Squeeze.l1.eq_2 ..) ?_
    exact ev_neg (by omega) (ev_ret rfl)
  | succ n ih =>
    intro i hi
    refine Ev.step (fun k => spec_Squeeze.l1.eq_2 ..) ?_
    have e : wrap64 (6 + wrap64 (2 * (i : Int))) = ((6 + 2 * i : Nat) : Int) := by
      rw [wr (n := 2 * (i : Int)) (by omega) (by omega), wr (by omega) (by omega)]; omega
    rw [e]
    refine ev_pos (by omega) (ev_bind (spec_out hb s.1 s.2.1 s.2.2 (6 + 2 * i) (by omega)) (ev_pos (by rw [Dig.squeeze_length]; omega) ?_))
    rw [wr_succ (by omega), Dig.rnds_add, Dig.squeeze_snoc]
    exact ih (i + 1) (by omega)
theorem spec_squeeze_l0 {bits : Int} (hb : 0 ≤ bits) (m : Nat) (hm : m ≤ 40) (l : List Int) (hl : l.length ≤ 4000) (n : Nat) : ∀ (i : Nat) (a b c : Int), i + n = l.length → Dig.takes (l.take i) (1, 2, 3) = (a, b, c) →
    Ev (fun k => spec_Squeeze.l0 k bits l (m : Int) [] (i : Int) a b c) (Dig.squeeze bits m (Dig.rnds 6 (Dig.taken l)), true) := by
  induction n with
  | zero =>
    intro i a b c hi hs
    refine Ev.step (fun k => spec_Squeeze.l0.eq_2 ..) ?_
    rw [List.take_of_length_le (by omega)] at hs
    refine ev_neg (by omega) ?_
    have e : Dig.taken l = (Go.bits .xor .u64 a (IntKind.u64.wrap (l.length : Int)), b, c) := by
      unfold Dig.taken
      rw [hs]
      rfl
    rw [e]
    exact spec_squeeze_l1 hb m hm (Go.bits .xor .u64 a (IntKind.u64.wrap (l.length : Int)), b, c) m 0 (Nat.zero_add _)
  | succ n ih =>
    intro i a b c hi hs
    refine Ev.step (fun k => spec_Squeeze.l0.eq_2 ..) ?_
    refine ev_pos (by omega) (ev_pos (by omega) (ev_pure (spec_round _ _ _) (ev_pure (spec_round _ _ _) ?_)))
    rw [wr_succ (by omega)]
    refine ih (i + 1) _ _ _ (by omega) ?_
    have et : l.take (i + 1) = l.take i ++ [rd l (i : Int)] := by
      rw [rd_nat, take_getD l 0 i (by omega)]
    rw [et, Dig.takes_snoc, hs]
    rfl
theorem spec_squeeze (a0 : Int) (l : List Int) (n : Int) : Ev (fun k => spec_Squeeze.f k a0 l n) (Dig.squeezed a0 l n) := by
  unfold spec_Squeeze.f
  refine ev_some (ev_pure (a := decide (1 ≤ n ∧ n ≤ 40)) (by unfold spec_l1In.f; by_cases h : n ≥ 1 <;> simp [h]) ?_)
  by_cases h3 : 1 ≤ n ∧ n ≤ 40
  · refine ev_pos (by simp [h3]) (ev_bind (spec_digest a0 l) ?_)
    refine Ev.step (fun k => spec_Squeeze.j0.eq_2 ..) ?_
    rcases Dig.digest_cases a0 l with ⟨hd, hn⟩ | ⟨h1, h2, hd, _⟩
    · rw [hd]
      refine ev_pos (by decide) (ev_ret ?_)
      unfold Dig.squeezed
      rw [if_neg (fun h => hn ⟨h.1, h.2.1⟩)]
    · refine ev_neg (by simp; omega) ?_
      have e : n = ((n.toNat : Nat) : Int) := by omega
      unfold Dig.squeezed
      rw [if_pos ⟨h1, h2, h3⟩]
      have := spec_squeeze_l0 (bits := a0) (by omega) n.toNat (by omega) l h2 l.length 0 1 2 3 (Nat.zero_add _) rfl
      rw [← e] at this
      exact this
  · refine ev_neg (by simp; omega) ?_
    refine Ev.step (fun k => spec_Squeeze.j0.eq_2 ..) ?_
    refine ev_pos rfl (ev_ret ?_)
    unfold Dig.squeezed
    rw [if_neg (fun h => h3 h.2.2)]
theorem FnExactSqueeze : laws_FnExactSqueeze.Pure := by
  intro a l n
  intros
  refine Ev.rounds ?_
  unfold laws_FnExactSqueeze.f
  by_cases h : (l.length : Int) > 1048576
  · exact ev_pos h (ev_ret rfl)
  have ht := toByteS l (by omega)
  have hq := eqByteS l (by omega)
  have hm := markByteS l 1 (by decide) (by omega)
  have hs := spec_squeeze a l n
  have hi := impl_squeeze a l n
  have hl := Dig.squeezed_length a l n
  generalize Dig.squeezed a l n = r at hs hi hl
  obtain ⟨r, o⟩ := r
  have hr := eqIntS r (by simp only at hl; omega)
  have m3 := markIntS r 1 (by decide) (by simp only at hl; omega)
  have h3 := heldIntS 1 r.length (by decide) (by simp only at hl; omega)
  refine ev_neg h (ev_bind ht (ev_bind hs (ev_bind ht (ev_pure hi (ev_bind hr (ev_pos rfl ?_))))))
  refine Ev.step (fun k => laws_FnExactSqueeze.j0.eq_2 ..) ?_
  refine ev_neg (by simp) (ev_bind ht (ev_bind hq (ev_pos rfl (ev_bind hm (ev_neg (by simp only []; omega) (ev_bind hr (ev_pos rfl ?_)))))))
  refine Ev.step (fun k => laws_FnExactSqueeze.j1.eq_2 ..) ?_
  refine ev_neg (by simp) (ev_bind m3 (ev_bind h3 (ev_neg (by omega) (ev_pos rfl (ev_bind ht (ev_pure hi (ev_bind hr (ev_pos rfl ?_))))))))
  refine Ev.step (fun k => laws_FnExactSqueeze.j2.eq_2 ..) ?_
  exact ev_neg (by simp) (ev_bind h3 (ev_neg (by omega) (ev_pos rfl (ev_ret rfl))))

end Go.Proofs.Ytmcpnganobehaaa.Pure
