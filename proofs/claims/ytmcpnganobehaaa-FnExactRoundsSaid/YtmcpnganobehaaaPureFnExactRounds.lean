/- Rounds answers as the reference's Rounds, at every three lanes and every number. -/
import Derived.Test.YtmcpnganobehaaaPFnExactRoundsx2
import Derived.Test.YtmcpnganobehaaaKit
import Derived.Test.YtmcpnganobehaaaDig
namespace Go.Proofs.Ytmcpnganobehaaa.Pure
open Go.RowKit Go.Proofs.Ytmcpnganobehaaa Go.Proofs.Ytmcpnganobehaaa.PFnExactRounds Go.Proofs.YtmcpnganobehaaaW.PrintWords Go.Proofs.YtmcpnganobehaaaW.PrintLast Go.Proofs.YtmcpnganobehaaaW.PrintMore Go.Proofs.Ytmcpnganobehaaa.K
set_option linter.unusedVariables false

theorem spec_turn13 (x : Int) : spec_l1Turn.f x 13 = some (Dig.r13 x) := by
  have e : wrap64 (64 - 13) = 51 := by unfold wrap64; decide
  unfold spec_l1Turn.f
  rw [e, if_pos (by decide), if_pos (by decide)]
  have e1 : shl .u64 x 13 = IntKind.u64.wrap (x * 8192) := by
    unfold shl
    rw [show (2 : Int) ^ min (13 : Int).toNat IntKind.u64.bits = 8192 by decide]
  have e2 : shr .u64 x 51 = x / 2251799813685248 := by
    unfold shr
    rw [show (2 : Int) ^ min (51 : Int).toNat IntKind.u64.bits = 2251799813685248 by decide]
  rw [e1, e2]
  rfl
theorem spec_turn29 (x : Int) : spec_l1Turn.f x 29 = some (Dig.r29 x) := by
  have e : wrap64 (64 - 29) = 35 := by unfold wrap64; decide
  unfold spec_l1Turn.f
  rw [e, if_pos (by decide), if_pos (by decide)]
  have e1 : shl .u64 x 29 = IntKind.u64.wrap (x * 536870912) := by
    unfold shl
    rw [show (2 : Int) ^ min (29 : Int).toNat IntKind.u64.bits = 536870912 by decide]
  have e2 : shr .u64 x 35 = x / 34359738368 := by
    unfold shr
    rw [show (2 : Int) ^ min (35 : Int).toNat IntKind.u64.bits = 34359738368 by decide]
  rw [e1, e2]
  rfl
theorem spec_turn41 (x : Int) : spec_l1Turn.f x 41 = some (Dig.r41 x) := by
  have e : wrap64 (64 - 41) = 23 := by unfold wrap64; decide
  unfold spec_l1Turn.f
  rw [e, if_pos (by decide), if_pos (by decide)]
  have e1 : shl .u64 x 41 = IntKind.u64.wrap (x * 2199023255552) := by
    unfold shl
    rw [show (2 : Int) ^ min (41 : Int).toNat IntKind.u64.bits = 2199023255552 by decide]
  have e2 : shr .u64 x 23 = x / 8388608 := by
    unfold shr
    rw [show (2 : Int) ^ min (23 : Int).toNat IntKind.u64.bits = 8388608 by decide]
  rw [e1, e2]
  rfl
theorem spec_round (a b c : Int) : spec_l1Round.f a b c = some (Dig.rnd (a, b, c)) := by
  unfold spec_l1Round.f
  simp only [spec_turn13, spec_turn29, spec_turn41, Option.bind_some, Dig.rnd0_left, Dig.rnd1_left, Dig.rnd2_left]
  rfl
/-- What Rounds answers. -/
def rounded (a b c n : Int) : Int × Int × Int × Bool :=
  if 0 ≤ n ∧ n ≤ 100 then (wrap64 (Dig.rnds n.toNat (IntKind.u64.wrap a, IntKind.u64.wrap b, IntKind.u64.wrap c)).1, wrap64 (Dig.rnds n.toNat (IntKind.u64.wrap a, IntKind.u64.wrap b, IntKind.u64.wrap c)).2.1, wrap64 (Dig.rnds n.toNat (IntKind.u64.wrap a, IntKind.u64.wrap b, IntKind.u64.wrap c)).2.2, true) else (a, b, c, false)
theorem impl_rounds (a b c n : Int) : impl_Rounds.f a b c n = some (rounded a b c n) := by
  unfold impl_Rounds.f rounded
  by_cases h : 0 ≤ n ∧ n ≤ 100
  · rw [if_pos h, if_pos h]
  · rw [if_neg h, if_neg h]
theorem spec_rounds_l0 (m : Nat) (hm : m ≤ 100) (n : Nat) : ∀ (i : Nat) (a b c : Int), i + n = m →
    Ev (fun k => spec_Rounds.l0 k (m : Int) (i : Int) a b c) (wrap64 (Dig.rnds n (a, b, c)).1, wrap64 (Dig.rnds n (a, b, c)).2.1, wrap64 (Dig.rnds n (a, b, c)).2.2, true) := by
  induction n with
  | zero =>
    intro i a b c hi
    refine Ev.step (fun k => spec_Rounds.l0.eq_2 ..) ?_
    exact ev_neg (by omega) (ev_ret rfl)
  | succ n ih =>
    intro i a b c hi
    refine Ev.step (fun k => spec_Rounds.l0.eq_2 ..) ?_
    refine ev_pos (by omega) (ev_pure (spec_round a b c) ?_)
    rw [wr_succ (by omega)]
    exact ih (i + 1) _ _ _ (by omega)
theorem spec_rounds (a b c n : Int) : Ev (fun k => spec_Rounds.f k a b c n) (rounded a b c n) := by
  unfold spec_Rounds.f rounded
  refine ev_pure (a := decide (0 ≤ n ∧ n ≤ 100)) (by unfold spec_l1In.f; by_cases h : n ≥ 0 <;> simp [h]) ?_
  by_cases h : 0 ≤ n ∧ n ≤ 100
  · rw [if_pos h]
    refine ev_pos (by simp [h]) ?_
    have e : n = ((n.toNat : Nat) : Int) := by omega
    have := spec_rounds_l0 n.toNat (by omega) n.toNat 0 (IntKind.u64.wrap a) (IntKind.u64.wrap b) (IntKind.u64.wrap c) (Nat.zero_add _)
    rw [← e] at this
    exact this
  · rw [if_neg h]
    exact ev_neg (by simp; omega) (ev_ret rfl)
theorem FnExactRounds : laws_FnExactRounds.Pure := by
  intro a b c n _ _ _ _
  refine Ev.rounds ?_
  unfold laws_FnExactRounds.f
  refine ev_pure rfl (ev_bind (spec_rounds a b c n) (ev_pure rfl (ev_pure (impl_rounds a b c n) ?_)))
  refine ev_pure (a := true) (by unfold laws_eqIntA3.f; simp) ?_
  exact ev_pos rfl (ev_neg (by simp) (ev_ret rfl))

end Go.Proofs.Ytmcpnganobehaaa.Pure
