/- The row of the law FnExactLiar. -/
import Derived.Test.YtchjajbkaiefdaaRows
import Derived.Test.YtchjajbkaiefdaaXFnExactLiar
import Derived.Test.YtchjajbkaiefdaaOp
import Derived.WalkKit
import Derived.ProofKit
import Derived.OpenShut
import Derived.ShutString
import Derived.ChangeOld
import Derived.Below
import Derived.SizedLaws
namespace Go.Proofs.Ytchjajbkaiefdaa.fnExactLiar
open Go.ChangeShapes Go.WideShapes Go.ChangeAt Go.RowKit Go.Proofs.Ytchjajbkaiefdaa Go.Proofs.YtchjajbkaiefdaaW.PrintWords
open Go.ChangeMaps (open_string shut_string)
set_option linter.unusedVariables false
theorem own : ownKnob Try.prog.godebug = none := by kernel_rfl
theorem laidOut : laidOutB Try.prog = true := by kernel_rfl
set_option maxRecDepth 100000 in
theorem lifted (os : Os) (started : os.Started) (H : Type) (enc : TypeId × Value → H) :
    ReturnsInHanded {} Try.checked os 6 .any (Rows.fnExactLiarSpec.pre6 enc Try.prog Try.f6 Rows.fnExactLiarRow.domain false) (Rows.fnExactLiarSpec.post enc Try.prog Try.f6 false true false false) := by
  refine returnsInHanded_of_change_sized (C := Try.checked) own started (by kernel_rfl) Try.func6
    (ChangeSpec.witness6 (enc := enc) (C := Try.checked) false ⟨#[], #[.int .i64 0, .slice none 0 0, .agg #[.int .i64 0, .int .i64 0, .slice none 0 0, .slice none 0 0]], []⟩ 8 (by kernel_rfl) (by kernel_rfl) (by kernel_rfl) (by kernel_rfl)) ?_
  intro W base args ds gs before hval0 hW hcnd hsz0 _
  have hval : ∀ (j : Nat) t v, Try.f6.params[j]? = some t → args[j]? = some v → Value.okWide Try.prog W .any base t v := hval0
  have hW' := hW
  obtain ⟨p, q, hA0, hV, rfl, hfz, hnd⟩ := hW
  have hA : DataW.TrodAll enc Try.prog W 0 (fun _ => true) true Try.f6.params.toList args.toList ds p := hA0
  rw [Try.params6] at hA hval
  obtain ⟨v0, vs0, d0, ds0, p0, q0, hargs, rfl, rfl, h0, r0⟩ := trodAll_cons hA
  obtain ⟨v1, vs1, d1, ds1, p1, q1, rfl, rfl, rfl, h1, r1⟩ := trodAll_cons r0
  obtain ⟨v2, vs2, d2, ds2, p2, q2, rfl, rfl, rfl, h2, r2⟩ := trodAll_cons r1
  obtain ⟨rfl, rfl, rfl⟩ := trodAll_nil r2
  obtain rfl : args = #[v0, v1, v2] := by cases args; simp_all
  obtain ⟨rfl, rfl⟩ := trodVars_none hV
  obtain ⟨a0, rfl, rfl, rfl, w0⟩ := open_int Try.underlying3 (hval 0 3 v0 rfl rfl) h0
  have k1 := h1
  have lt1 : ∀ x ∈ p1, x.block < W.heap.size := by obtain ⟨m, hm⟩ := k1; exact DataW.trod_lt m _ _ _ hm
  obtain ⟨A1, n1, c1, rfl⟩ := okWide_slice Try.underlying24 (hval 1 24 v1 rfl rfl)
  obtain ⟨l1, rfl, hc1, hr1, hq1⟩ := Op.opened Try.underlying24 (Op.opens_slice Try.underlying22 (by kernel_rfl) (Op.opens_int Try.underlying5 (by kernel_rfl))) h1
  have k2 := h2
  have lt2 : ∀ x ∈ p2, x.block < W.heap.size := by obtain ⟨m, hm⟩ := k2; exact DataW.trod_lt m _ _ _ hm
  obtain ⟨u2_0, u2_1, u2_2, u2_3, y2_0, y2_1, y2_2, y2_3, m2, rfl, _, _, t2_0, t2_1, t2_2, t2_3⟩ := Go.Joins.open_agg4 Try.underlying58 (by kernel_rfl) (by kernel_rfl) (hval 2 58 v2 rfl rfl) h2
  obtain ⟨a2_0, rfl, hq2_0⟩ := Op.opened_int Try.underlying3 t2_0
  obtain ⟨a2_1, rfl, hq2_1⟩ := Op.opened_int Try.underlying3 t2_1
  obtain ⟨l2_2, A2_2, c2_2, rfl, hc2_2, hr2_2, hq2_2⟩ := Op.opened_cell Try.underlying22 (Op.opens_int Try.underlying5 (by kernel_rfl)) t2_2
  obtain ⟨l2_3, A2_3, c2_3, rfl, hc2_3, hr2_3, hq2_3⟩ := Op.opened_cell Try.underlying29 (Op.opens_int Try.underlying3 (by kernel_rfl)) t2_3
  clear hA0 hval0 hsz0
  refine (X.walk a0 A1 c1 l1 a2_0 a2_1 A2_2 c2_2 l2_2 A2_3 c2_3 l2_3 W w0 hr1 hc1 hq1 hq2_0 hq2_1 hr2_2 hc2_2 hq2_2 hr2_3 hc2_3 hq2_3).mono fun e W' ⟨he, bel⟩ => ?_
  subst he
  exact ⟨_, rfl, _, _, _, [], _, [], hW', trodAll_mk1 (shut_bool Try.underlying4 _), (trodAll_cons_mk (shut_int Try.underlying3 w0) (trodAll_cons_mk (Below.trod laidOut (by kernel_rfl) (of_decide_eq_true (by kernel_rfl)) k1 bel lt1) (trodAll_cons_mk (Below.trod laidOut (by kernel_rfl) (of_decide_eq_true (by kernel_rfl)) k2 bel lt2) trodAll_mk0))), rfl, bel.frame _, fun h => by cases h⟩
theorem over : Rows.fnExactLiarRow.holds Try.pinned (OpenSpec.ofChange Rows.fnExactLiarSpec) :=
  OpenClaim.holds_of_wide 6 Try.f6 rfl rfl rfl rfl rfl rfl rfl ⟨rfl, rfl, rfl, rfl, rfl⟩ rfl rfl rfl rfl rfl (by kernel_rfl) Try.func6 (by kernel_rfl)
    (of_decide_eq_true (by kernel_rfl)) (by unfold Func.isWrapper; first | (rw [if_pos (by decide +kernel)]; kernel_rfl) | (rw [if_neg (by decide +kernel)]; exact ⟨rfl, rfl⟩))
    (fun os started H enc _ => lifted os started H enc)
theorem proved : Rows.FnExactLiarSaid := over
#print axioms proved
end Go.Proofs.Ytchjajbkaiefdaa.fnExactLiar
namespace Go.Proofs.Ytchjajbkaiefdaa
/-- The row, under a short name, for the claim. -/
theorem fnExactLiar_holds : Rows.FnExactLiarSaid := fnExactLiar.proved
end Go.Proofs.Ytchjajbkaiefdaa
