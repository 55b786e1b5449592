/- The row of the law FnExactFirstLiar. -/
import Derived.Test.YtchjajbkaiefdaaRows
import Derived.Test.YtchjajbkaiefdaaXFnExactFirstLiar
import Derived.Test.YtchjajbkaiefdaaOp
import Derived.WalkKit
import Derived.ProofKit
import Derived.OpenShut
import Derived.ShutString
import Derived.ChangeOld
import Derived.Below
import Derived.SizedLaws
namespace Go.Proofs.Ytchjajbkaiefdaa.fnExactFirstLiar
open Go.ChangeShapes Go.WideShapes Go.ChangeAt Go.RowKit Go.Proofs.Ytchjajbkaiefdaa Go.Proofs.YtchjajbkaiefdaaW.PrintWords
open Go.ChangeMaps (open_string shut_string)
set_option linter.unusedVariables false
theorem own : ownKnob Try.prog.godebug = none := by kernel_rfl
theorem laidOut : laidOutB Try.prog = true := by kernel_rfl
instance : Inhabited PFnExactFirstLiar.S58 := ⟨PFnExactFirstLiar.z58⟩
set_option maxRecDepth 100000 in
open Go.Proofs.Ytchjajbkaiefdaa.PFnExactFirstLiar in
theorem opens_claim {H : Type} {enc : TypeId × Value → H} {W : World} : Op.Opens enc Try.prog W 58 k58 Pure.cq := by
  refine ⟨by kernel_rfl, fun fuel cs x h => ?_⟩
  obtain ⟨y0, y1, y2, y3, n, _, hl, h0, h1, h2, h3⟩ := Go.Joins.trod_struct4 Try.underlying58 h
  have hl4 : cs.length = 4 := hl.trans (by kernel_rfl)
  obtain ⟨c0, c1, c2, c3, rfl⟩ : ∃ c0 c1 c2 c3, cs = [c0, c1, c2, c3] := by match cs, hl4 with | [c0, c1, c2, c3], _ => exact ⟨_, _, _, _, rfl⟩
  have e3 : Try.prog.cellsOf 3 = 1 := by kernel_rfl
  have e22 : Try.prog.cellsOf 22 = 1 := by kernel_rfl
  have e29 : Try.prog.cellsOf 29 = 1 := by kernel_rfl
  simp [e3, e22, e29] at h0 h1 h2 h3
  obtain ⟨a0, rfl, w0⟩ := Op.opened_int Try.underlying3 h0
  obtain ⟨a1, rfl, w1⟩ := Op.opened_int Try.underlying3 h1
  obtain ⟨l2, A2, d2, rfl, g2, r2, q2⟩ := Op.opened_cell Try.underlying22 (Op.opens_int Try.underlying5 (by kernel_rfl)) h2
  obtain ⟨l3, A3, d3, rfl, g3, r3, q3⟩ := Op.opened_cell Try.underlying29 (Op.opens_int Try.underlying3 (by kernel_rfl)) h3
  exact ⟨⟨a0, a1, l2, l3⟩, k58_mk W ⟨a0, a1, l2, l3⟩ g2 r2 g3 r3, w0, w1, q2, q3⟩
set_option maxRecDepth 100000 in
theorem lifted (os : Os) (started : os.Started) (H : Type) (enc : TypeId × Value → H) :
    ReturnsInHanded {} Try.checked os 8 .any (Rows.fnExactFirstLiarSpec.pre6 enc Try.prog Try.f8 Rows.fnExactFirstLiarRow.domain false) (Rows.fnExactFirstLiarSpec.post enc Try.prog Try.f8 false true false false) := by
  refine returnsInHanded_of_change_sized (C := Try.checked) own started (by kernel_rfl) Try.func8
    (ChangeSpec.witness6 (enc := enc) (C := Try.checked) false ⟨#[], #[.int .i64 0, .slice none 0 0, .slice none 0 0], []⟩ 8 (by kernel_rfl) (by kernel_rfl) (by kernel_rfl) (by kernel_rfl)) ?_
  intro W base args ds gs before hval0 hW hcnd hsz0 _
  have hval : ∀ (j : Nat) t v, Try.f8.params[j]? = some t → args[j]? = some v → Value.okWide Try.prog W .any base t v := hval0
  have hW' := hW
  obtain ⟨p, q, hA0, hV, rfl, hfz, hnd⟩ := hW
  have hA : DataW.TrodAll enc Try.prog W 0 (fun _ => true) true Try.f8.params.toList args.toList ds p := hA0
  rw [Try.params8] at hA hval
  obtain ⟨v0, vs0, d0, ds0, p0, q0, hargs, rfl, rfl, h0, r0⟩ := trodAll_cons hA
  obtain ⟨v1, vs1, d1, ds1, p1, q1, rfl, rfl, rfl, h1, r1⟩ := trodAll_cons r0
  obtain ⟨v2, vs2, d2, ds2, p2, q2, rfl, rfl, rfl, h2, r2⟩ := trodAll_cons r1
  obtain ⟨rfl, rfl, rfl⟩ := trodAll_nil r2
  obtain rfl : args = #[v0, v1, v2] := by cases args; simp_all
  obtain ⟨rfl, rfl⟩ := trodVars_none hV
  obtain ⟨a0, rfl, rfl, rfl, w0⟩ := open_int Try.underlying3 (hval 0 3 v0 rfl rfl) h0
  have k1 := h1
  have lt1 : ∀ x ∈ p1, x.block < W.heap.size := by obtain ⟨m, hm⟩ := k1; exact DataW.trod_lt m _ _ _ hm
  obtain ⟨A1, n1, c1, rfl⟩ := okWide_slice Try.underlying24 (hval 1 24 v1 rfl rfl)
  obtain ⟨l1, rfl, hc1, hr1, hq1⟩ := Op.opened Try.underlying24 (Op.opens_slice Try.underlying22 (by kernel_rfl) (Op.opens_int Try.underlying5 (by kernel_rfl))) h1
  have k2 := h2
  have lt2 : ∀ x ∈ p2, x.block < W.heap.size := by obtain ⟨m, hm⟩ := k2; exact DataW.trod_lt m _ _ _ hm
  obtain ⟨A2, n2, c2, rfl⟩ := okWide_slice Try.underlying75 (hval 2 75 v2 rfl rfl)
  obtain ⟨l2, rfl, hc2, hr2, hq2⟩ := Op.opened Try.underlying75 opens_claim h2
  clear hA0 hval0 hsz0
  refine (X.walk a0 A1 c1 l1 A2 c2 l2 W w0 hr1 hc1 hq1 hr2 hc2 hq2).mono fun e W' ⟨he, bel⟩ => ?_
  subst he
  exact ⟨_, rfl, _, _, _, [], _, [], hW', trodAll_mk1 (shut_bool Try.underlying4 _), (trodAll_cons_mk (shut_int Try.underlying3 w0) (trodAll_cons_mk (Below.trod laidOut (by kernel_rfl) (of_decide_eq_true (by kernel_rfl)) k1 bel lt1) (trodAll_cons_mk (Below.trod laidOut (by kernel_rfl) (of_decide_eq_true (by kernel_rfl)) k2 bel lt2) trodAll_mk0))), rfl, bel.frame _, fun h => by cases h⟩
theorem over : Rows.fnExactFirstLiarRow.holds Try.pinned (OpenSpec.ofChange Rows.fnExactFirstLiarSpec) :=
  OpenClaim.holds_of_wide 8 Try.f8 rfl rfl rfl rfl rfl rfl rfl ⟨rfl, rfl, rfl, rfl, rfl⟩ rfl rfl rfl rfl rfl (by kernel_rfl) Try.func8 (by kernel_rfl)
    (of_decide_eq_true (by kernel_rfl)) (by unfold Func.isWrapper; first | (rw [if_pos (by decide +kernel)]; kernel_rfl) | (rw [if_neg (by decide +kernel)]; exact ⟨rfl, rfl⟩))
    (fun os started H enc _ => lifted os started H enc)
theorem proved : Rows.FnExactFirstLiarSaid := over
#print axioms proved
end Go.Proofs.Ytchjajbkaiefdaa.fnExactFirstLiar
namespace Go.Proofs.Ytchjajbkaiefdaa
/-- The row, under a short name, for the claim. -/
theorem fnExactFirstLiar_holds : Rows.FnExactFirstLiarSaid := fnExactFirstLiar.proved
end Go.Proofs.Ytchjajbkaiefdaa
