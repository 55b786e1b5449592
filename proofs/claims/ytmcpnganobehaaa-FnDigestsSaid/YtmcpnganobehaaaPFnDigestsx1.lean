-- Written by a program of this workplace (wip/mp.py) out of the translation.
import Derived.Test.YtmcpnganobehaaaPFnDigestsx0
namespace Go.Proofs.Ytmcpnganobehaaa.PFnDigests
open Go.RowKit Go.Proofs.YtmcpnganobehaaaW.PrintWords Go.Proofs.YtmcpnganobehaaaW.PrintLast Go.Proofs.YtmcpnganobehaaaW.PrintMore Go.Proofs.Ytmcpnganobehaaa.Slim
attribute [local go_sem] max2_int min2_int max_two min_two max_three min_three max_four min_four   -- for this text's walks alone
set_option linter.unusedVariables false
set_option linter.unusedSimpArgs false

theorem eqi_cons {P : Program} {d : Nat} {e : TypeId} {c : Nat} {xs ys : Array Value} {j : Nat} {is : List Nat} {a b : Value} {r s : Bool} {w : World} (ha : (part e xs (j * c)).run P w = .ok a w) (hb : (part e ys (j * c)).run P w = .ok b w) (he : (Op.equalIn d e a b).run P w = .ok r w) (hr : (Op.eqItems d e c xs ys is).run P w = .ok s w) : (Op.eqItems d e c xs ys (j :: is)).run P w = .ok (r && s) w := by
 simp only [Op.eqItems, Sem.run_bind, ha, hb, he, Result.andThen_ok]
 cases r
 ·simp
 ·simpa using hr
theorem eqi_nil {P : Program} {d : Nat} {e : TypeId} {c : Nat} {xs ys : Array Value} {w : World} : (Op.eqItems d e c xs ys []).run P w = .ok true w := by simp [Op.eqItems]
theorem eqA22 (d : Nat) (w : World) (x0 y0 : Int) (x1 y1 : Int) (x2 y2 : Int) :
  (Op.equalIn (d + 2) 22 (.agg #[.int .i64 x0, .int .i64 x1, .int .i64 x2]) (.agg #[.int .i64 y0, .int .i64 y1, .int .i64 y2])).run Try.prog w = .ok (x0 == y0 && (x1 == y1 && (x2 == y2))) w := by
 have hi : ∃ i, Try.prog.info? 3 = some i := by
  cases h : Try.prog.info? 3 with
  | some i => exact ⟨i, rfl⟩
  | none => exact absurd (congrArg Option.isSome h) (by rw [show (Try.prog.info? 3).isSome = true by kernel_rfl]; decide)
 obtain ⟨i, hi⟩ := hi
 have hc : Try.prog.cellsOf 3 = 1 := by kernel_rfl
 refine (run_equalIn_array w (d + 1) _ _ Try.underlying22 hi).trans ?_
 generalize Try.prog.cellsOf 3 = c at hc
 subst hc
 have e : (x0 == y0 && (x1 == y1 && (x2 == y2))) = (x0 == y0 && (x1 == y1 && (x2 == y2 && true))) := by rw [Bool.and_true]
 rw [e]
 exact (eqi_cons (by go_simp; rfl) (by go_simp; rfl) (by go_simp) (eqi_cons (by go_simp; rfl) (by go_simp; rfl) (by go_simp) (eqi_cons (by go_simp; rfl) (by go_simp; rfl) (by go_simp) eqi_nil)))
end Go.Proofs.Ytmcpnganobehaaa.PFnDigests
