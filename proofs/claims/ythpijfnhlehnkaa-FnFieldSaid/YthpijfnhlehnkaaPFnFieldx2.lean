-- Written by a program of this workplace (wip/mp.py) out of the translation.
import Derived.Test.YthpijfnhlehnkaaPFnFieldx0
import Derived.Test.YthpijfnhlehnkaaPFnFieldx1
namespace Go.Proofs.Ythpijfnhlehnkaa.PFnField
open Go.RowKit Go.Proofs.YthpijfnhlehnkaaW.PrintWords Go.Proofs.YthpijfnhlehnkaaW.PrintLast Go.Proofs.YthpijfnhlehnkaaW.PrintMore
attribute [local go_sem] max2_int min2_int max_two min_two max_three min_three max_four min_four   -- for this text's walks alone
set_option linter.unusedVariables false
set_option linter.unusedSimpArgs false

/-! ### laws_FnField: function 10 -/
mutual
def laws_FnField.j0 : Nat → List Int → Int → Int → Int → Bool → Option (Bool)
  | 0, _, _, _, _, _ => none
  | k + 1, x0, x3, x4, x5, x71 => if x71 = true then (some false) else ((impl_GfInv.f k x3).bind fun bt131 => (if (bt131.2 != (x3 != 0)) = true then (laws_FnField.j1 k x0 x3 x4 x5 true) else (if bt131.2 = true then ((impl_GfMul.f k x3 bt131.1).bind fun t133 => (laws_FnField.j1 k x0 x3 x4 x5 (t133 != 1))) else (laws_FnField.j1 k x0 x3 x4 x5 false))))
def laws_FnField.j1 : Nat → List Int → Int → Int → Int → Bool → Option (Bool)
  | 0, _, _, _, _, _ => none
  | k + 1, x0, x3, x4, x5, x89 => if x89 = true then (some false) else ((laws_at.f x0 3).bind fun t134 => ((impl_GfPow.f k x3 (wrap64 ((wrap64 (t134 * 5)) + 1))).bind fun t135 => ((impl_GfPow.f k x3 (wrap64 (t134 * 5))).bind fun t136 => ((impl_GfMul.f k t136 x3).bind fun t137 => (if t135 = t137 then ((some (([x3, x4] : List Int) : List Int)).bind fun y138 => ((impl_GfAxpy.f k y138 x5 (([1, 2] : List Int))).bind fun bt144 => ((impl_GfDot.f k y138 (([x5, 1] : List Int))).bind fun bt151 => ((impl_GfDot.f k y138 (([1] : List Int))).bind fun bt156 => (if bt144.2 = true then (if bt151.2 = true then (if bt156.2 = true then (some false) else (if (bt144.1.length : Int) = 2 then (if 0 < (bt144.1.length : Int) then (if (rd bt144.1 0) = (Go.bits .xor .u8 x3 x5) then (if 1 < (bt144.1.length : Int) then ((impl_GfMul.f k x5 2).bind fun t160 => (if (rd bt144.1 1) = (Go.bits .xor .u8 x4 t160) then ((impl_GfMul.f k x3 x5).bind fun t161 => (some (bt151.1 == (Go.bits .xor .u8 t161 x4)))) else (some false))) else (none)) else (some false)) else (none)) else (some false))) else (some false)) else (some false)))))) else (some false))))))
end
def laws_FnField.f (k : Nat) (l0 : List Int) : Option (Bool) := (laws_big.f l0).bind fun t118 => (if t118 = true then (some true) else ((laws_at.f l0 0).bind fun t119 => ((laws_at.f l0 1).bind fun t120 => ((laws_at.f l0 2).bind fun t121 => ((impl_GfMul.f k ((t119) % 256) ((t120) % 256)).bind fun t122 => ((impl_GfMul.f k ((t120) % 256) ((t119) % 256)).bind fun t123 => (if t122 = t123 then ((impl_GfMul.f k ((t120) % 256) ((t121) % 256)).bind fun t124 => ((impl_GfMul.f k ((t119) % 256) t124).bind fun t125 => ((impl_GfMul.f k t122 ((t121) % 256)).bind fun t126 => (if t125 = t126 then ((impl_GfMul.f k ((t119) % 256) (Go.bits .xor .u8 ((t120) % 256) ((t121) % 256))).bind fun t127 => ((impl_GfMul.f k ((t119) % 256) ((t121) % 256)).bind fun t128 => (if t127 = (Go.bits .xor .u8 t122 t128) then ((impl_GfMul.f k ((t119) % 256) 1).bind fun t129 => (if t129 = ((t119) % 256) then ((impl_GfMul.f k 2 128).bind fun t130 => (laws_FnField.j0 k l0 ((t119) % 256) ((t120) % 256) ((t121) % 256) (t130 != 29))) else (laws_FnField.j0 k l0 ((t119) % 256) ((t120) % 256) ((t121) % 256) true))) else (laws_FnField.j0 k l0 ((t119) % 256) ((t120) % 256) ((t121) % 256) true)))) else (laws_FnField.j0 k l0 ((t119) % 256) ((t120) % 256) ((t121) % 256) true))))) else (laws_FnField.j0 k l0 ((t119) % 256) ((t120) % 256) ((t121) % 256) true))))))))
theorem laws_FnField.mono_l : ∀ k, (∀ y0 y1 y2 y3 y4, LeO (laws_FnField.j0 k y0 y1 y2 y3 y4) (laws_FnField.j0 (k + 1) y0 y1 y2 y3 y4)) ∧ (∀ y0 y1 y2 y3 y4, LeO (laws_FnField.j1 k y0 y1 y2 y3 y4) (laws_FnField.j1 (k + 1) y0 y1 y2 y3 y4))
  | 0 => ⟨fun _ _ _ _ _ r h => by simp [laws_FnField.j0] at h, fun _ _ _ _ _ r h => by simp [laws_FnField.j1] at h⟩
  | k + 1 => by
    obtain ⟨ih0, ih1⟩ := laws_FnField.mono_l k
    refine ⟨?_, ?_⟩
    · intro y0 y1 y2 y3 y4
      unfold laws_FnField.j0
      repeat' first
      | (with_reducible exact ih0 _ _ _ _ _)
      | (with_reducible exact ih1 _ _ _ _ _)
      | (with_reducible exact impl_GfAxpy.mono _ _ _ _)
      | (with_reducible exact impl_GfDot.mono _ _ _)
      | (with_reducible exact impl_GfInv.mono _ _)
      | (with_reducible exact impl_GfMul.mono _ _ _)
      | (with_reducible exact impl_GfPow.mono _ _ _)
      | (with_reducible exact LeO.refl _)
      | (with_reducible exact LeO.none _)
      | (with_reducible refine LeO.ite ?_ ?_)
      | (with_reducible refine LeO.bind ?_ (fun _ => ?_))
      | exact ih0 _ _ _ _ _
      | exact ih1 _ _ _ _ _
      | exact impl_GfAxpy.mono _ _ _ _
      | exact impl_GfDot.mono _ _ _
      | exact impl_GfInv.mono _ _
      | exact impl_GfMul.mono _ _ _
      | exact impl_GfPow.mono _ _ _
      | exact LeO.none _
      | refine LeO.ite ?_ ?_
      | refine LeO.bind ?_ (fun _ => ?_)
    · intro y0 y1 y2 y3 y4
      unfold laws_FnField.j1
      repeat' first
      | (with_reducible exact ih0 _ _ _ _ _)
      | (with_reducible exact ih1 _ _ _ _ _)
      | (with_reducible exact impl_GfAxpy.mono _ _ _ _)
      | (with_reducible exact impl_GfDot.mono _ _ _)
      | (with_reducible exact impl_GfInv.mono _ _)
      | (with_reducible exact impl_GfMul.mono _ _ _)
      | (with_reducible exact impl_GfPow.mono _ _ _)
      | (with_reducible exact LeO.refl _)
      | (with_reducible exact LeO.none _)
      | (with_reducible refine LeO.ite ?_ ?_)
      | (with_reducible refine LeO.bind ?_ (fun _ => ?_))
      | exact ih0 _ _ _ _ _
      | exact ih1 _ _ _ _ _
      | exact impl_GfAxpy.mono _ _ _ _
      | exact impl_GfDot.mono _ _ _
      | exact impl_GfInv.mono _ _
      | exact impl_GfMul.mono _ _ _
      | exact impl_GfPow.mono _ _ _
      | exact LeO.none _
      | refine LeO.ite ?_ ?_
      | refine LeO.bind ?_ (fun _ => ?_)
theorem laws_FnField.mono : ∀ a0 k, LeO (laws_FnField.f k a0) (laws_FnField.f (k + 1) a0) := by
  intro a0 k
  obtain ⟨ih0, ih1⟩ := laws_FnField.mono_l k
  unfold laws_FnField.f
  repeat' first
      | (with_reducible exact ih0 _ _ _ _ _)
      | (with_reducible exact ih1 _ _ _ _ _)
      | (with_reducible exact impl_GfAxpy.mono _ _ _ _)
      | (with_reducible exact impl_GfDot.mono _ _ _)
      | (with_reducible exact impl_GfInv.mono _ _)
      | (with_reducible exact impl_GfMul.mono _ _ _)
      | (with_reducible exact impl_GfPow.mono _ _ _)
      | (with_reducible exact LeO.refl _)
      | (with_reducible exact LeO.none _)
      | (with_reducible refine LeO.ite ?_ ?_)
      | (with_reducible refine LeO.bind ?_ (fun _ => ?_))
      | exact ih0 _ _ _ _ _
      | exact ih1 _ _ _ _ _
      | exact impl_GfAxpy.mono _ _ _ _
      | exact impl_GfDot.mono _ _ _
      | exact impl_GfInv.mono _ _
      | exact impl_GfMul.mono _ _ _
      | exact impl_GfPow.mono _ _ _
      | exact LeO.none _
      | refine LeO.ite ?_ ?_
      | refine LeO.bind ?_ (fun _ => ?_)
def laws_FnField.T16 : Bool × List (List Nat × List Nat) := (true, [([], []), ([0], [0]), ([1], [1]), ([1, 2], [1, 2]), ([3, 1], [3]), ([4], [4]), ([5, 4], [4, 5]), ([4, 6], [4, 6]), ([7, 4], [7]), ([8], [8]), ([9, 8], [8, 9]), ([10, 8], [8, 10]), ([8, 11], [8, 11]), ([12, 8], [12]), ([13], [13]), ([14, 13], [13, 14]), ([15, 13], [13, 15]), ([13], [13]), ([13], [13]), ([17, 18, 13], [13, 17, 18]), ([16, 19, 13], [13, 16, 19]), ([13, 20], [13, 20]), ([21, 13], [21]), ([22], [22]), ([23, 22], [22, 23]), ([24, 22], [22, 24]), ([22], [22]), ([22], [22]), ([27, 22, 22], [22, 27]), ([26, 28, 22], [22, 26, 28]), ([25, 29, 22], [22, 25, 29]), ([22, 30], [22, 30]), ([31, 28], [31]), ([32], [32]), ([32], [32]), ([32], [32]), ([34, 35, 32, 32], [32, 34, 35]), ([32], [32]), ([36, 37, 32], [32, 36, 37]), ([33, 38, 32], [32, 33, 38]), ([32, 39], [32, 39]), ([40, 36, 0, 1, 2, 3, 4, 5, 6, 7, 8, 9, 10, 11, 12, 13, 14, 15, 16, 17, 18, 19, 20, 21, 22, 23, 24, 25, 26, 27, 28, 29, 30, 31, 32, 33, 34, 35, 36, 37, 38, 39, 40], [40])])
def laws_FnField.B16 : List Nat := [0, 1, 3, 7, 15, 31, 63, 127, 255, 511, 1023, 2047, 4095, 8191, 16383, 32767, 65535, 16383, 16383, 409599, 1048575, 2097151, 4194303, 8388607, 16777215, 33554431, 8388607, 8388607, 142606335, 478150655, 1073741823, 2147483647, 4294967295, 8589934591, 8589934591, 8589934591, 60129542143, 8589934591, 266287972351, 549755813887, 1099511627775, 2199023255551]
theorem laws_FnField.tab16 : rtab .any (opsOf Try.f10 16) = laws_FnField.T16 := by kernel_rfl
theorem laws_FnField.bits16 : waitsOk laws_FnField.T16.2 laws_FnField.B16 = true := by kernel_rfl
set_option maxHeartbeats 8000000 in
set_option maxRecDepth 100000 in
theorem laws_FnField.calls (k : Nat) (A0 : Option Addr) (c0 : Nat) (l0 : List Int) (r : Bool) (w : World) (hT : Aside0 (r = true)) (hr0 : Kd.C (Kd.int .u8) w A0 l0.length l0) (hc0 : l0.length ≤ c0) (h : laws_FnField.f k l0 = some r) :
    Calls Try.prog 10 #[.slice A0 l0.length c0] w fun e w' => e = .returned (.bool r) ∧ Below w.heap.size w w' := by
  have HR0 := Aside0.mk hr0
  have HC0 := Aside0.mk hc0
  clear hr0 hc0
  have HB := Aside0.mk (Below.refl w.heap.size w)
  have H : ((laws_big.f l0).bind fun t118 => (if t118 = true then (some true) else ((laws_at.f l0 0).bind fun t119 => ((laws_at.f l0 1).bind fun t120 => ((laws_at.f l0 2).bind fun t121 => ((impl_GfMul.f k ((t119) % 256) ((t120) % 256)).bind fun t122 => ((impl_GfMul.f k ((t120) % 256) ((t119) % 256)).bind fun t123 => (if t122 = t123 then ((impl_GfMul.f k ((t120) % 256) ((t121) % 256)).bind fun t124 => ((impl_GfMul.f k ((t119) % 256) t124).bind fun t125 => ((impl_GfMul.f k t122 ((t121) % 256)).bind fun t126 => (if t125 = t126 then ((impl_GfMul.f k ((t119) % 256) (Go.bits .xor .u8 ((t120) % 256) ((t121) % 256))).bind fun t127 => ((impl_GfMul.f k ((t119) % 256) ((t121) % 256)).bind fun t128 => (if t127 = (Go.bits .xor .u8 t122 t128) then ((impl_GfMul.f k ((t119) % 256) 1).bind fun t129 => (if t129 = ((t119) % 256) then ((impl_GfMul.f k 2 128).bind fun t130 => (laws_FnField.j0 k l0 ((t119) % 256) ((t120) % 256) ((t121) % 256) (t130 != 29))) else (laws_FnField.j0 k l0 ((t119) % 256) ((t120) % 256) ((t121) % 256) true))) else (laws_FnField.j0 k l0 ((t119) % 256) ((t120) % 256) ((t121) % 256) true)))) else (laws_FnField.j0 k l0 ((t119) % 256) ((t120) % 256) ((t121) % 256) true))))) else (laws_FnField.j0 k l0 ((t119) % 256) ((t120) % 256) ((t121) % 256) true))))))))) = some r := h
  clear h
  replace H := Option.bind_eq_some_iff.mp H
  obtain ⟨t118, A20, H⟩ := H
  replace H : (if t118 = true then (some true) else ((laws_at.f l0 0).bind fun t119 => ((laws_at.f l0 1).bind fun t120 => ((laws_at.f l0 2).bind fun t121 => ((impl_GfMul.f k ((t119) % 256) ((t120) % 256)).bind fun t122 => ((impl_GfMul.f k ((t120) % 256) ((t119) % 256)).bind fun t123 => (if t122 = t123 then ((impl_GfMul.f k ((t120) % 256) ((t121) % 256)).bind fun t124 => ((impl_GfMul.f k ((t119) % 256) t124).bind fun t125 => ((impl_GfMul.f k t122 ((t121) % 256)).bind fun t126 => (if t125 = t126 then ((impl_GfMul.f k ((t119) % 256) (Go.bits .xor .u8 ((t120) % 256) ((t121) % 256))).bind fun t127 => ((impl_GfMul.f k ((t119) % 256) ((t121) % 256)).bind fun t128 => (if t127 = (Go.bits .xor .u8 t122 t128) then ((impl_GfMul.f k ((t119) % 256) 1).bind fun t129 => (if t129 = ((t119) % 256) then ((impl_GfMul.f k 2 128).bind fun t130 => (laws_FnField.j0 k l0 ((t119) % 256) ((t120) % 256) ((t121) % 256) (t130 != 29))) else (laws_FnField.j0 k l0 ((t119) % 256) ((t120) % 256) ((t121) % 256) true))) else (laws_FnField.j0 k l0 ((t119) % 256) ((t120) % 256) ((t121) % 256) true)))) else (laws_FnField.j0 k l0 ((t119) % 256) ((t120) % 256) ((t121) % 256) true))))) else (laws_FnField.j0 k l0 ((t119) % 256) ((t120) % 256) ((t121) % 256) true)))))))) = some r := H
  have A2 := Aside0.mk A20
  clear A20
  by_cases c3 : t118 = true
  · subst c3
    have H1 : (some true) = some r := by rw [if_pos rfl] at H; exact H
    clear H
    have H := H1
    clear H1
    obtain rfl := Option.some.inj H
    go_enter Try.func10, Try.ntmps10
    go_wp2_with (first | (go_at_call 32; (with_reducible refine (laws_big.calls _ _ l0 true _ ?side1 ?side2 A2.out).mono ?_); (case side1 => repeat (first | exact HR0.out | (with_reducible refine Kd.C_alloc ?_ _) | (with_reducible refine Kd.C_drewN ?_ _) | (with_reducible refine Kd.C_drew ?_))); (case side2 => exact HC0.out); rintro e w' ⟨rfl, ⟨nd, rfl⟩⟩))
    go_ret
    exact ⟨by first | rfl | (simp [errW_none, errW_some] <;> rfl) | (simp [*, errW_none, errW_some] <;> rfl), by repeat (first | (with_reducible first | exact HB.out | apply below_alloc | apply pw_below_drewN | apply below_drew1) | exact HB.out)⟩
  · replace c3 := Bool.eq_false_iff.mpr c3
    subst c3
    have H1 : ((laws_at.f l0 0).bind fun t119 => ((laws_at.f l0 1).bind fun t120 => ((laws_at.f l0 2).bind fun t121 => ((impl_GfMul.f k ((t119) % 256) ((t120) % 256)).bind fun t122 => ((impl_GfMul.f k ((t120) % 256) ((t119) % 256)).bind fun t123 => (if t122 = t123 then ((impl_GfMul.f k ((t120) % 256) ((t121) % 256)).bind fun t124 => ((impl_GfMul.f k ((t119) % 256) t124).bind fun t125 => ((impl_GfMul.f k t122 ((t121) % 256)).bind fun t126 => (if t125 = t126 then ((impl_GfMul.f k ((t119) % 256) (Go.bits .xor .u8 ((t120) % 256) ((t121) % 256))).bind fun t127 => ((impl_GfMul.f k ((t119) % 256) ((t121) % 256)).bind fun t128 => (if t127 = (Go.bits .xor .u8 t122 t128) then ((impl_GfMul.f k ((t119) % 256) 1).bind fun t129 => (if t129 = ((t119) % 256) then ((impl_GfMul.f k 2 128).bind fun t130 => (laws_FnField.j0 k l0 ((t119) % 256) ((t120) % 256) ((t121) % 256) (t130 != 29))) else (laws_FnField.j0 k l0 ((t119) % 256) ((t120) % 256) ((t121) % 256) true))) else (laws_FnField.j0 k l0 ((t119) % 256) ((t120) % 256) ((t121) % 256) true)))) else (laws_FnField.j0 k l0 ((t119) % 256) ((t120) % 256) ((t121) % 256) true))))) else (laws_FnField.j0 k l0 ((t119) % 256) ((t120) % 256) ((t121) % 256) true))))))) = some r := by rw [if_neg (show ¬ (false = true) by decide)] at H; exact H
    clear H
    have H := H1
    clear H1
    replace H := Option.bind_eq_some_iff.mp H
    obtain ⟨t119, A40, H⟩ := H
    replace H : ((laws_at.f l0 1).bind fun t120 => ((laws_at.f l0 2).bind fun t121 => ((impl_GfMul.f k ((t119) % 256) ((t120) % 256)).bind fun t122 => ((impl_GfMul.f k ((t120) % 256) ((t119) % 256)).bind fun t123 => (if t122 = t123 then ((impl_GfMul.f k ((t120) % 256) ((t121) % 256)).bind fun t124 => ((impl_GfMul.f k ((t119) % 256) t124).bind fun t125 => ((impl_GfMul.f k t122 ((t121) % 256)).bind fun t126 => (if t125 = t126 then ((impl_GfMul.f k ((t119) % 256) (Go.bits .xor .u8 ((t120) % 256) ((t121) % 256))).bind fun t127 => ((impl_GfMul.f k ((t119) % 256) ((t121) % 256)).bind fun t128 => (if t127 = (Go.bits .xor .u8 t122 t128) then ((impl_GfMul.f k ((t119) % 256) 1).bind fun t129 => (if t129 = ((t119) % 256) then ((impl_GfMul.f k 2 128).bind fun t130 => (laws_FnField.j0 k l0 ((t119) % 256) ((t120) % 256) ((t121) % 256) (t130 != 29))) else (laws_FnField.j0 k l0 ((t119) % 256) ((t120) % 256) ((t121) % 256) true))) else (laws_FnField.j0 k l0 ((t119) % 256) ((t120) % 256) ((t121) % 256) true)))) else (laws_FnField.j0 k l0 ((t119) % 256) ((t120) % 256) ((t121) % 256) true))))) else (laws_FnField.j0 k l0 ((t119) % 256) ((t120) % 256) ((t121) % 256) true)))))) = some r := H
    have A4 := Aside0.mk A40
    clear A40
    replace H := Option.bind_eq_some_iff.mp H
    obtain ⟨t120, A50, H⟩ := H
    replace H : ((laws_at.f l0 2).bind fun t121 => ((impl_GfMul.f k ((t119) % 256) ((t120) % 256)).bind fun t122 => ((impl_GfMul.f k ((t120) % 256) ((t119) % 256)).bind fun t123 => (if t122 = t123 then ((impl_GfMul.f k ((t120) % 256) ((t121) % 256)).bind fun t124 => ((impl_GfMul.f k ((t119) % 256) t124).bind fun t125 => ((impl_GfMul.f k t122 ((t121) % 256)).bind fun t126 => (if t125 = t126 then ((impl_GfMul.f k ((t119) % 256) (Go.bits .xor .u8 ((t120) % 256) ((t121) % 256))).bind fun t127 => ((impl_GfMul.f k ((t119) % 256) ((t121) % 256)).bind fun t128 => (if t127 = (Go.bits .xor .u8 t122 t128) then ((impl_GfMul.f k ((t119) % 256) 1).bind fun t129 => (if t129 = ((t119) % 256) then ((impl_GfMul.f k 2 128).bind fun t130 => (laws_FnField.j0 k l0 ((t119) % 256) ((t120) % 256) ((t121) % 256) (t130 != 29))) else (laws_FnField.j0 k l0 ((t119) % 256) ((t120) % 256) ((t121) % 256) true))) else (laws_FnField.j0 k l0 ((t119) % 256) ((t120) % 256) ((t121) % 256) true)))) else (laws_FnField.j0 k l0 ((t119) % 256) ((t120) % 256) ((t121) % 256) true))))) else (laws_FnField.j0 k l0 ((t119) % 256) ((t120) % 256) ((t121) % 256) true))))) = some r := H
    have A5 := Aside0.mk A50
    clear A50
    replace H := Option.bind_eq_some_iff.mp H
    obtain ⟨t121, A60, H⟩ := H
    replace H : ((impl_GfMul.f k ((t119) % 256) ((t120) % 256)).bind fun t122 => ((impl_GfMul.f k ((t120) % 256) ((t119) % 256)).bind fun t123 => (if t122 = t123 then ((impl_GfMul.f k ((t120) % 256) ((t121) % 256)).bind fun t124 => ((impl_GfMul.f k ((t119) % 256) t124).bind fun t125 => ((impl_GfMul.f k t122 ((t121) % 256)).bind fun t126 => (if t125 = t126 then ((impl_GfMul.f k ((t119) % 256) (Go.bits .xor .u8 ((t120) % 256) ((t121) % 256))).bind fun t127 => ((impl_GfMul.f k ((t119) % 256) ((t121) % 256)).bind fun t128 => (if t127 = (Go.bits .xor .u8 t122 t128) then ((impl_GfMul.f k ((t119) % 256) 1).bind fun t129 => (if t129 = ((t119) % 256) then ((impl_GfMul.f k 2 128).bind fun t130 => (laws_FnField.j0 k l0 ((t119) % 256) ((t120) % 256) ((t121) % 256) (t130 != 29))) else (laws_FnField.j0 k l0 ((t119) % 256) ((t120) % 256) ((t121) % 256) true))) else (laws_FnField.j0 k l0 ((t119) % 256) ((t120) % 256) ((t121) % 256) true)))) else (laws_FnField.j0 k l0 ((t119) % 256) ((t120) % 256) ((t121) % 256) true))))) else (laws_FnField.j0 k l0 ((t119) % 256) ((t120) % 256) ((t121) % 256) true)))) = some r := H
    have A6 := Aside0.mk A60
    clear A60
    have HC7 := Aside0.mk H
    clear H
    go_enter Try.func10, Try.ntmps10
    go_upto_region 4 with (first | (go_at_call 32; (with_reducible refine (laws_big.calls _ _ l0 false _ ?side1 ?side2 A2.out).mono ?_); (case side1 => repeat (first | exact HR0.out | (with_reducible refine Kd.C_alloc ?_ _) | (with_reducible refine Kd.C_drewN ?_ _) | (with_reducible refine Kd.C_drew ?_))); (case side2 => exact HC0.out); rintro e w' ⟨rfl, ⟨nd, rfl⟩⟩) | (go_at_call 33; (with_reducible refine (laws_at.calls _ _ l0 0 t119 _ ?side1 ?side2 A4.out).mono ?_); (case side1 => repeat (first | exact HR0.out | (with_reducible refine Kd.C_alloc ?_ _) | (with_reducible refine Kd.C_drewN ?_ _) | (with_reducible refine Kd.C_drew ?_))); (case side2 => exact HC0.out); rintro e w' ⟨rfl, ⟨nd, rfl⟩⟩) | (go_at_call 33; (with_reducible refine (laws_at.calls _ _ l0 1 t120 _ ?side1 ?side2 A5.out).mono ?_); (case side1 => repeat (first | exact HR0.out | (with_reducible refine Kd.C_alloc ?_ _) | (with_reducible refine Kd.C_drewN ?_ _) | (with_reducible refine Kd.C_drew ?_))); (case side2 => exact HC0.out); rintro e w' ⟨rfl, ⟨nd, rfl⟩⟩) | (go_at_call 33; (with_reducible refine (laws_at.calls _ _ l0 2 t121 _ ?side1 ?side2 A6.out).mono ?_); (case side1 => repeat (first | exact HR0.out | (with_reducible refine Kd.C_alloc ?_ _) | (with_reducible refine Kd.C_drewN ?_ _) | (with_reducible refine Kd.C_drew ?_))); (case side2 => exact HC0.out); rintro e w' ⟨rfl, ⟨nd, rfl⟩⟩))
    (try simp only [Act.put, List.setIfInBounds_toArray, List.set_cons_zero, List.set_cons_succ])
    go_cut [71] (fun v71 wc => ∃ (kq : Nat) (x71_6 : Bool), v71 = .bool x71_6 ∧ Aside0 (laws_FnField.j0 kq l0 ((t119) % 256) ((t120) % 256) ((t121) % 256) x71_6 = some r) ∧ Aside0 (kq ≤ k) ∧ Aside0 (Below w.heap.size w wc))
    case first =>
      have H := HC7.out
      clear HC7
      replace H := Option.bind_eq_some_iff.mp H
      obtain ⟨t122, A80, H⟩ := H
      replace H : ((impl_GfMul.f k ((t120) % 256) ((t119) % 256)).bind fun t123 => (if t122 = t123 then ((impl_GfMul.f k ((t120) % 256) ((t121) % 256)).bind fun t124 => ((impl_GfMul.f k ((t119) % 256) t124).bind fun t125 => ((impl_GfMul.f k t122 ((t121) % 256)).bind fun t126 => (if t125 = t126 then ((impl_GfMul.f k ((t119) % 256) (Go.bits .xor .u8 ((t120) % 256) ((t121) % 256))).bind fun t127 => ((impl_GfMul.f k ((t119) % 256) ((t121) % 256)).bind fun t128 => (if t127 = (Go.bits .xor .u8 t122 t128) then ((impl_GfMul.f k ((t119) % 256) 1).bind fun t129 => (if t129 = ((t119) % 256) then ((impl_GfMul.f k 2 128).bind fun t130 => (laws_FnField.j0 k l0 ((t119) % 256) ((t120) % 256) ((t121) % 256) (t130 != 29))) else (laws_FnField.j0 k l0 ((t119) % 256) ((t120) % 256) ((t121) % 256) true))) else (laws_FnField.j0 k l0 ((t119) % 256) ((t120) % 256) ((t121) % 256) true)))) else (laws_FnField.j0 k l0 ((t119) % 256) ((t120) % 256) ((t121) % 256) true))))) else (laws_FnField.j0 k l0 ((t119) % 256) ((t120) % 256) ((t121) % 256) true))) = some r := H
      have A8 := Aside0.mk A80
      clear A80
      replace H := Option.bind_eq_some_iff.mp H
      obtain ⟨t123, A90, H⟩ := H
      replace H : (if t122 = t123 then ((impl_GfMul.f k ((t120) % 256) ((t121) % 256)).bind fun t124 => ((impl_GfMul.f k ((t119) % 256) t124).bind fun t125 => ((impl_GfMul.f k t122 ((t121) % 256)).bind fun t126 => (if t125 = t126 then ((impl_GfMul.f k ((t119) % 256) (Go.bits .xor .u8 ((t120) % 256) ((t121) % 256))).bind fun t127 => ((impl_GfMul.f k ((t119) % 256) ((t121) % 256)).bind fun t128 => (if t127 = (Go.bits .xor .u8 t122 t128) then ((impl_GfMul.f k ((t119) % 256) 1).bind fun t129 => (if t129 = ((t119) % 256) then ((impl_GfMul.f k 2 128).bind fun t130 => (laws_FnField.j0 k l0 ((t119) % 256) ((t120) % 256) ((t121) % 256) (t130 != 29))) else (laws_FnField.j0 k l0 ((t119) % 256) ((t120) % 256) ((t121) % 256) true))) else (laws_FnField.j0 k l0 ((t119) % 256) ((t120) % 256) ((t121) % 256) true)))) else (laws_FnField.j0 k l0 ((t119) % 256) ((t120) % 256) ((t121) % 256) true))))) else (laws_FnField.j0 k l0 ((t119) % 256) ((t120) % 256) ((t121) % 256) true)) = some r := H
      have A9 := Aside0.mk A90
      clear A90
      by_cases c10 : t122 = t123
      · rw [if_pos c10] at H
        have c10b0 : (t122 == t123) = true := beq_iff_eq.mpr c10
        have c10b1 : (t122 != t123) = false := bne_eq_false_iff_eq.mpr c10
        clear c10
        (first | rw [c10b0] | (simp only [i64_w, i32_w]; rw [c10b0]) | skip)
        replace H := Option.bind_eq_some_iff.mp H
        obtain ⟨t124, A110, H⟩ := H
        replace H : ((impl_GfMul.f k ((t119) % 256) t124).bind fun t125 => ((impl_GfMul.f k t122 ((t121) % 256)).bind fun t126 => (if t125 = t126 then ((impl_GfMul.f k ((t119) % 256) (Go.bits .xor .u8 ((t120) % 256) ((t121) % 256))).bind fun t127 => ((impl_GfMul.f k ((t119) % 256) ((t121) % 256)).bind fun t128 => (if t127 = (Go.bits .xor .u8 t122 t128) then ((impl_GfMul.f k ((t119) % 256) 1).bind fun t129 => (if t129 = ((t119) % 256) then ((impl_GfMul.f k 2 128).bind fun t130 => (laws_FnField.j0 k l0 ((t119) % 256) ((t120) % 256) ((t121) % 256) (t130 != 29))) else (laws_FnField.j0 k l0 ((t119) % 256) ((t120) % 256) ((t121) % 256) true))) else (laws_FnField.j0 k l0 ((t119) % 256) ((t120) % 256) ((t121) % 256) true)))) else (laws_FnField.j0 k l0 ((t119) % 256) ((t120) % 256) ((t121) % 256) true)))) = some r := H
        have A11 := Aside0.mk A110
        clear A110
        replace H := Option.bind_eq_some_iff.mp H
        obtain ⟨t125, A120, H⟩ := H
        replace H : ((impl_GfMul.f k t122 ((t121) % 256)).bind fun t126 => (if t125 = t126 then ((impl_GfMul.f k ((t119) % 256) (Go.bits .xor .u8 ((t120) % 256) ((t121) % 256))).bind fun t127 => ((impl_GfMul.f k ((t119) % 256) ((t121) % 256)).bind fun t128 => (if t127 = (Go.bits .xor .u8 t122 t128) then ((impl_GfMul.f k ((t119) % 256) 1).bind fun t129 => (if t129 = ((t119) % 256) then ((impl_GfMul.f k 2 128).bind fun t130 => (laws_FnField.j0 k l0 ((t119) % 256) ((t120) % 256) ((t121) % 256) (t130 != 29))) else (laws_FnField.j0 k l0 ((t119) % 256) ((t120) % 256) ((t121) % 256) true))) else (laws_FnField.j0 k l0 ((t119) % 256) ((t120) % 256) ((t121) % 256) true)))) else (laws_FnField.j0 k l0 ((t119) % 256) ((t120) % 256) ((t121) % 256) true))) = some r := H
        have A12 := Aside0.mk A120
        clear A120
        replace H := Option.bind_eq_some_iff.mp H
        obtain ⟨t126, A130, H⟩ := H
        replace H : (if t125 = t126 then ((impl_GfMul.f k ((t119) % 256) (Go.bits .xor .u8 ((t120) % 256) ((t121) % 256))).bind fun t127 => ((impl_GfMul.f k ((t119) % 256) ((t121) % 256)).bind fun t128 => (if t127 = (Go.bits .xor .u8 t122 t128) then ((impl_GfMul.f k ((t119) % 256) 1).bind fun t129 => (if t129 = ((t119) % 256) then ((impl_GfMul.f k 2 128).bind fun t130 => (laws_FnField.j0 k l0 ((t119) % 256) ((t120) % 256) ((t121) % 256) (t130 != 29))) else (laws_FnField.j0 k l0 ((t119) % 256) ((t120) % 256) ((t121) % 256) true))) else (laws_FnField.j0 k l0 ((t119) % 256) ((t120) % 256) ((t121) % 256) true)))) else (laws_FnField.j0 k l0 ((t119) % 256) ((t120) % 256) ((t121) % 256) true)) = some r := H
        have A13 := Aside0.mk A130
        clear A130
        by_cases c14 : t125 = t126
        · rw [if_pos c14] at H
          have c14b0 : (t125 == t126) = true := beq_iff_eq.mpr c14
          have c14b1 : (t125 != t126) = false := bne_eq_false_iff_eq.mpr c14
          clear c14
          replace H := Option.bind_eq_some_iff.mp H
          obtain ⟨t127, A150, H⟩ := H
          replace H : ((impl_GfMul.f k ((t119) % 256) ((t121) % 256)).bind fun t128 => (if t127 = (Go.bits .xor .u8 t122 t128) then ((impl_GfMul.f k ((t119) % 256) 1).bind fun t129 => (if t129 = ((t119) % 256) then ((impl_GfMul.f k 2 128).bind fun t130 => (laws_FnField.j0 k l0 ((t119) % 256) ((t120) % 256) ((t121) % 256) (t130 != 29))) else (laws_FnField.j0 k l0 ((t119) % 256) ((t120) % 256) ((t121) % 256) true))) else (laws_FnField.j0 k l0 ((t119) % 256) ((t120) % 256) ((t121) % 256) true))) = some r := H
          have A15 := Aside0.mk A150
          clear A150
          replace H := Option.bind_eq_some_iff.mp H
          obtain ⟨t128, A160, H⟩ := H
          replace H : (if t127 = (Go.bits .xor .u8 t122 t128) then ((impl_GfMul.f k ((t119) % 256) 1).bind fun t129 => (if t129 = ((t119) % 256) then ((impl_GfMul.f k 2 128).bind fun t130 => (laws_FnField.j0 k l0 ((t119) % 256) ((t120) % 256) ((t121) % 256) (t130 != 29))) else (laws_FnField.j0 k l0 ((t119) % 256) ((t120) % 256) ((t121) % 256) true))) else (laws_FnField.j0 k l0 ((t119) % 256) ((t120) % 256) ((t121) % 256) true)) = some r := H
          have A16 := Aside0.mk A160
          clear A160
          by_cases c17 : t127 = (Go.bits .xor .u8 t122 t128)
          · rw [if_pos c17] at H
            have c17b0 : (t127 == (Go.bits .xor .u8 t122 t128)) = true := beq_iff_eq.mpr c17
            have c17b1 : (t127 != (Go.bits .xor .u8 t122 t128)) = false := bne_eq_false_iff_eq.mpr c17
            clear c17
            replace H := Option.bind_eq_some_iff.mp H
            obtain ⟨t129, A180, H⟩ := H
            replace H : (if t129 = ((t119) % 256) then ((impl_GfMul.f k 2 128).bind fun t130 => (laws_FnField.j0 k l0 ((t119) % 256) ((t120) % 256) ((t121) % 256) (t130 != 29))) else (laws_FnField.j0 k l0 ((t119) % 256) ((t120) % 256) ((t121) % 256) true)) = some r := H
            have A18 := Aside0.mk A180
            clear A180
            by_cases c19 : t129 = ((t119) % 256)
            · rw [if_pos c19] at H
              have c19b0 : (t129 == ((t119) % 256)) = true := beq_iff_eq.mpr c19
              have c19b1 : (t129 != ((t119) % 256)) = false := bne_eq_false_iff_eq.mpr c19
              clear c19
              replace H := Option.bind_eq_some_iff.mp H
              obtain ⟨t130, A200, H⟩ := H
              replace H : (laws_FnField.j0 k l0 ((t119) % 256) ((t120) % 256) ((t121) % 256) (t130 != 29)) = some r := H
              have A20 := Aside0.mk A200
              clear A200
              have H' := Aside0.mk H
              clear H
              go_wp2_with (first | (go_at_call 19; (with_reducible refine (impl_GfMul.calls k ((t119) % 256) ((t120) % 256) t122 _ A8.out).mono ?_); rintro e w' ⟨rfl, ⟨nd, rfl⟩⟩) | (go_at_call 19; (with_reducible refine (impl_GfMul.calls k ((t120) % 256) ((t119) % 256) t123 _ A9.out).mono ?_); rintro e w' ⟨rfl, ⟨nd, rfl⟩⟩) | (go_at_call 19; (with_reducible refine (impl_GfMul.calls k ((t120) % 256) ((t121) % 256) t124 _ A11.out).mono ?_); rintro e w' ⟨rfl, ⟨nd, rfl⟩⟩) | (go_at_call 19; (with_reducible refine (impl_GfMul.calls k ((t119) % 256) t124 t125 _ A12.out).mono ?_); rintro e w' ⟨rfl, ⟨nd, rfl⟩⟩) | (go_at_call 19; (with_reducible refine (impl_GfMul.calls k t122 ((t121) % 256) t126 _ A13.out).mono ?_); rintro e w' ⟨rfl, ⟨nd, rfl⟩⟩) | (go_at_call 19; (with_reducible refine (impl_GfMul.calls k ((t119) % 256) (Go.bits .xor .u8 ((t120) % 256) ((t121) % 256)) t127 _ A15.out).mono ?_); rintro e w' ⟨rfl, ⟨nd, rfl⟩⟩) | (go_at_call 19; (with_reducible refine (impl_GfMul.calls k ((t119) % 256) ((t121) % 256) t128 _ A16.out).mono ?_); rintro e w' ⟨rfl, ⟨nd, rfl⟩⟩) | (go_at_call 19; (with_reducible refine (impl_GfMul.calls k ((t119) % 256) 1 t129 _ A18.out).mono ?_); rintro e w' ⟨rfl, ⟨nd, rfl⟩⟩) | (go_at_call 19; (with_reducible refine (impl_GfMul.calls k 2 128 t130 _ A20.out).mono ?_); rintro e w' ⟨rfl, ⟨nd, rfl⟩⟩))
              go_meet
              case rel => exact ⟨_, ((t130 != 29)), (by first | rfl | (simp; done) | (simp [*]; done)), H', ⟨by first | omega | exact Nat.le_refl _⟩, ⟨by repeat (first | (with_reducible first | exact HB.out | apply below_alloc | apply pw_below_drewN | apply below_drew1) | exact HB.out)⟩⟩
            · rw [if_neg c19] at H
              have c19b0 : (t129 == ((t119) % 256)) = false := beq_eq_false_iff_ne.mpr c19
              have c19b1 : (t129 != ((t119) % 256)) = true := bne_iff_ne.mpr c19
              have H' := Aside0.mk H
              clear H
              go_wp2_with (first | (go_at_call 19; (with_reducible refine (impl_GfMul.calls k ((t119) % 256) ((t120) % 256) t122 _ A8.out).mono ?_); rintro e w' ⟨rfl, ⟨nd, rfl⟩⟩) | (go_at_call 19; (with_reducible refine (impl_GfMul.calls k ((t120) % 256) ((t119) % 256) t123 _ A9.out).mono ?_); rintro e w' ⟨rfl, ⟨nd, rfl⟩⟩) | (go_at_call 19; (with_reducible refine (impl_GfMul.calls k ((t120) % 256) ((t121) % 256) t124 _ A11.out).mono ?_); rintro e w' ⟨rfl, ⟨nd, rfl⟩⟩) | (go_at_call 19; (with_reducible refine (impl_GfMul.calls k ((t119) % 256) t124 t125 _ A12.out).mono ?_); rintro e w' ⟨rfl, ⟨nd, rfl⟩⟩) | (go_at_call 19; (with_reducible refine (impl_GfMul.calls k t122 ((t121) % 256) t126 _ A13.out).mono ?_); rintro e w' ⟨rfl, ⟨nd, rfl⟩⟩) | (go_at_call 19; (with_reducible refine (impl_GfMul.calls k ((t119) % 256) (Go.bits .xor .u8 ((t120) % 256) ((t121) % 256)) t127 _ A15.out).mono ?_); rintro e w' ⟨rfl, ⟨nd, rfl⟩⟩) | (go_at_call 19; (with_reducible refine (impl_GfMul.calls k ((t119) % 256) ((t121) % 256) t128 _ A16.out).mono ?_); rintro e w' ⟨rfl, ⟨nd, rfl⟩⟩) | (go_at_call 19; (with_reducible refine (impl_GfMul.calls k ((t119) % 256) 1 t129 _ A18.out).mono ?_); rintro e w' ⟨rfl, ⟨nd, rfl⟩⟩))
              go_meet
              case rel => exact ⟨_, (true), (by first | rfl | (simp; done) | (simp [*]; done)), H', ⟨by first | omega | exact Nat.le_refl _⟩, ⟨by repeat (first | (with_reducible first | exact HB.out | apply below_alloc | apply pw_below_drewN | apply below_drew1) | exact HB.out)⟩⟩
          · rw [if_neg c17] at H
            have c17b0 : (t127 == (Go.bits .xor .u8 t122 t128)) = false := beq_eq_false_iff_ne.mpr c17
            have c17b1 : (t127 != (Go.bits .xor .u8 t122 t128)) = true := bne_iff_ne.mpr c17
            have H' := Aside0.mk H
            clear H
            go_wp2_with (first | (go_at_call 19; (with_reducible refine (impl_GfMul.calls k ((t119) % 256) ((t120) % 256) t122 _ A8.out).mono ?_); rintro e w' ⟨rfl, ⟨nd, rfl⟩⟩) | (go_at_call 19; (with_reducible refine (impl_GfMul.calls k ((t120) % 256) ((t119) % 256) t123 _ A9.out).mono ?_); rintro e w' ⟨rfl, ⟨nd, rfl⟩⟩) | (go_at_call 19; (with_reducible refine (impl_GfMul.calls k ((t120) % 256) ((t121) % 256) t124 _ A11.out).mono ?_); rintro e w' ⟨rfl, ⟨nd, rfl⟩⟩) | (go_at_call 19; (with_reducible refine (impl_GfMul.calls k ((t119) % 256) t124 t125 _ A12.out).mono ?_); rintro e w' ⟨rfl, ⟨nd, rfl⟩⟩) | (go_at_call 19; (with_reducible refine (impl_GfMul.calls k t122 ((t121) % 256) t126 _ A13.out).mono ?_); rintro e w' ⟨rfl, ⟨nd, rfl⟩⟩) | (go_at_call 19; (with_reducible refine (impl_GfMul.calls k ((t119) % 256) (Go.bits .xor .u8 ((t120) % 256) ((t121) % 256)) t127 _ A15.out).mono ?_); rintro e w' ⟨rfl, ⟨nd, rfl⟩⟩) | (go_at_call 19; (with_reducible refine (impl_GfMul.calls k ((t119) % 256) ((t121) % 256) t128 _ A16.out).mono ?_); rintro e w' ⟨rfl, ⟨nd, rfl⟩⟩))
            go_meet
            case rel => exact ⟨_, (true), (by first | rfl | (simp; done) | (simp [*]; done)), H', ⟨by first | omega | exact Nat.le_refl _⟩, ⟨by repeat (first | (with_reducible first | exact HB.out | apply below_alloc | apply pw_below_drewN | apply below_drew1) | exact HB.out)⟩⟩
        · rw [if_neg c14] at H
          have c14b0 : (t125 == t126) = false := beq_eq_false_iff_ne.mpr c14
          have c14b1 : (t125 != t126) = true := bne_iff_ne.mpr c14
          have H' := Aside0.mk H
          clear H
          go_wp2_with (first | (go_at_call 19; (with_reducible refine (impl_GfMul.calls k ((t119) % 256) ((t120) % 256) t122 _ A8.out).mono ?_); rintro e w' ⟨rfl, ⟨nd, rfl⟩⟩) | (go_at_call 19; (with_reducible refine (impl_GfMul.calls k ((t120) % 256) ((t119) % 256) t123 _ A9.out).mono ?_); rintro e w' ⟨rfl, ⟨nd, rfl⟩⟩) | (go_at_call 19; (with_reducible refine (impl_GfMul.calls k ((t120) % 256) ((t121) % 256) t124 _ A11.out).mono ?_); rintro e w' ⟨rfl, ⟨nd, rfl⟩⟩) | (go_at_call 19; (with_reducible refine (impl_GfMul.calls k ((t119) % 256) t124 t125 _ A12.out).mono ?_); rintro e w' ⟨rfl, ⟨nd, rfl⟩⟩) | (go_at_call 19; (with_reducible refine (impl_GfMul.calls k t122 ((t121) % 256) t126 _ A13.out).mono ?_); rintro e w' ⟨rfl, ⟨nd, rfl⟩⟩))
          go_meet
          case rel => exact ⟨_, (true), (by first | rfl | (simp; done) | (simp [*]; done)), H', ⟨by first | omega | exact Nat.le_refl _⟩, ⟨by repeat (first | (with_reducible first | exact HB.out | apply below_alloc | apply pw_below_drewN | apply below_drew1) | exact HB.out)⟩⟩
      · rw [if_neg c10] at H
        have c10b0 : (t122 == t123) = false := beq_eq_false_iff_ne.mpr c10
        have c10b1 : (t122 != t123) = true := bne_iff_ne.mpr c10
        (first | rw [c10b0] | (simp only [i64_w, i32_w]; rw [c10b0]) | skip)
        have H' := Aside0.mk H
        clear H
        go_wp2_with (first | (go_at_call 19; (with_reducible refine (impl_GfMul.calls k ((t119) % 256) ((t120) % 256) t122 _ A8.out).mono ?_); rintro e w' ⟨rfl, ⟨nd, rfl⟩⟩) | (go_at_call 19; (with_reducible refine (impl_GfMul.calls k ((t120) % 256) ((t119) % 256) t123 _ A9.out).mono ?_); rintro e w' ⟨rfl, ⟨nd, rfl⟩⟩))
        go_meet
        case rel => exact ⟨_, (true), (by first | rfl | (simp; done) | (simp [*]; done)), H', ⟨by first | omega | exact Nat.le_refl _⟩, ⟨by repeat (first | (with_reducible first | exact HB.out | apply below_alloc | apply pw_below_drewN | apply below_drew1) | exact HB.out)⟩⟩
    case rest =>
      clear HC7
      try clear c1
      try clear p2
      try clear c3
      try clear c10
      try clear c10b0
      try clear c10b1
      try clear c14
      try clear c14b0
      try clear c14b1
      try clear c17
      try clear c17b0
      try clear c17b1
      try clear c19
      try clear c19b0
      try clear c19b1
      obtain ⟨kq, x71_6, rfl, HA, HJ6, HB⟩ := hcut
      cases kq with
      | zero => exact absurd HA.out (by simp [laws_FnField.j0])
      | succ kj6 =>
        have H := HA.out
        clear HA
        simp only [laws_FnField.j0] at H
        by_cases c21 : x71_6 = true
        · subst c21
          have H1 : (some false) = some r := by rw [if_pos rfl] at H; exact H
          clear H
          have H := H1
          clear H1
          exact absurd ((Option.some.inj H).trans hT.out) (by decide)
        · replace c21 := Bool.eq_false_iff.mpr c21
          subst c21
          have H1 : ((impl_GfInv.f kj6 ((t119) % 256)).bind fun bt131 => (if (bt131.2 != (((t119) % 256) != 0)) = true then (laws_FnField.j1 kj6 l0 ((t119) % 256) ((t120) % 256) ((t121) % 256) true) else (if bt131.2 = true then ((impl_GfMul.f kj6 ((t119) % 256) bt131.1).bind fun t133 => (laws_FnField.j1 kj6 l0 ((t119) % 256) ((t120) % 256) ((t121) % 256) (t133 != 1))) else (laws_FnField.j1 kj6 l0 ((t119) % 256) ((t120) % 256) ((t121) % 256) false)))) = some r := by rw [if_neg (show ¬ (false = true) by decide)] at H; exact H
          clear H
          have H := H1
          clear H1
          replace H := Option.bind_eq_some_iff.mp H
          obtain ⟨⟨t131, t132⟩, A220, H⟩ := H
          replace H : (if (t132 != (((t119) % 256) != 0)) = true then (laws_FnField.j1 kj6 l0 ((t119) % 256) ((t120) % 256) ((t121) % 256) true) else (if t132 = true then ((impl_GfMul.f kj6 ((t119) % 256) t131).bind fun t133 => (laws_FnField.j1 kj6 l0 ((t119) % 256) ((t120) % 256) ((t121) % 256) (t133 != 1))) else (laws_FnField.j1 kj6 l0 ((t119) % 256) ((t120) % 256) ((t121) % 256) false))) = some r := H
          have A22 := Aside0.mk A220
          clear A220
          have HC23 := Aside0.mk H
          clear H
          go_upto_region 7 with (first | (go_at_call 34; (with_reducible refine (impl_GfInv.calls kj6 ((t119) % 256) t131 t132 _ A22.out).mono ?_); rintro e w' ⟨rfl, ⟨nd, rfl⟩⟩))
          (try simp only [Act.put, List.setIfInBounds_toArray, List.set_cons_zero, List.set_cons_succ])
          go_cut [89] (fun v89 wc => ∃ (kq : Nat) (x89_22 : Bool), v89 = .bool x89_22 ∧ Aside0 (laws_FnField.j1 kq l0 ((t119) % 256) ((t120) % 256) ((t121) % 256) x89_22 = some r) ∧ Aside0 (kq ≤ kj6) ∧ Aside0 (Below w.heap.size w wc))
          case first =>
            have H := HC23.out
            clear HC23
            by_cases c24 : (t132 != (((t119) % 256) != 0)) = true
            · rw [if_pos c24] at H
              have c24b0 : (t132 != (((t119) % 256) != 0)) = true := c24
              (try (have c24b1 : decide (t132 = (((t119) % 256) != 0)) = false := by simpa using c24))
              (try (have c24b2 : (t132 == (((t119) % 256) != 0)) = false := by simpa using c24))
              (try (have c24b3 : ¬ (t132 = (((t119) % 256) != 0)) := by simpa using c24))
              clear c24
              (first | rw [c24b0] | (simp only [i64_w, i32_w]; rw [c24b0]) | skip)
              have H' := Aside0.mk H
              clear H
              go_wp2
              go_meet
              case rel => exact ⟨_, (true), (by first | rfl | (simp; done) | (simp [*]; done)), H', ⟨by have := HJ6.out; first | omega | exact Nat.le_refl _⟩, ⟨by repeat (first | (with_reducible first | exact HB.out | apply below_alloc | apply pw_below_drewN | apply below_drew1) | exact HB.out)⟩⟩
            · rw [if_neg c24] at H
              have c24b0 : (t132 != (((t119) % 256) != 0)) = false := by simpa using c24
              (try (have c24b1 : decide (t132 = (((t119) % 256) != 0)) = true := by simpa using c24))
              (try (have c24b2 : (t132 == (((t119) % 256) != 0)) = true := by simpa using c24))
              clear c24
              (first | rw [c24b0] | (simp only [i64_w, i32_w]; rw [c24b0]) | skip)
              by_cases c25 : t132 = true
              · subst c25
                have H1 : ((impl_GfMul.f kj6 ((t119) % 256) t131).bind fun t133 => (laws_FnField.j1 kj6 l0 ((t119) % 256) ((t120) % 256) ((t121) % 256) (t133 != 1))) = some r := by rw [if_pos rfl] at H; exact H
                clear H
                have H := H1
                clear H1
                replace H := Option.bind_eq_some_iff.mp H
                obtain ⟨t133, A260, H⟩ := H
                replace H : (laws_FnField.j1 kj6 l0 ((t119) % 256) ((t120) % 256) ((t121) % 256) (t133 != 1)) = some r := H
                have A26 := Aside0.mk A260
                clear A260
                have H' := Aside0.mk H
                clear H
                go_wp2_with (first | (go_at_call 19; (with_reducible refine (impl_GfMul.calls kj6 ((t119) % 256) t131 t133 _ A26.out).mono ?_); rintro e w' ⟨rfl, ⟨nd, rfl⟩⟩))
                go_meet
                case rel => exact ⟨_, ((t133 != 1)), (by first | rfl | (simp; done) | (simp [*]; done)), H', ⟨by have := HJ6.out; first | omega | exact Nat.le_refl _⟩, ⟨by repeat (first | (with_reducible first | exact HB.out | apply below_alloc | apply pw_below_drewN | apply below_drew1) | exact HB.out)⟩⟩
              · replace c25 := Bool.eq_false_iff.mpr c25
                subst c25
                have H1 : (laws_FnField.j1 kj6 l0 ((t119) % 256) ((t120) % 256) ((t121) % 256) false) = some r := by rw [if_neg (show ¬ (false = true) by decide)] at H; exact H
                clear H
                have H := H1
                clear H1
                have H' := Aside0.mk H
                clear H
                go_wp2
                go_meet
                case rel => exact ⟨_, (false), (by first | rfl | (simp; done) | (simp [*]; done)), H', ⟨by have := HJ6.out; first | omega | exact Nat.le_refl _⟩, ⟨by repeat (first | (with_reducible first | exact HB.out | apply below_alloc | apply pw_below_drewN | apply below_drew1) | exact HB.out)⟩⟩
          case rest =>
            clear HC23
            try clear c1
            try clear c2
            try clear p2
            try clear c3
            try clear c10
            try clear c10b0
            try clear c10b1
            try clear c14
            try clear c14b0
            try clear c14b1
            try clear c17
            try clear c17b0
            try clear c17b1
            try clear c19
            try clear c19b0
            try clear c19b1
            try clear c21
            try clear c24
            try clear c24b0
            try clear c24b1
            try clear c24b2
            try clear c25
            try clear p2
            obtain ⟨kq, x89_22, rfl, HA, HJ22, HB⟩ := hcut
            cases kq with
            | zero => exact absurd HA.out (by simp [laws_FnField.j1])
            | succ kj22 =>
              have H := HA.out
              clear HA
              simp only [laws_FnField.j1] at H
              by_cases c27 : x89_22 = true
              · subst c27
                have H1 : (some false) = some r := by rw [if_pos rfl] at H; exact H
                clear H
                have H := H1
                clear H1
                exact absurd ((Option.some.inj H).trans hT.out) (by decide)
              · replace c27 := Bool.eq_false_iff.mpr c27
                subst c27
                have H1 : ((laws_at.f l0 3).bind fun t134 => ((impl_GfPow.f kj22 ((t119) % 256) (wrap64 ((wrap64 (t134 * 5)) + 1))).bind fun t135 => ((impl_GfPow.f kj22 ((t119) % 256) (wrap64 (t134 * 5))).bind fun t136 => ((impl_GfMul.f kj22 t136 ((t119) % 256)).bind fun t137 => (if t135 = t137 then ((some (([((t119) % 256), ((t120) % 256)] : List Int) : List Int)).bind fun y138 => ((impl_GfAxpy.f kj22 y138 ((t121) % 256) (([1, 2] : List Int))).bind fun bt144 => ((impl_GfDot.f kj22 y138 (([((t121) % 256), 1] : List Int))).bind fun bt151 => ((impl_GfDot.f kj22 y138 (([1] : List Int))).bind fun bt156 => (if bt144.2 = true then (if bt151.2 = true then (if bt156.2 = true then (some false) else (if (bt144.1.length : Int) = 2 then (if 0 < (bt144.1.length : Int) then (if (rd bt144.1 0) = (Go.bits .xor .u8 ((t119) % 256) ((t121) % 256)) then (if 1 < (bt144.1.length : Int) then ((impl_GfMul.f kj22 ((t121) % 256) 2).bind fun t160 => (if (rd bt144.1 1) = (Go.bits .xor .u8 ((t120) % 256) t160) then ((impl_GfMul.f kj22 ((t119) % 256) ((t121) % 256)).bind fun t161 => (some (bt151.1 == (Go.bits .xor .u8 t161 ((t120) % 256))))) else (some false))) else (none)) else (some false)) else (none)) else (some false))) else (some false)) else (some false)))))) else (some false)))))) = some r := by rw [if_neg (show ¬ (false = true) by decide)] at H; exact H
                clear H
                have H := H1
                clear H1
                replace H := Option.bind_eq_some_iff.mp H
                obtain ⟨t134, A280, H⟩ := H
                replace H : ((impl_GfPow.f kj22 ((t119) % 256) (wrap64 ((wrap64 (t134 * 5)) + 1))).bind fun t135 => ((impl_GfPow.f kj22 ((t119) % 256) (wrap64 (t134 * 5))).bind fun t136 => ((impl_GfMul.f kj22 t136 ((t119) % 256)).bind fun t137 => (if t135 = t137 then ((some (([((t119) % 256), ((t120) % 256)] : List Int) : List Int)).bind fun y138 => ((impl_GfAxpy.f kj22 y138 ((t121) % 256) (([1, 2] : List Int))).bind fun bt144 => ((impl_GfDot.f kj22 y138 (([((t121) % 256), 1] : List Int))).bind fun bt151 => ((impl_GfDot.f kj22 y138 (([1] : List Int))).bind fun bt156 => (if bt144.2 = true then (if bt151.2 = true then (if bt156.2 = true then (some false) else (if (bt144.1.length : Int) = 2 then (if 0 < (bt144.1.length : Int) then (if (rd bt144.1 0) = (Go.bits .xor .u8 ((t119) % 256) ((t121) % 256)) then (if 1 < (bt144.1.length : Int) then ((impl_GfMul.f kj22 ((t121) % 256) 2).bind fun t160 => (if (rd bt144.1 1) = (Go.bits .xor .u8 ((t120) % 256) t160) then ((impl_GfMul.f kj22 ((t119) % 256) ((t121) % 256)).bind fun t161 => (some (bt151.1 == (Go.bits .xor .u8 t161 ((t120) % 256))))) else (some false))) else (none)) else (some false)) else (none)) else (some false))) else (some false)) else (some false)))))) else (some false))))) = some r := H
                have A28 := Aside0.mk A280
                clear A280
                replace H := Option.bind_eq_some_iff.mp H
                obtain ⟨t135, A290, H⟩ := H
                replace H : ((impl_GfPow.f kj22 ((t119) % 256) (wrap64 (t134 * 5))).bind fun t136 => ((impl_GfMul.f kj22 t136 ((t119) % 256)).bind fun t137 => (if t135 = t137 then ((some (([((t119) % 256), ((t120) % 256)] : List Int) : List Int)).bind fun y138 => ((impl_GfAxpy.f kj22 y138 ((t121) % 256) (([1, 2] : List Int))).bind fun bt144 => ((impl_GfDot.f kj22 y138 (([((t121) % 256), 1] : List Int))).bind fun bt151 => ((impl_GfDot.f kj22 y138 (([1] : List Int))).bind fun bt156 => (if bt144.2 = true then (if bt151.2 = true then (if bt156.2 = true then (some false) else (if (bt144.1.length : Int) = 2 then (if 0 < (bt144.1.length : Int) then (if (rd bt144.1 0) = (Go.bits .xor .u8 ((t119) % 256) ((t121) % 256)) then (if 1 < (bt144.1.length : Int) then ((impl_GfMul.f kj22 ((t121) % 256) 2).bind fun t160 => (if (rd bt144.1 1) = (Go.bits .xor .u8 ((t120) % 256) t160) then ((impl_GfMul.f kj22 ((t119) % 256) ((t121) % 256)).bind fun t161 => (some (bt151.1 == (Go.bits .xor .u8 t161 ((t120) % 256))))) else (some false))) else (none)) else (some false)) else (none)) else (some false))) else (some false)) else (some false)))))) else (some false)))) = some r := H
                have A29 := Aside0.mk A290
                clear A290
                replace H := Option.bind_eq_some_iff.mp H
                obtain ⟨t136, A300, H⟩ := H
                replace H : ((impl_GfMul.f kj22 t136 ((t119) % 256)).bind fun t137 => (if t135 = t137 then ((some (([((t119) % 256), ((t120) % 256)] : List Int) : List Int)).bind fun y138 => ((impl_GfAxpy.f kj22 y138 ((t121) % 256) (([1, 2] : List Int))).bind fun bt144 => ((impl_GfDot.f kj22 y138 (([((t121) % 256), 1] : List Int))).bind fun bt151 => ((impl_GfDot.f kj22 y138 (([1] : List Int))).bind fun bt156 => (if bt144.2 = true then (if bt151.2 = true then (if bt156.2 = true then (some false) else (if (bt144.1.length : Int) = 2 then (if 0 < (bt144.1.length : Int) then (if (rd bt144.1 0) = (Go.bits .xor .u8 ((t119) % 256) ((t121) % 256)) then (if 1 < (bt144.1.length : Int) then ((impl_GfMul.f kj22 ((t121) % 256) 2).bind fun t160 => (if (rd bt144.1 1) = (Go.bits .xor .u8 ((t120) % 256) t160) then ((impl_GfMul.f kj22 ((t119) % 256) ((t121) % 256)).bind fun t161 => (some (bt151.1 == (Go.bits .xor .u8 t161 ((t120) % 256))))) else (some false))) else (none)) else (some false)) else (none)) else (some false))) else (some false)) else (some false)))))) else (some false))) = some r := H
                have A30 := Aside0.mk A300
                clear A300
                replace H := Option.bind_eq_some_iff.mp H
                obtain ⟨t137, A310, H⟩ := H
                replace H : (if t135 = t137 then ((some (([((t119) % 256), ((t120) % 256)] : List Int) : List Int)).bind fun y138 => ((impl_GfAxpy.f kj22 y138 ((t121) % 256) (([1, 2] : List Int))).bind fun bt144 => ((impl_GfDot.f kj22 y138 (([((t121) % 256), 1] : List Int))).bind fun bt151 => ((impl_GfDot.f kj22 y138 (([1] : List Int))).bind fun bt156 => (if bt144.2 = true then (if bt151.2 = true then (if bt156.2 = true then (some false) else (if (bt144.1.length : Int) = 2 then (if 0 < (bt144.1.length : Int) then (if (rd bt144.1 0) = (Go.bits .xor .u8 ((t119) % 256) ((t121) % 256)) then (if 1 < (bt144.1.length : Int) then ((impl_GfMul.f kj22 ((t121) % 256) 2).bind fun t160 => (if (rd bt144.1 1) = (Go.bits .xor .u8 ((t120) % 256) t160) then ((impl_GfMul.f kj22 ((t119) % 256) ((t121) % 256)).bind fun t161 => (some (bt151.1 == (Go.bits .xor .u8 t161 ((t120) % 256))))) else (some false))) else (none)) else (some false)) else (none)) else (some false))) else (some false)) else (some false)))))) else (some false)) = some r := H
                have A31 := Aside0.mk A310
                clear A310
                by_cases c32 : t135 = t137
                · rw [if_pos c32] at H
                  have c32b0 : (t135 == t137) = true := beq_iff_eq.mpr c32
                  have c32b1 : (t135 != t137) = false := bne_eq_false_iff_eq.mpr c32
                  clear c32
                  obtain ⟨y138, hy138⟩ : ∃ y_ : List Int, y_ = (([((t119) % 256), ((t120) % 256)] : List Int)) := ⟨_, rfl⟩
                  replace H : ((impl_GfAxpy.f kj22 y138 ((t121) % 256) (([1, 2] : List Int))).bind fun bt144 => ((impl_GfDot.f kj22 y138 (([((t121) % 256), 1] : List Int))).bind fun bt151 => ((impl_GfDot.f kj22 y138 (([1] : List Int))).bind fun bt156 => (if bt144.2 = true then (if bt151.2 = true then (if bt156.2 = true then (some false) else (if (bt144.1.length : Int) = 2 then (if 0 < (bt144.1.length : Int) then (if (rd bt144.1 0) = (Go.bits .xor .u8 ((t119) % 256) ((t121) % 256)) then (if 1 < (bt144.1.length : Int) then ((impl_GfMul.f kj22 ((t121) % 256) 2).bind fun t160 => (if (rd bt144.1 1) = (Go.bits .xor .u8 ((t120) % 256) t160) then ((impl_GfMul.f kj22 ((t119) % 256) ((t121) % 256)).bind fun t161 => (some (bt151.1 == (Go.bits .xor .u8 t161 ((t120) % 256))))) else (some false))) else (none)) else (some false)) else (none)) else (some false))) else (some false)) else (some false))))) = some r := by first | (rw [hy138]; with_reducible exact H) | (have H2_ := (Option.bind_some _ _).symm.trans H; rw [hy138]; with_reducible exact H2_) | (have H2_ := (Option.bind_some _ _).symm.trans H; with_reducible exact H2_) | with_reducible exact H | (rw [hy138]; exact H) | exact H
                  have Ny138 := Aside0.mk hy138
                  clear hy138
                  obtain ⟨y141, hy141⟩ : ∃ y_ : List Int, y_ = (([1, 2] : List Int)) := ⟨_, rfl⟩
                  replace H : ((impl_GfAxpy.f kj22 y138 ((t121) % 256) y141).bind fun bt144 => ((impl_GfDot.f kj22 y138 (([((t121) % 256), 1] : List Int))).bind fun bt151 => ((impl_GfDot.f kj22 y138 (([1] : List Int))).bind fun bt156 => (if bt144.2 = true then (if bt151.2 = true then (if bt156.2 = true then (some false) else (if (bt144.1.length : Int) = 2 then (if 0 < (bt144.1.length : Int) then (if (rd bt144.1 0) = (Go.bits .xor .u8 ((t119) % 256) ((t121) % 256)) then (if 1 < (bt144.1.length : Int) then ((impl_GfMul.f kj22 ((t121) % 256) 2).bind fun t160 => (if (rd bt144.1 1) = (Go.bits .xor .u8 ((t120) % 256) t160) then ((impl_GfMul.f kj22 ((t119) % 256) ((t121) % 256)).bind fun t161 => (some (bt151.1 == (Go.bits .xor .u8 t161 ((t120) % 256))))) else (some false))) else (none)) else (some false)) else (none)) else (some false))) else (some false)) else (some false))))) = some r := by first | (rw [hy141]; with_reducible exact H) | (have H2_ := (Option.bind_some _ _).symm.trans H; rw [hy141]; with_reducible exact H2_) | (have H2_ := (Option.bind_some _ _).symm.trans H; with_reducible exact H2_) | with_reducible exact H | (rw [hy141]; exact H) | exact H
                  have Ny141 := Aside0.mk hy141
                  clear hy141
                  replace H := Option.bind_eq_some_iff.mp H
                  obtain ⟨⟨t144, t145⟩, A330, H⟩ := H
                  replace H : ((impl_GfDot.f kj22 y138 (([((t121) % 256), 1] : List Int))).bind fun bt151 => ((impl_GfDot.f kj22 y138 (([1] : List Int))).bind fun bt156 => (if t145 = true then (if bt151.2 = true then (if bt156.2 = true then (some false) else (if (t144.length : Int) = 2 then (if 0 < (t144.length : Int) then (if (rd t144 0) = (Go.bits .xor .u8 ((t119) % 256) ((t121) % 256)) then (if 1 < (t144.length : Int) then ((impl_GfMul.f kj22 ((t121) % 256) 2).bind fun t160 => (if (rd t144 1) = (Go.bits .xor .u8 ((t120) % 256) t160) then ((impl_GfMul.f kj22 ((t119) % 256) ((t121) % 256)).bind fun t161 => (some (bt151.1 == (Go.bits .xor .u8 t161 ((t120) % 256))))) else (some false))) else (none)) else (some false)) else (none)) else (some false))) else (some false)) else (some false)))) = some r := H
                  have A33 := Aside0.mk A330
                  clear A330
                  obtain ⟨y148, hy148⟩ : ∃ y_ : List Int, y_ = (([((t121) % 256), 1] : List Int)) := ⟨_, rfl⟩
                  replace H : ((impl_GfDot.f kj22 y138 y148).bind fun bt151 => ((impl_GfDot.f kj22 y138 (([1] : List Int))).bind fun bt156 => (if t145 = true then (if bt151.2 = true then (if bt156.2 = true then (some false) else (if (t144.length : Int) = 2 then (if 0 < (t144.length : Int) then (if (rd t144 0) = (Go.bits .xor .u8 ((t119) % 256) ((t121) % 256)) then (if 1 < (t144.length : Int) then ((impl_GfMul.f kj22 ((t121) % 256) 2).bind fun t160 => (if (rd t144 1) = (Go.bits .xor .u8 ((t120) % 256) t160) then ((impl_GfMul.f kj22 ((t119) % 256) ((t121) % 256)).bind fun t161 => (some (bt151.1 == (Go.bits .xor .u8 t161 ((t120) % 256))))) else (some false))) else (none)) else (some false)) else (none)) else (some false))) else (some false)) else (some false)))) = some r := by first | (rw [hy148]; with_reducible exact H) | (have H2_ := (Option.bind_some _ _).symm.trans H; rw [hy148]; with_reducible exact H2_) | (have H2_ := (Option.bind_some _ _).symm.trans H; with_reducible exact H2_) | with_reducible exact H | (rw [hy148]; exact H) | exact H
                  have Ny148 := Aside0.mk hy148
                  clear hy148
                  replace H := Option.bind_eq_some_iff.mp H
                  obtain ⟨⟨t151, t152⟩, A340, H⟩ := H
                  replace H : ((impl_GfDot.f kj22 y138 (([1] : List Int))).bind fun bt156 => (if t145 = true then (if t152 = true then (if bt156.2 = true then (some false) else (if (t144.length : Int) = 2 then (if 0 < (t144.length : Int) then (if (rd t144 0) = (Go.bits .xor .u8 ((t119) % 256) ((t121) % 256)) then (if 1 < (t144.length : Int) then ((impl_GfMul.f kj22 ((t121) % 256) 2).bind fun t160 => (if (rd t144 1) = (Go.bits .xor .u8 ((t120) % 256) t160) then ((impl_GfMul.f kj22 ((t119) % 256) ((t121) % 256)).bind fun t161 => (some (t151 == (Go.bits .xor .u8 t161 ((t120) % 256))))) else (some false))) else (none)) else (some false)) else (none)) else (some false))) else (some false)) else (some false))) = some r := H
                  have A34 := Aside0.mk A340
                  clear A340
                  obtain ⟨y153, hy153⟩ : ∃ y_ : List Int, y_ = (([1] : List Int)) := ⟨_, rfl⟩
                  replace H : ((impl_GfDot.f kj22 y138 y153).bind fun bt156 => (if t145 = true then (if t152 = true then (if bt156.2 = true then (some false) else (if (t144.length : Int) = 2 then (if 0 < (t144.length : Int) then (if (rd t144 0) = (Go.bits .xor .u8 ((t119) % 256) ((t121) % 256)) then (if 1 < (t144.length : Int) then ((impl_GfMul.f kj22 ((t121) % 256) 2).bind fun t160 => (if (rd t144 1) = (Go.bits .xor .u8 ((t120) % 256) t160) then ((impl_GfMul.f kj22 ((t119) % 256) ((t121) % 256)).bind fun t161 => (some (t151 == (Go.bits .xor .u8 t161 ((t120) % 256))))) else (some false))) else (none)) else (some false)) else (none)) else (some false))) else (some false)) else (some false))) = some r := by first | (rw [hy153]; with_reducible exact H) | (have H2_ := (Option.bind_some _ _).symm.trans H; rw [hy153]; with_reducible exact H2_) | (have H2_ := (Option.bind_some _ _).symm.trans H; with_reducible exact H2_) | with_reducible exact H | (rw [hy153]; exact H) | exact H
                  have Ny153 := Aside0.mk hy153
                  clear hy153
                  replace H := Option.bind_eq_some_iff.mp H
                  obtain ⟨⟨t156, t157⟩, A350, H⟩ := H
                  replace H : (if t145 = true then (if t152 = true then (if t157 = true then (some false) else (if (t144.length : Int) = 2 then (if 0 < (t144.length : Int) then (if (rd t144 0) = (Go.bits .xor .u8 ((t119) % 256) ((t121) % 256)) then (if 1 < (t144.length : Int) then ((impl_GfMul.f kj22 ((t121) % 256) 2).bind fun t160 => (if (rd t144 1) = (Go.bits .xor .u8 ((t120) % 256) t160) then ((impl_GfMul.f kj22 ((t119) % 256) ((t121) % 256)).bind fun t161 => (some (t151 == (Go.bits .xor .u8 t161 ((t120) % 256))))) else (some false))) else (none)) else (some false)) else (none)) else (some false))) else (some false)) else (some false)) = some r := H
                  have A35 := Aside0.mk A350
                  clear A350
                  by_cases c36 : t145 = true
                  · subst c36
                    have H1 : (if t152 = true then (if t157 = true then (some false) else (if (t144.length : Int) = 2 then (if 0 < (t144.length : Int) then (if (rd t144 0) = (Go.bits .xor .u8 ((t119) % 256) ((t121) % 256)) then (if 1 < (t144.length : Int) then ((impl_GfMul.f kj22 ((t121) % 256) 2).bind fun t160 => (if (rd t144 1) = (Go.bits .xor .u8 ((t120) % 256) t160) then ((impl_GfMul.f kj22 ((t119) % 256) ((t121) % 256)).bind fun t161 => (some (t151 == (Go.bits .xor .u8 t161 ((t120) % 256))))) else (some false))) else (none)) else (some false)) else (none)) else (some false))) else (some false)) = some r := by rw [if_pos rfl] at H; exact H
                    clear H
                    have H := H1
                    clear H1
                    by_cases c37 : t152 = true
                    · subst c37
                      have H1 : (if t157 = true then (some false) else (if (t144.length : Int) = 2 then (if 0 < (t144.length : Int) then (if (rd t144 0) = (Go.bits .xor .u8 ((t119) % 256) ((t121) % 256)) then (if 1 < (t144.length : Int) then ((impl_GfMul.f kj22 ((t121) % 256) 2).bind fun t160 => (if (rd t144 1) = (Go.bits .xor .u8 ((t120) % 256) t160) then ((impl_GfMul.f kj22 ((t119) % 256) ((t121) % 256)).bind fun t161 => (some (t151 == (Go.bits .xor .u8 t161 ((t120) % 256))))) else (some false))) else (none)) else (some false)) else (none)) else (some false))) = some r := by rw [if_pos rfl] at H; exact H
                      clear H
                      have H := H1
                      clear H1
                      by_cases c38 : t157 = true
                      · subst c38
                        have H1 : (some false) = some r := by rw [if_pos rfl] at H; exact H
                        clear H
                        have H := H1
                        clear H1
                        exact absurd ((Option.some.inj H).trans hT.out) (by decide)
                      · replace c38 := Bool.eq_false_iff.mpr c38
                        subst c38
                        have H1 : (if (t144.length : Int) = 2 then (if 0 < (t144.length : Int) then (if (rd t144 0) = (Go.bits .xor .u8 ((t119) % 256) ((t121) % 256)) then (if 1 < (t144.length : Int) then ((impl_GfMul.f kj22 ((t121) % 256) 2).bind fun t160 => (if (rd t144 1) = (Go.bits .xor .u8 ((t120) % 256) t160) then ((impl_GfMul.f kj22 ((t119) % 256) ((t121) % 256)).bind fun t161 => (some (t151 == (Go.bits .xor .u8 t161 ((t120) % 256))))) else (some false))) else (none)) else (some false)) else (none)) else (some false)) = some r := by rw [if_neg (show ¬ (false = true) by decide)] at H; exact H
                        clear H
                        have H := H1
                        clear H1
                        by_cases c39 : (t144.length : Int) = 2
                        · rw [if_pos c39] at H
                          have c39b0 : ((t144.length : Int) == 2) = true := beq_iff_eq.mpr c39
                          have c39b1 : ((t144.length : Int) != 2) = false := bne_eq_false_iff_eq.mpr c39
                          clear c39
                          by_cases c40 : 0 < (t144.length : Int)
                          · rw [if_pos c40] at H
                            have c40b0 : decide (0 < (t144.length : Int)) = true := decide_eq_true c40
                            have c40b1 : decide (0 < t144.length) = true := decide_eq_true (by omega)
                            clear c40
                            by_cases c41 : (rd t144 0) = (Go.bits .xor .u8 ((t119) % 256) ((t121) % 256))
                            · rw [if_pos c41] at H
                              have c41b0 : ((rd t144 0) == (Go.bits .xor .u8 ((t119) % 256) ((t121) % 256))) = true := beq_iff_eq.mpr c41
                              have c41b1 : ((rd t144 0) != (Go.bits .xor .u8 ((t119) % 256) ((t121) % 256))) = false := bne_eq_false_iff_eq.mpr c41
                              clear c41
                              by_cases c42 : 1 < (t144.length : Int)
                              · rw [if_pos c42] at H
                                have c42b0 : decide (1 < (t144.length : Int)) = true := decide_eq_true c42
                                have c42b1 : decide (1 < t144.length) = true := decide_eq_true (by omega)
                                clear c42
                                replace H := Option.bind_eq_some_iff.mp H
                                obtain ⟨t160, A430, H⟩ := H
                                replace H : (if (rd t144 1) = (Go.bits .xor .u8 ((t120) % 256) t160) then ((impl_GfMul.f kj22 ((t119) % 256) ((t121) % 256)).bind fun t161 => (some (t151 == (Go.bits .xor .u8 t161 ((t120) % 256))))) else (some false)) = some r := H
                                have A43 := Aside0.mk A430
                                clear A430
                                by_cases c44 : (rd t144 1) = (Go.bits .xor .u8 ((t120) % 256) t160)
                                · rw [if_pos c44] at H
                                  have c44b0 : ((rd t144 1) == (Go.bits .xor .u8 ((t120) % 256) t160)) = true := beq_iff_eq.mpr c44
                                  have c44b1 : ((rd t144 1) != (Go.bits .xor .u8 ((t120) % 256) t160)) = false := bne_eq_false_iff_eq.mpr c44
                                  clear c44
                                  replace H := Option.bind_eq_some_iff.mp H
                                  obtain ⟨t161, A450, H⟩ := H
                                  replace H : (some (t151 == (Go.bits .xor .u8 t161 ((t120) % 256)))) = some r := H
                                  have A45 := Aside0.mk A450
                                  clear A450
                                  obtain rfl := Option.some.inj H
                                  try go_wp2_with (first | (go_at_call 33; (with_reducible refine (laws_at.calls _ _ l0 3 t134 _ ?side1 ?side2 A28.out).mono ?_); (case side1 => repeat (first | exact (Kd.C_below HR0.out HB.out) | (with_reducible refine Kd.C_alloc ?_ _) | (with_reducible refine Kd.C_drewN ?_ _) | (with_reducible refine Kd.C_drew ?_))); (case side2 => exact HC0.out); rintro e w' ⟨rfl, ⟨nd, rfl⟩⟩) | (go_at_call 29; (with_reducible refine (impl_GfPow.calls kj22 ((t119) % 256) (wrap64 ((wrap64 (t134 * 5)) + 1)) t135 _ A29.out).mono ?_); rintro e w' ⟨rfl, ⟨nd, rfl⟩⟩) | (go_at_call 29; (with_reducible refine (impl_GfPow.calls kj22 ((t119) % 256) (wrap64 (t134 * 5)) t136 _ A30.out).mono ?_); rintro e w' ⟨rfl, ⟨nd, rfl⟩⟩) | (go_at_call 19; (with_reducible refine (impl_GfMul.calls kj22 t136 ((t119) % 256) t137 _ A31.out).mono ?_); rintro e w' ⟨rfl, ⟨nd, rfl⟩⟩) | ((with_reducible refine gate_dst (N := 105) rfl ?_); (try (refine gate_guard (by rfl) ?_; dsimp only)); refine Kd.R_lit (Kd.int .u8) _ 5 ?hg (N := 105) ?hd (xs := ([((t119) % 256), ((t120) % 256)] : List Int)) (inner := [.int .u8 ((t119) % 256), .int .u8 ((t120) % 256)]) (ok := fun _ => True) (okp := fun _ => True) ?hr ?hp (fun _ hk => hk) trivial (Below.refl _ _) (Nat.le_refl _) (by simp) ?_; (case hd => rfl); (case hg => rfl); (case hr => first | (go_simp; done) | (go_simp; rfl)); (case hp => exact (Reps.one (show Kd.M (Kd.int .u8) _ _ _ ((t119) % 256) [.int .u8 ((t119) % 256)] from rfl) (Reps.one (show Kd.M (Kd.int .u8) _ _ _ ((t120) % 256) [.int .u8 ((t120) % 256)] from rfl) (Reps.none _ _)))); intro v139 w46 ho47 hb hg_ hnew_; clear hg_ hnew_; (first | rw [← Ny138.out] at ho47 | (simp only [Int.reduceToNat] at ho47; rw [← Ny138.out] at ho47)); have n0_ := Aside0.mk (Kd.R_lower ho47 (below_size (by repeat (first | (with_reducible first | exact HB.out | apply below_alloc | apply pw_below_drewN | apply below_drew1) | exact HB.out)))); have n1_ := Aside0.mk (below_step (by repeat (first | (with_reducible first | exact HB.out | apply below_alloc | apply pw_below_drewN | apply below_drew1) | exact HB.out)) hb); clear HB; have HO140 := n0_; have HB := n1_; clear n0_ n1_; clear hb ho47) | ((with_reducible refine gate_dst (N := 109) rfl ?_); (try (refine gate_guard (by rfl) ?_; dsimp only)); refine Kd.R_lit (Kd.int .u8) _ 5 ?hg (N := 109) ?hd (xs := ([1, 2] : List Int)) (inner := [.int .u8 1, .int .u8 2]) (ok := fun _ => True) (okp := fun _ => True) ?hr ?hp (fun _ hk => hk) trivial (Below.refl _ _) (Nat.le_refl _) (by simp) ?_; (case hd => rfl); (case hg => rfl); (case hr => first | (go_simp; done) | (go_simp; rfl)); (case hp => exact (Reps.one (show Kd.M (Kd.int .u8) _ _ _ 1 [.int .u8 1] from rfl) (Reps.one (show Kd.M (Kd.int .u8) _ _ _ 2 [.int .u8 2] from rfl) (Reps.none _ _)))); intro v142 w48 ho49 hb hg_ hnew_; clear hg_ hnew_; (first | rw [← Ny141.out] at ho49 | (simp only [Int.reduceToNat] at ho49; rw [← Ny141.out] at ho49)); have n0_ := Aside0.mk (Kd.R_elder' (by (with_reducible repeat (first | apply Kd.R_alloc | apply Kd.R_drewN | apply Kd.R_drew)); exact HO140.out) (Kd.R_base ho49) hb); have n1_ := Aside0.mk (Kd.R_lower (Kd.R_new' ho49 (Kd.R_lt (by (with_reducible repeat (first | apply Kd.R_alloc | apply Kd.R_drewN | apply Kd.R_drew)); exact HO140.out))) (below_size (by repeat (first | (with_reducible first | exact HB.out | apply below_alloc | apply pw_below_drewN | apply below_drew1) | exact HB.out)))); have n2_ := Aside0.mk (below_step (by repeat (first | (with_reducible first | exact HB.out | apply below_alloc | apply pw_below_drewN | apply below_drew1) | exact HB.out)) hb); clear HO140; clear HB; have HO140 := n0_; have HO143 := n1_; have HB := n2_; clear n0_ n1_ n2_; clear hb ho49; obtain ⟨Ao50, co50, eo50⟩ := Kd.R_slice HO140.out; subst eo50; obtain ⟨Ao51, co51, eo51⟩ := Kd.R_slice HO143.out; subst eo51) | (go_at_call 35; (with_reducible refine (impl_GfAxpy.calls kj22 _ _ y138 ((t121) % 256) _ _ y141 t144 true _ ?side1 ?side2 ?side3 ?side4 A33.out).mono ?_); (case side1 => repeat (first | exact (Kd.R_reads' HO140.out).2.2 | (with_reducible refine Kd.C_alloc ?_ _) | (with_reducible refine Kd.C_drewN ?_ _) | (with_reducible refine Kd.C_drew ?_))); (case side2 => exact (Kd.R_reads' HO140.out).2.1); (case side3 => repeat (first | exact (Kd.R_reads' HO143.out).2.2 | (with_reducible refine Kd.C_alloc ?_ _) | (with_reducible refine Kd.C_drewN ?_ _) | (with_reducible refine Kd.C_drew ?_))); (case side4 => exact (Kd.R_reads' HO143.out).2.1); rintro e w52 ⟨v146, rfl, ho0, hb⟩; have n0_ := Aside0.mk (Kd.R_elder' (by (with_reducible repeat (first | apply Kd.R_alloc | apply Kd.R_drewN | apply Kd.R_drew)); exact HO140.out) (Kd.R_base ho0) hb); have n1_ := Aside0.mk (Kd.R_elder' (by (with_reducible repeat (first | apply Kd.R_alloc | apply Kd.R_drewN | apply Kd.R_drew)); exact HO143.out) (Kd.R_base ho0) hb); have n2_ := Aside0.mk (Kd.R_lower (Kd.R_new' (Kd.R_new' ho0 (Kd.R_lt (by (with_reducible repeat (first | apply Kd.R_alloc | apply Kd.R_drewN | apply Kd.R_drew)); exact HO140.out))) (Kd.R_lt (by (with_reducible repeat (first | apply Kd.R_alloc | apply Kd.R_drewN | apply Kd.R_drew)); exact HO143.out))) (below_size (by repeat (first | (with_reducible first | exact HB.out | apply below_alloc | apply pw_below_drewN | apply below_drew1) | exact HB.out)))); have n3_ := Aside0.mk (below_step (by repeat (first | (with_reducible first | exact HB.out | apply below_alloc | apply pw_below_drewN | apply below_drew1) | exact HB.out)) hb); clear HO140; clear HO143; clear HB; have HO140 := n0_; have HO143 := n1_; have HO147 := n2_; have HB := n3_; clear n0_ n1_ n2_ n3_; (try clear hb); (try clear hb2); (try clear hk); (try clear hi); (try clear ho0)) | ((with_reducible refine gate_dst (N := 116) rfl ?_); (try (refine gate_guard (by rfl) ?_; dsimp only)); refine Kd.R_lit (Kd.int .u8) _ 5 ?hg (N := 116) ?hd (xs := ([((t121) % 256), 1] : List Int)) (inner := [.int .u8 ((t121) % 256), .int .u8 1]) (ok := fun _ => True) (okp := fun _ => True) ?hr ?hp (fun _ hk => hk) trivial (Below.refl _ _) (Nat.le_refl _) (by simp) ?_; (case hd => rfl); (case hg => rfl); (case hr => first | (go_simp; done) | (go_simp; rfl)); (case hp => exact (Reps.one (show Kd.M (Kd.int .u8) _ _ _ ((t121) % 256) [.int .u8 ((t121) % 256)] from rfl) (Reps.one (show Kd.M (Kd.int .u8) _ _ _ 1 [.int .u8 1] from rfl) (Reps.none _ _)))); intro v149 w53 ho54 hb hg_ hnew_; clear hg_ hnew_; (first | rw [← Ny148.out] at ho54 | (simp only [Int.reduceToNat] at ho54; rw [← Ny148.out] at ho54)); have n0_ := Aside0.mk (Kd.R_elder' (by (with_reducible repeat (first | apply Kd.R_alloc | apply Kd.R_drewN | apply Kd.R_drew)); exact HO140.out) (Kd.R_base ho54) hb); have n1_ := Aside0.mk (Kd.R_elder' (by (with_reducible repeat (first | apply Kd.R_alloc | apply Kd.R_drewN | apply Kd.R_drew)); exact HO143.out) (Kd.R_base ho54) hb); have n2_ := Aside0.mk (Kd.R_elder' (by (with_reducible repeat (first | apply Kd.R_alloc | apply Kd.R_drewN | apply Kd.R_drew)); exact HO147.out) (Kd.R_base ho54) hb); have n3_ := Aside0.mk (Kd.R_lower (Kd.R_new' (Kd.R_new' (Kd.R_new' ho54 (Kd.R_lt (by (with_reducible repeat (first | apply Kd.R_alloc | apply Kd.R_drewN | apply Kd.R_drew)); exact HO140.out))) (Kd.R_lt (by (with_reducible repeat (first | apply Kd.R_alloc | apply Kd.R_drewN | apply Kd.R_drew)); exact HO143.out))) (Kd.R_lt (by (with_reducible repeat (first | apply Kd.R_alloc | apply Kd.R_drewN | apply Kd.R_drew)); exact HO147.out))) (below_size (by repeat (first | (with_reducible first | exact HB.out | apply below_alloc | apply pw_below_drewN | apply below_drew1) | exact HB.out)))); have n4_ := Aside0.mk (below_step (by repeat (first | (with_reducible first | exact HB.out | apply below_alloc | apply pw_below_drewN | apply below_drew1) | exact HB.out)) hb); clear HO140; clear HO143; clear HO147; clear HB; have HO140 := n0_; have HO143 := n1_; have HO147 := n2_; have HO150 := n3_; have HB := n4_; clear n0_ n1_ n2_ n3_ n4_; clear hb ho54; obtain ⟨Ao55, co55, eo55⟩ := Kd.R_slice HO150.out; subst eo55) | (go_at_call 36; (with_reducible refine (impl_GfDot.calls kj22 _ _ y138 _ _ y148 t151 true _ ?side1 ?side2 ?side3 ?side4 A34.out).mono ?_); (case side1 => repeat (first | exact (Kd.R_reads' HO140.out).2.2 | (with_reducible refine Kd.C_alloc ?_ _) | (with_reducible refine Kd.C_drewN ?_ _) | (with_reducible refine Kd.C_drew ?_))); (case side2 => exact (Kd.R_reads' HO140.out).2.1); (case side3 => repeat (first | exact (Kd.R_reads' HO150.out).2.2 | (with_reducible refine Kd.C_alloc ?_ _) | (with_reducible refine Kd.C_drewN ?_ _) | (with_reducible refine Kd.C_drew ?_))); (case side4 => exact (Kd.R_reads' HO150.out).2.1); rintro e w' ⟨rfl, ⟨nd, rfl⟩⟩) | ((with_reducible refine gate_dst (N := 122) rfl ?_); (try (refine gate_guard (by rfl) ?_; dsimp only)); refine Kd.R_lit (Kd.int .u8) _ 5 ?hg (N := 122) ?hd (xs := ([1] : List Int)) (inner := [.int .u8 1]) (ok := fun _ => True) (okp := fun _ => True) ?hr ?hp (fun _ hk => hk) trivial (Below.refl _ _) (Nat.le_refl _) (by simp) ?_; (case hd => rfl); (case hg => rfl); (case hr => first | (go_simp; done) | (go_simp; rfl)); (case hp => exact (Reps.one (show Kd.M (Kd.int .u8) _ _ _ 1 [.int .u8 1] from rfl) (Reps.none _ _))); intro v154 w56 ho57 hb hg_ hnew_; clear hg_ hnew_; (first | rw [← Ny153.out] at ho57 | (simp only [Int.reduceToNat] at ho57; rw [← Ny153.out] at ho57)); have n0_ := Aside0.mk (Kd.R_elder' (by (with_reducible repeat (first | apply Kd.R_alloc | apply Kd.R_drewN | apply Kd.R_drew)); exact HO140.out) (Kd.R_base ho57) hb); have n1_ := Aside0.mk (Kd.R_elder' (by (with_reducible repeat (first | apply Kd.R_alloc | apply Kd.R_drewN | apply Kd.R_drew)); exact HO143.out) (Kd.R_base ho57) hb); have n2_ := Aside0.mk (Kd.R_elder' (by (with_reducible repeat (first | apply Kd.R_alloc | apply Kd.R_drewN | apply Kd.R_drew)); exact HO147.out) (Kd.R_base ho57) hb); have n3_ := Aside0.mk (Kd.R_elder' (by (with_reducible repeat (first | apply Kd.R_alloc | apply Kd.R_drewN | apply Kd.R_drew)); exact HO150.out) (Kd.R_base ho57) hb); have n4_ := Aside0.mk (Kd.R_lower (Kd.R_new' (Kd.R_new' (Kd.R_new' (Kd.R_new' ho57 (Kd.R_lt (by (with_reducible repeat (first | apply Kd.R_alloc | apply Kd.R_drewN | apply Kd.R_drew)); exact HO140.out))) (Kd.R_lt (by (with_reducible repeat (first | apply Kd.R_alloc | apply Kd.R_drewN | apply Kd.R_drew)); exact HO143.out))) (Kd.R_lt (by (with_reducible repeat (first | apply Kd.R_alloc | apply Kd.R_drewN | apply Kd.R_drew)); exact HO147.out))) (Kd.R_lt (by (with_reducible repeat (first | apply Kd.R_alloc | apply Kd.R_drewN | apply Kd.R_drew)); exact HO150.out))) (below_size (by repeat (first | (with_reducible first | exact HB.out | apply below_alloc | apply pw_below_drewN | apply below_drew1) | exact HB.out)))); have n5_ := Aside0.mk (below_step (by repeat (first | (with_reducible first | exact HB.out | apply below_alloc | apply pw_below_drewN | apply below_drew1) | exact HB.out)) hb); clear HO140; clear HO143; clear HO147; clear HO150; clear HB; have HO140 := n0_; have HO143 := n1_; have HO147 := n2_; have HO150 := n3_; have HO155 := n4_; have HB := n5_; clear n0_ n1_ n2_ n3_ n4_ n5_; clear hb ho57; obtain ⟨Ao58, co58, eo58⟩ := Kd.R_slice HO155.out; subst eo58) | (go_at_call 36; (with_reducible refine (impl_GfDot.calls kj22 _ _ y138 _ _ y153 t156 false _ ?side1 ?side2 ?side3 ?side4 A35.out).mono ?_); (case side1 => repeat (first | exact (Kd.R_reads' HO140.out).2.2 | (with_reducible refine Kd.C_alloc ?_ _) | (with_reducible refine Kd.C_drewN ?_ _) | (with_reducible refine Kd.C_drew ?_))); (case side2 => exact (Kd.R_reads' HO140.out).2.1); (case side3 => repeat (first | exact (Kd.R_reads' HO155.out).2.2 | (with_reducible refine Kd.C_alloc ?_ _) | (with_reducible refine Kd.C_drewN ?_ _) | (with_reducible refine Kd.C_drew ?_))); (case side4 => exact (Kd.R_reads' HO155.out).2.1); rintro e w' ⟨rfl, ⟨nd, rfl⟩⟩))
                                  (try (rw [drewN_self w56]; generalize hq_ : World.drewN w56 _ = w56; have n0_ : Aside0 (Kd.R (Kd.int .u8) 5 w56 w.heap.size (fun k_ => some k_ ≠ (.slice Ao51 y141.length co51 : Value).ownBlock ∧ some k_ ≠ (v146 : Value).ownBlock ∧ some k_ ≠ (.slice Ao55 y148.length co55 : Value).ownBlock ∧ some k_ ≠ (.slice Ao58 y153.length co58 : Value).ownBlock) (.slice Ao50 y138.length co50) y138) := ⟨by rw [← hq_]; exact (by (with_reducible repeat (first | apply Kd.R_alloc | apply Kd.R_drewN | apply Kd.R_drew)); exact Kd.R_mono HO140.out (fun _ hk => ⟨hk.1.1.1.2, ⟨hk.1.1.2, ⟨hk.1.2, hk.2⟩⟩⟩))⟩; have n1_ : Aside0 (Kd.R (Kd.int .u8) 5 w56 w.heap.size (fun k_ => some k_ ≠ (.slice Ao50 y138.length co50 : Value).ownBlock ∧ some k_ ≠ (v146 : Value).ownBlock ∧ some k_ ≠ (.slice Ao55 y148.length co55 : Value).ownBlock ∧ some k_ ≠ (.slice Ao58 y153.length co58 : Value).ownBlock) (.slice Ao51 y141.length co51) y141) := ⟨by rw [← hq_]; exact (by (with_reducible repeat (first | apply Kd.R_alloc | apply Kd.R_drewN | apply Kd.R_drew)); exact Kd.R_mono HO143.out (fun _ hk => ⟨hk.1.1.1.2, ⟨hk.1.1.2, ⟨hk.1.2, hk.2⟩⟩⟩))⟩; have n2_ : Aside0 (Kd.R (Kd.int .u8) 5 w56 w.heap.size (fun k_ => some k_ ≠ (.slice Ao50 y138.length co50 : Value).ownBlock ∧ some k_ ≠ (.slice Ao51 y141.length co51 : Value).ownBlock ∧ some k_ ≠ (.slice Ao55 y148.length co55 : Value).ownBlock ∧ some k_ ≠ (.slice Ao58 y153.length co58 : Value).ownBlock) v146 t144) := ⟨by rw [← hq_]; exact (by (with_reducible repeat (first | apply Kd.R_alloc | apply Kd.R_drewN | apply Kd.R_drew)); exact Kd.R_mono HO147.out (fun _ hk => ⟨hk.1.1.1.2, ⟨hk.1.1.2, ⟨hk.1.2, hk.2⟩⟩⟩))⟩; have n3_ : Aside0 (Kd.R (Kd.int .u8) 5 w56 w.heap.size (fun k_ => some k_ ≠ (.slice Ao50 y138.length co50 : Value).ownBlock ∧ some k_ ≠ (.slice Ao51 y141.length co51 : Value).ownBlock ∧ some k_ ≠ (v146 : Value).ownBlock ∧ some k_ ≠ (.slice Ao58 y153.length co58 : Value).ownBlock) (.slice Ao55 y148.length co55) y148) := ⟨by rw [← hq_]; exact (by (with_reducible repeat (first | apply Kd.R_alloc | apply Kd.R_drewN | apply Kd.R_drew)); exact Kd.R_mono HO150.out (fun _ hk => ⟨hk.1.1.1.2, ⟨hk.1.1.2, ⟨hk.1.2, hk.2⟩⟩⟩))⟩; have n4_ : Aside0 (Kd.R (Kd.int .u8) 5 w56 w.heap.size (fun k_ => some k_ ≠ (.slice Ao50 y138.length co50 : Value).ownBlock ∧ some k_ ≠ (.slice Ao51 y141.length co51 : Value).ownBlock ∧ some k_ ≠ (v146 : Value).ownBlock ∧ some k_ ≠ (.slice Ao55 y148.length co55 : Value).ownBlock) (.slice Ao58 y153.length co58) y153) := ⟨by rw [← hq_]; exact (by (with_reducible repeat (first | apply Kd.R_alloc | apply Kd.R_drewN | apply Kd.R_drew)); exact Kd.R_mono HO155.out (fun _ hk => ⟨hk.1.1.1.2, ⟨hk.1.1.2, ⟨hk.1.2, hk.2⟩⟩⟩))⟩; have n5_ : Aside0 (Below w.heap.size w w56) := ⟨by rw [← hq_]; exact (by repeat (first | (with_reducible first | exact HB.out | apply below_alloc | apply pw_below_drewN | apply below_drew1) | exact HB.out))⟩; clear HO140 HO143 HO147 HO150 HO155 HB hq_; have HO140 := n0_; have HO143 := n1_; have HO147 := n2_; have HO150 := n3_; have HO155 := n4_; have HB := n5_; clear n0_ n1_ n2_ n3_ n4_ n5_))
                                  have n0_ := Aside0.mk (Kd.R_drew HO140.out)
                                  have n1_ := Aside0.mk (Kd.R_drew HO143.out)
                                  have n2_ := Aside0.mk (Kd.R_drew HO147.out)
                                  have n3_ := Aside0.mk (Kd.R_drew HO150.out)
                                  have n4_ := Aside0.mk (Kd.R_drew HO155.out)
                                  have n5_ := Aside0.mk (below_drew1 HB.out)
                                  clear HO140
                                  clear HO143
                                  clear HO147
                                  clear HO150
                                  clear HO155
                                  clear HB
                                  have HO140 := n0_
                                  have HO143 := n1_
                                  have HO147 := n2_
                                  have HO150 := n3_
                                  have HO155 := n4_
                                  have HB := n5_
                                  clear n0_ n1_ n2_ n3_ n4_ n5_
                                  obtain ⟨Ao60, co60, eo60⟩ := Kd.R_slice HO147.out
                                  (first | subst eo60 | (injection eo60 with f1_ f2_ f3_; have f4_ := f1_.symm; have f5_ := f3_.symm; clear f1_ f2_ f3_; subst f4_; subst f5_))
                                  have p158 : 0 ≤ (0 : Int) := (by omega)
                                  have q158 : 0 < (t144.length : Int) := of_decide_eq_true (by first | (with_reducible assumption) | assumption)
                                  obtain ⟨ad158, e158, hx158_0⟩ := Kd.at_int (Kd.R_reads' HO147.out).2.2 0 p158 q158
                                  cases e158
                                  have qi158 : (0 < t144.length) = True := eq_true (by omega)
                                  (try rw [show ((0 : Int)).toNat = 0 from rfl] at hx158_0)
                                  (try rw [Addr.add_zero'] at hx158_0)
                                  replace p158 := eq_true p158
                                  replace q158 := eq_true q158
                                  have p159 : 0 ≤ (1 : Int) := (by omega)
                                  have q159 : 1 < (t144.length : Int) := of_decide_eq_true (by first | (with_reducible assumption) | assumption)
                                  obtain ⟨ad159, e159, hx159_0⟩ := Kd.at_int (Kd.R_reads' HO147.out).2.2 1 p159 q159
                                  obtain rfl : ad158 = ad159 := (by injection e159)
                                  (try simp only [show (1 : Int).toNat = 1 from rfl, Nat.reduceMul, Nat.reduceEqDiff, Go.Addr.add, ↓reduceIte] at hx159_0)
                                  have qi159 : (1 < t144.length) = True := eq_true (by omega)
                                  (try rw [show ((1 : Int)).toNat = 1 from rfl] at hx159_0)
                                  replace p159 := eq_true p159
                                  replace q159 := eq_true q159
                                  refine start_ (n := 42) (S := fun w' => w'.cell? ad158 = some (.int .u8 (rd t144 0)) ∧ w'.cell? ⟨ad158.block, ad158.off + 1, none⟩ = some (.int .u8 (rd t144 1))) (ds := []) #[false, false, false, false, false, false, false, false, false, false, false, false, false, false, false, false, false, false, false, false, false, false, false, false, false, false, false, false, false, false, false, false, false, false, false, false, false, false, false, false, false, false] (by kernel_rfl) rfl rfl ⟨hx158_0, hx159_0⟩ (fun hHeld => ?_); refine with_tabW laws_FnField.tab16 laws_FnField.bits16 (fun HT_ HW_ => ?_)
                                  generalize w56.drew = w59 at HO140 HO143 HO147 HO150 HO155 HB hx158_0 hx159_0 hHeld ⊢
                                  refine pure_ (i := 0) (N := some 126) (v := ?_) (a' := ?_) #[true, false, false, false, false, false, false, false, false, false, false, false, false, false, false, false, false, false, false, false, false, false, false, false, false, false, false, false, false, false, false, false, false, false, false, false, false, false, false, false, false, false] rfl rfl (any_of HT_.out (by kernel_rfl)) (fun _ _ _ h => h) (Or.inl ⟨by rfl, ?_⟩) ?_ ?_
                                  rotate_left
                                  · intro w'
                                    go_simp
                                    with_reducible rfl
                                  rotate_left
                                  · simp only [Act.put, List.setIfInBounds_toArray, List.set_cons_zero, List.set_cons_succ, i64_w, i32_w]
                                    rfl
                                  refine pure_ (i := 1) (N := some 127) (v := ?_) (a' := ?_) #[true, true, false, false, false, false, false, false, false, false, false, false, false, false, false, false, false, false, false, false, false, false, false, false, false, false, false, false, false, false, false, false, false, false, false, false, false, false, false, false, false, false] rfl rfl (any_of HT_.out (by kernel_rfl)) (fun _ _ _ h => h) (Or.inl ⟨by rfl, ?_⟩) ?_ ?_
                                  rotate_left
                                  · intro w'
                                    go_simp
                                    with_reducible rfl
                                  rotate_left
                                  · simp only [Act.put, List.setIfInBounds_toArray, List.set_cons_zero, List.set_cons_succ, i64_w, i32_w]
                                    rfl
                                  refine pure_ (i := 2) (N := some 128) (v := ?_) (a' := ?_) #[true, true, true, false, false, false, false, false, false, false, false, false, false, false, false, false, false, false, false, false, false, false, false, false, false, false, false, false, false, false, false, false, false, false, false, false, false, false, false, false, false, false] rfl rfl (any_of HT_.out (by kernel_rfl)) (fun _ _ _ h => h) (Or.inl ⟨by rfl, ?_⟩) ?_ ?_
                                  rotate_left
                                  · intro w'
                                    go_simp
                                    with_reducible rfl
                                  rotate_left
                                  · simp only [Act.put, List.setIfInBounds_toArray, List.set_cons_zero, List.set_cons_succ, i64_w, i32_w]
                                    rfl
                                  refine pure_ (i := 3) (N := some 129) (v := ?_) (a' := ?_) #[true, true, true, true, false, false, false, false, false, false, false, false, false, false, false, false, false, false, false, false, false, false, false, false, false, false, false, false, false, false, false, false, false, false, false, false, false, false, false, false, false, false] rfl rfl (any_of HT_.out (by kernel_rfl)) (fun _ _ _ h => h) (Or.inl ⟨by rfl, ?_⟩) ?_ ?_
                                  rotate_left
                                  · intro w'
                                    go_simp
                                    with_reducible rfl
                                  rotate_left
                                  · simp only [Act.put, List.setIfInBounds_toArray, List.set_cons_zero, List.set_cons_succ, i64_w, i32_w]
                                    rfl
                                  refine pure_ (i := 4) (N := some 130) (v := ?_) (a' := ?_) #[true, true, true, true, true, false, false, false, false, false, false, false, false, false, false, false, false, false, false, false, false, false, false, false, false, false, false, false, false, false, false, false, false, false, false, false, false, false, false, false, false, false] rfl rfl (any_of HT_.out (by kernel_rfl)) (fun _ _ _ h => h) (Or.inl ⟨by rfl, ?_⟩) ?_ ?_
                                  rotate_left
                                  · intro w'
                                    go_simp
                                    with_reducible rfl
                                  rotate_left
                                  · simp only [Act.put, List.setIfInBounds_toArray, List.set_cons_zero, List.set_cons_succ, i64_w, i32_w]
                                    rfl
                                  refine pure_ (i := 5) (N := some 131) (v := ?_) (a' := ?_) #[true, true, true, true, true, true, false, false, false, false, false, false, false, false, false, false, false, false, false, false, false, false, false, false, false, false, false, false, false, false, false, false, false, false, false, false, false, false, false, false, false, false] rfl rfl (any_of HT_.out (by kernel_rfl)) (fun _ _ _ h => h) (Or.inl ⟨by rfl, ?_⟩) ?_ ?_
                                  rotate_left
                                  · intro w'
                                    go_simp
                                    with_reducible rfl
                                  rotate_left
                                  · simp only [Act.put, List.setIfInBounds_toArray, List.set_cons_zero, List.set_cons_succ, i64_w, i32_w]
                                    rfl
                                  refine pure_ (i := 6) (N := some 132) (v := ?_) (a' := ?_) #[true, true, true, true, true, true, true, false, false, false, false, false, false, false, false, false, false, false, false, false, false, false, false, false, false, false, false, false, false, false, false, false, false, false, false, false, false, false, false, false, false, false] rfl rfl (any_of HT_.out (by kernel_rfl)) (fun _ _ _ h => h) (Or.inl ⟨by rfl, ?_⟩) ?_ ?_
                                  rotate_left
                                  · intro w'
                                    go_simp
                                    with_reducible rfl
                                  rotate_left
                                  · simp only [Act.put, List.setIfInBounds_toArray, List.set_cons_zero, List.set_cons_succ, i64_w, i32_w]
                                    rfl
                                  refine pure_ (i := 7) (N := some 133) (v := ?_) (a' := ?_) #[true, true, true, true, true, true, true, true, false, false, false, false, false, false, false, false, false, false, false, false, false, false, false, false, false, false, false, false, false, false, false, false, false, false, false, false, false, false, false, false, false, false] rfl rfl (any_of HT_.out (by kernel_rfl)) (fun _ _ _ h => h) (Or.inl ⟨by rfl, ?_⟩) ?_ ?_
                                  rotate_left
                                  · intro w'
                                    go_simp
                                    with_reducible rfl
                                  rotate_left
                                  · simp only [Act.put, List.setIfInBounds_toArray, List.set_cons_zero, List.set_cons_succ, i64_w, i32_w]
                                    rfl
                                  refine pure_ (i := 8) (N := some 134) (v := ?_) (a' := ?_) #[true, true, true, true, true, true, true, true, true, false, false, false, false, false, false, false, false, false, false, false, false, false, false, false, false, false, false, false, false, false, false, false, false, false, false, false, false, false, false, false, false, false] rfl rfl (any_of HT_.out (by kernel_rfl)) (fun _ _ _ h => h) (Or.inl ⟨by rfl, ?_⟩) ?_ ?_
                                  rotate_left
                                  · intro w'
                                    go_simp
                                    with_reducible rfl
                                  rotate_left
                                  · simp only [Act.put, List.setIfInBounds_toArray, List.set_cons_zero, List.set_cons_succ, i64_w, i32_w]
                                    rfl
                                  refine pure_ (i := 9) (N := some 135) (v := ?_) (a' := ?_) #[true, true, true, true, true, true, true, true, true, true, false, false, false, false, false, false, false, false, false, false, false, false, false, false, false, false, false, false, false, false, false, false, false, false, false, false, false, false, false, false, false, false] rfl rfl (any_of HT_.out (by kernel_rfl)) (fun _ _ _ h => h) (Or.inl ⟨by rfl, ?_⟩) ?_ ?_
                                  rotate_left
                                  · intro w'
                                    go_simp
                                    with_reducible rfl
                                  rotate_left
                                  · simp only [Act.put, List.setIfInBounds_toArray, List.set_cons_zero, List.set_cons_succ, i64_w, i32_w]
                                    rfl
                                  refine pure_ (i := 10) (N := some 136) (v := ?_) (a' := ?_) #[true, true, true, true, true, true, true, true, true, true, true, false, false, false, false, false, false, false, false, false, false, false, false, false, false, false, false, false, false, false, false, false, false, false, false, false, false, false, false, false, false, false] rfl rfl (any_of HT_.out (by kernel_rfl)) (fun _ _ _ h => h) (Or.inl ⟨by rfl, ?_⟩) ?_ ?_
                                  rotate_left
                                  · intro w'
                                    go_simp
                                    with_reducible rfl
                                  rotate_left
                                  · simp only [Act.put, List.setIfInBounds_toArray, List.set_cons_zero, List.set_cons_succ, i64_w, i32_w]
                                    rfl
                                  refine pure_ (i := 11) (N := some 137) (v := ?_) (a' := ?_) #[true, true, true, true, true, true, true, true, true, true, true, true, false, false, false, false, false, false, false, false, false, false, false, false, false, false, false, false, false, false, false, false, false, false, false, false, false, false, false, false, false, false] rfl rfl (any_of HT_.out (by kernel_rfl)) (fun _ _ _ h => h) (Or.inl ⟨by rfl, ?_⟩) ?_ ?_
                                  rotate_left
                                  · intro w'
                                    go_simp
                                    with_reducible rfl
                                  rotate_left
                                  · simp only [Act.put, List.setIfInBounds_toArray, List.set_cons_zero, List.set_cons_succ, i64_w, i32_w]
                                    rfl
                                  refine pure_ (i := 12) (N := some 138) (v := ?_) (a' := ?_) #[true, true, true, true, true, true, true, true, true, true, true, true, true, false, false, false, false, false, false, false, false, false, false, false, false, false, false, false, false, false, false, false, false, false, false, false, false, false, false, false, false, false] rfl rfl (any_of HT_.out (by kernel_rfl)) (fun _ _ _ h => h) (Or.inl ⟨by rfl, ?_⟩) ?_ ?_
                                  rotate_left
                                  · intro w'
                                    go_simp
                                    with_reducible rfl
                                  rotate_left
                                  · simp only [Act.put, List.setIfInBounds_toArray, List.set_cons_zero, List.set_cons_succ, i64_w, i32_w]
                                    rfl
                                  refine pure_ (i := 13) (N := some 139) (v := ?_) (a' := ?_) #[true, true, true, true, true, true, true, true, true, true, true, true, true, true, false, false, false, false, false, false, false, false, false, false, false, false, false, false, false, false, false, false, false, false, false, false, false, false, false, false, false, false] rfl rfl (any_of HT_.out (by kernel_rfl)) (fun _ _ _ h => h) (Or.inl ⟨by rfl, ?_⟩) ?_ ?_
                                  rotate_left
                                  · intro w'
                                    go_simp
                                    with_reducible rfl
                                  rotate_left
                                  · simp only [Act.put, List.setIfInBounds_toArray, List.set_cons_zero, List.set_cons_succ, i64_w, i32_w]
                                    rfl
                                  refine pure_ (i := 14) (N := some 140) (v := ?_) (a' := ?_) #[true, true, true, true, true, true, true, true, true, true, true, true, true, true, true, false, false, false, false, false, false, false, false, false, false, false, false, false, false, false, false, false, false, false, false, false, false, false, false, false, false, false] rfl rfl (any_of HT_.out (by kernel_rfl)) (fun _ _ _ h => h) (Or.inl ⟨by rfl, ?_⟩) ?_ ?_
                                  rotate_left
                                  · intro w'
                                    go_simp
                                    with_reducible rfl
                                  rotate_left
                                  · simp only [Act.put, List.setIfInBounds_toArray, List.set_cons_zero, List.set_cons_succ, i64_w, i32_w]
                                    rfl
                                  refine pure_ (i := 15) (N := some 141) (v := ?_) (a' := ?_) #[true, true, true, true, true, true, true, true, true, true, true, true, true, true, true, true, false, false, false, false, false, false, false, false, false, false, false, false, false, false, false, false, false, false, false, false, false, false, false, false, false, false] rfl rfl (any_of HT_.out (by kernel_rfl)) (fun _ _ _ h => h) (Or.inl ⟨by rfl, ?_⟩) ?_ ?_
                                  rotate_left
                                  · intro w'
                                    go_simp
                                    with_reducible rfl
                                  rotate_left
                                  · simp only [Act.put, List.setIfInBounds_toArray, List.set_cons_zero, List.set_cons_succ, i64_w, i32_w]
                                    rfl
                                  refine pure_ (i := 17) (N := some 143) (v := ?_) (a' := ?_) #[true, true, true, true, true, true, true, true, true, true, true, true, true, true, true, true, false, true, false, false, false, false, false, false, false, false, false, false, false, false, false, false, false, false, false, false, false, false, false, false, false, false] rfl rfl (any_of HT_.out (by kernel_rfl)) (fun _ _ _ h => h) (Or.inl ⟨by rfl, ?_⟩) ?_ ?_
                                  rotate_left
                                  · intro w'
                                    go_simp
                                    with_reducible rfl
                                  rotate_left
                                  · simp only [Act.put, List.setIfInBounds_toArray, List.set_cons_zero, List.set_cons_succ, i64_w, i32_w]
                                    rfl
                                  refine pure_ (i := 18) (N := some 144) (v := ?_) (a' := ?_) #[true, true, true, true, true, true, true, true, true, true, true, true, true, true, true, true, false, true, true, false, false, false, false, false, false, false, false, false, false, false, false, false, false, false, false, false, false, false, false, false, false, false] rfl rfl (any_of HT_.out (by kernel_rfl)) (fun _ _ _ h => h) (Or.inl ⟨by rfl, ?_⟩) ?_ ?_
                                  rotate_left
                                  · intro w'
                                    go_simp
                                    with_reducible rfl
                                  rotate_left
                                  · simp only [Act.put, List.setIfInBounds_toArray, List.set_cons_zero, List.set_cons_succ, i64_w, i32_w]
                                    rfl
                                  refine pure_ (i := 19) (N := some 145) (v := ?_) (a' := ?_) #[true, true, true, true, true, true, true, true, true, true, true, true, true, true, true, true, false, true, true, true, false, false, false, false, false, false, false, false, false, false, false, false, false, false, false, false, false, false, false, false, false, false] rfl rfl (any_of HT_.out (by kernel_rfl)) (fun _ _ _ h => h) (Or.inl ⟨by rfl, ?_⟩) ?_ ?_
                                  rotate_left
                                  · intro w'
                                    go_simp
                                    with_reducible rfl
                                  rotate_left
                                  · simp only [Act.put, List.setIfInBounds_toArray, List.set_cons_zero, List.set_cons_succ, i64_w, i32_w]
                                    rfl
                                  refine take_ (i := 16) (N := some 142) (v := ?_) (a' := ?_) #[true, true, true, true, true, true, true, true, true, true, true, true, true, true, true, true, true, true, true, true, false, false, false, false, false, false, false, false, false, false, false, false, false, false, false, false, false, false, false, false, false, false] rfl rfl (take_ofW HT_.out HW_.out (by kernel_rfl)) (fun _ _ _ h => h) (Or.inl ⟨by rfl, ?_⟩) hHeld ?_ ?_
                                  rotate_left
                                  · rintro w' ⟨s0, s1⟩
                                    go_simp
                                    with_reducible rfl
                                  rotate_left
                                  · simp only [Act.put, List.setIfInBounds_toArray, List.set_cons_zero, List.set_cons_succ, i64_w, i32_w]
                                    rfl
                                  refine pure_ (i := 20) (N := some 146) (v := ?_) (a' := ?_) #[true, true, true, true, true, true, true, true, true, true, true, true, true, true, true, true, true, true, true, true, true, false, false, false, false, false, false, false, false, false, false, false, false, false, false, false, false, false, false, false, false, false] rfl rfl (any_of HT_.out (by kernel_rfl)) (fun _ _ _ h => h) (Or.inl ⟨by rfl, ?_⟩) ?_ ?_
                                  rotate_left
                                  · intro w'
                                    go_simp
                                    with_reducible rfl
                                  rotate_left
                                  · simp only [Act.put, List.setIfInBounds_toArray, List.set_cons_zero, List.set_cons_succ, i64_w, i32_w]
                                    rfl
                                  refine pure_ (i := 21) (N := some 147) (v := ?_) (a' := ?_) #[true, true, true, true, true, true, true, true, true, true, true, true, true, true, true, true, true, true, true, true, true, true, false, false, false, false, false, false, false, false, false, false, false, false, false, false, false, false, false, false, false, false] rfl rfl (any_of HT_.out (by kernel_rfl)) (fun _ _ _ h => h) (Or.inl ⟨by rfl, ?_⟩) ?_ ?_
                                  rotate_left
                                  · intro w'
                                    go_simp
                                    with_reducible rfl
                                  rotate_left
                                  · simp only [Act.put, List.setIfInBounds_toArray, List.set_cons_zero, List.set_cons_succ, i64_w, i32_w]
                                    rfl
                                  refine pure_ (i := 22) (N := some 148) (v := ?_) (a' := ?_) #[true, true, true, true, true, true, true, true, true, true, true, true, true, true, true, true, true, true, true, true, true, true, true, false, false, false, false, false, false, false, false, false, false, false, false, false, false, false, false, false, false, false] rfl rfl (any_of HT_.out (by kernel_rfl)) (fun _ _ _ h => h) (Or.inl ⟨by rfl, ?_⟩) ?_ ?_
                                  rotate_left
                                  · intro w'
                                    go_simp
                                    with_reducible rfl
                                  rotate_left
                                  · simp only [Act.put, List.setIfInBounds_toArray, List.set_cons_zero, List.set_cons_succ, i64_w, i32_w]
                                    rfl
                                  refine pure_ (i := 23) (N := some 149) (v := ?_) (a' := ?_) #[true, true, true, true, true, true, true, true, true, true, true, true, true, true, true, true, true, true, true, true, true, true, true, true, false, false, false, false, false, false, false, false, false, false, false, false, false, false, false, false, false, false] rfl rfl (any_of HT_.out (by kernel_rfl)) (fun _ _ _ h => h) (Or.inl ⟨by rfl, ?_⟩) ?_ ?_
                                  rotate_left
                                  · intro w'
                                    go_simp
                                    with_reducible rfl
                                  rotate_left
                                  · simp only [Act.put, List.setIfInBounds_toArray, List.set_cons_zero, List.set_cons_succ, i64_w, i32_w]
                                    rfl
                                  refine pure_ (i := 24) (N := some 150) (v := ?_) (a' := ?_) #[true, true, true, true, true, true, true, true, true, true, true, true, true, true, true, true, true, true, true, true, true, true, true, true, true, false, false, false, false, false, false, false, false, false, false, false, false, false, false, false, false, false] rfl rfl (any_of HT_.out (by kernel_rfl)) (fun _ _ _ h => h) (Or.inl ⟨by rfl, ?_⟩) ?_ ?_
                                  rotate_left
                                  · intro w'
                                    go_simp
                                    with_reducible rfl
                                  rotate_left
                                  · simp only [Act.put, List.setIfInBounds_toArray, List.set_cons_zero, List.set_cons_succ, i64_w, i32_w]
                                    rfl
                                  refine pure_ (i := 26) (N := some 152) (v := ?_) (a' := ?_) #[true, true, true, true, true, true, true, true, true, true, true, true, true, true, true, true, true, true, true, true, true, true, true, true, true, false, true, false, false, false, false, false, false, false, false, false, false, false, false, false, false, false] rfl rfl (any_of HT_.out (by kernel_rfl)) (fun _ _ _ h => h) (Or.inl ⟨by rfl, ?_⟩) ?_ ?_
                                  rotate_left
                                  · intro w'
                                    go_simp
                                    with_reducible rfl
                                  rotate_left
                                  · simp only [Act.put, List.setIfInBounds_toArray, List.set_cons_zero, List.set_cons_succ, i64_w, i32_w]
                                    rfl
                                  refine pure_ (i := 27) (N := some 153) (v := ?_) (a' := ?_) #[true, true, true, true, true, true, true, true, true, true, true, true, true, true, true, true, true, true, true, true, true, true, true, true, true, false, true, true, false, false, false, false, false, false, false, false, false, false, false, false, false, false] rfl rfl (any_of HT_.out (by kernel_rfl)) (fun _ _ _ h => h) (Or.inl ⟨by rfl, ?_⟩) ?_ ?_
                                  rotate_left
                                  · intro w'
                                    go_simp
                                    with_reducible rfl
                                  rotate_left
                                  · simp only [Act.put, List.setIfInBounds_toArray, List.set_cons_zero, List.set_cons_succ, i64_w, i32_w]
                                    rfl
                                  refine take_ (i := 25) (N := some 151) (v := ?_) (a' := ?_) #[true, true, true, true, true, true, true, true, true, true, true, true, true, true, true, true, true, true, true, true, true, true, true, true, true, true, true, true, false, false, false, false, false, false, false, false, false, false, false, false, false, false] rfl rfl (take_ofW HT_.out HW_.out (by kernel_rfl)) (fun _ _ _ h => h) (Or.inl ⟨by rfl, ?_⟩) hHeld ?_ ?_
                                  rotate_left
                                  · rintro w' ⟨s0, s1⟩
                                    go_simp
                                    with_reducible rfl
                                  rotate_left
                                  · simp only [Act.put, List.setIfInBounds_toArray, List.set_cons_zero, List.set_cons_succ, i64_w, i32_w]
                                    rfl
                                  refine one_ (i := 28) (N := some 154) #[true, true, true, true, true, true, true, true, true, true, true, true, true, true, true, true, true, true, true, true, true, true, true, true, true, true, true, true, true, false, false, false, false, false, false, false, false, false, false, false, false, false] rfl rfl (one_of HT_.out (by kernel_rfl)) (by decide) (fun K hK => ?_)
                                  refine goes_ Try.func19 (by kernel_rfl) rfl #[.int .u8 ((t121) % 256), .int .u8 2] (by rfl) rfl rfl (by (try simp only [List.map_toArray, List.map_cons, List.map_nil]); first | done | rfl | (simp only [List.length_drop, List.length_take]; rfl)) ?_
                                  with_reducible refine (impl_GfMul.calls kj22 ((t121) % 256) 2 t160 _ A43.out).mono ?_
                                  rintro e w' ⟨rfl, ⟨nd, rfl⟩⟩
                                  refine ⟨_, rfl, ?_⟩
                                  refine hK.out _ _ ⟨hHeld.1, hHeld.2⟩ (fun hHeld => ?_)
                                  clear hK K
                                  refine norm_ (a' := ?_) ?_ ?_
                                  rotate_left
                                  · show Act.put _ (some 154) _ = _
                                    simp only [Act.put, List.setIfInBounds_toArray, List.set_cons_zero, List.set_cons_succ, i64_w, i32_w]
                                    rfl
                                  refine pure_ (i := 29) (N := some 155) (v := ?_) (a' := ?_) #[true, true, true, true, true, true, true, true, true, true, true, true, true, true, true, true, true, true, true, true, true, true, true, true, true, true, true, true, true, true, false, false, false, false, false, false, false, false, false, false, false, false] rfl rfl (any_of HT_.out (by kernel_rfl)) (fun _ _ _ h => h) (Or.inl ⟨by rfl, ?_⟩) ?_ ?_
                                  rotate_left
                                  · intro w'
                                    go_simp
                                    with_reducible rfl
                                  rotate_left
                                  · simp only [Act.put, List.setIfInBounds_toArray, List.set_cons_zero, List.set_cons_succ, i64_w, i32_w]
                                    rfl
                                  refine pure_ (i := 30) (N := some 156) (v := ?_) (a' := ?_) #[true, true, true, true, true, true, true, true, true, true, true, true, true, true, true, true, true, true, true, true, true, true, true, true, true, true, true, true, true, true, true, false, false, false, false, false, false, false, false, false, false, false] rfl rfl (any_of HT_.out (by kernel_rfl)) (fun _ _ _ h => h) (Or.inl ⟨by rfl, ?_⟩) ?_ ?_
                                  rotate_left
                                  · intro w'
                                    go_simp
                                    with_reducible rfl
                                  rotate_left
                                  · simp only [Act.put, List.setIfInBounds_toArray, List.set_cons_zero, List.set_cons_succ, i64_w, i32_w]
                                    rfl
                                  refine pure_ (i := 31) (N := some 157) (v := ?_) (a' := ?_) #[true, true, true, true, true, true, true, true, true, true, true, true, true, true, true, true, true, true, true, true, true, true, true, true, true, true, true, true, true, true, true, true, false, false, false, false, false, false, false, false, false, false] rfl rfl (any_of HT_.out (by kernel_rfl)) (fun _ _ _ h => h) (Or.inl ⟨by rfl, ?_⟩) ?_ ?_
                                  rotate_left
                                  · intro w'
                                    go_simp
                                    with_reducible rfl
                                  rotate_left
                                  · simp only [Act.put, List.setIfInBounds_toArray, List.set_cons_zero, List.set_cons_succ, i64_w, i32_w]
                                    rfl
                                  refine pure_ (i := 32) (N := some 158) (v := ?_) (a' := ?_) #[true, true, true, true, true, true, true, true, true, true, true, true, true, true, true, true, true, true, true, true, true, true, true, true, true, true, true, true, true, true, true, true, true, false, false, false, false, false, false, false, false, false] rfl rfl (any_of HT_.out (by kernel_rfl)) (fun _ _ _ h => h) (Or.inl ⟨by rfl, ?_⟩) ?_ ?_
                                  rotate_left
                                  · intro w'
                                    go_simp
                                    with_reducible rfl
                                  rotate_left
                                  · simp only [Act.put, List.setIfInBounds_toArray, List.set_cons_zero, List.set_cons_succ, i64_w, i32_w]
                                    rfl
                                  refine pure_ (i := 33) (N := some 159) (v := ?_) (a' := ?_) #[true, true, true, true, true, true, true, true, true, true, true, true, true, true, true, true, true, true, true, true, true, true, true, true, true, true, true, true, true, true, true, true, true, true, false, false, false, false, false, false, false, false] rfl rfl (any_of HT_.out (by kernel_rfl)) (fun _ _ _ h => h) (Or.inl ⟨by rfl, ?_⟩) ?_ ?_
                                  rotate_left
                                  · intro w'
                                    go_simp
                                    with_reducible rfl
                                  rotate_left
                                  · simp only [Act.put, List.setIfInBounds_toArray, List.set_cons_zero, List.set_cons_succ, i64_w, i32_w]
                                    rfl
                                  refine pure_ (i := 34) (N := some 160) (v := ?_) (a' := ?_) #[true, true, true, true, true, true, true, true, true, true, true, true, true, true, true, true, true, true, true, true, true, true, true, true, true, true, true, true, true, true, true, true, true, true, true, false, false, false, false, false, false, false] rfl rfl (any_of HT_.out (by kernel_rfl)) (fun _ _ _ h => h) (Or.inl ⟨by rfl, ?_⟩) ?_ ?_
                                  rotate_left
                                  · intro w'
                                    go_simp
                                    with_reducible rfl
                                  rotate_left
                                  · simp only [Act.put, List.setIfInBounds_toArray, List.set_cons_zero, List.set_cons_succ, i64_w, i32_w]
                                    rfl
                                  refine pure_ (i := 35) (N := some 161) (v := ?_) (a' := ?_) #[true, true, true, true, true, true, true, true, true, true, true, true, true, true, true, true, true, true, true, true, true, true, true, true, true, true, true, true, true, true, true, true, true, true, true, true, false, false, false, false, false, false] rfl rfl (any_of HT_.out (by kernel_rfl)) (fun _ _ _ h => h) (Or.inl ⟨by rfl, ?_⟩) ?_ ?_
                                  rotate_left
                                  · intro w'
                                    go_simp
                                    with_reducible rfl
                                  rotate_left
                                  · simp only [Act.put, List.setIfInBounds_toArray, List.set_cons_zero, List.set_cons_succ, i64_w, i32_w]
                                    rfl
                                  refine pure_ (i := 37) (N := some 163) (v := ?_) (a' := ?_) #[true, true, true, true, true, true, true, true, true, true, true, true, true, true, true, true, true, true, true, true, true, true, true, true, true, true, true, true, true, true, true, true, true, true, true, true, false, true, false, false, false, false] rfl rfl (any_of HT_.out (by kernel_rfl)) (fun _ _ _ h => h) (Or.inl ⟨by rfl, ?_⟩) ?_ ?_
                                  rotate_left
                                  · intro w'
                                    go_simp
                                    with_reducible rfl
                                  rotate_left
                                  · simp only [Act.put, List.setIfInBounds_toArray, List.set_cons_zero, List.set_cons_succ, i64_w, i32_w]
                                    rfl
                                  refine one_ (i := 36) (N := some 162) #[true, true, true, true, true, true, true, true, true, true, true, true, true, true, true, true, true, true, true, true, true, true, true, true, true, true, true, true, true, true, true, true, true, true, true, true, true, true, false, false, false, false] rfl rfl (one_of HT_.out (by kernel_rfl)) (by decide) (fun K hK => ?_)
                                  refine goes_ Try.func19 (by kernel_rfl) rfl #[.int .u8 ((t119) % 256), .int .u8 ((t121) % 256)] (by rfl) rfl rfl (by (try simp only [List.map_toArray, List.map_cons, List.map_nil]); first | done | rfl | (simp only [List.length_drop, List.length_take]; rfl)) ?_
                                  with_reducible refine (impl_GfMul.calls kj22 ((t119) % 256) ((t121) % 256) t161 _ A45.out).mono ?_
                                  rintro e w' ⟨rfl, ⟨nd, rfl⟩⟩
                                  refine ⟨_, rfl, ?_⟩
                                  refine hK.out _ _ ⟨hHeld.1, hHeld.2⟩ (fun hHeld => ?_)
                                  clear hK K
                                  refine norm_ (a' := ?_) ?_ ?_
                                  rotate_left
                                  · show Act.put _ (some 162) _ = _
                                    simp only [Act.put, List.setIfInBounds_toArray, List.set_cons_zero, List.set_cons_succ, i64_w, i32_w]
                                    rfl
                                  refine pure_ (i := 38) (N := some 164) (v := ?_) (a' := ?_) #[true, true, true, true, true, true, true, true, true, true, true, true, true, true, true, true, true, true, true, true, true, true, true, true, true, true, true, true, true, true, true, true, true, true, true, true, true, true, true, false, false, false] rfl rfl (any_of HT_.out (by kernel_rfl)) (fun _ _ _ h => h) (Or.inl ⟨by rfl, ?_⟩) ?_ ?_
                                  rotate_left
                                  · intro w'
                                    go_simp
                                    with_reducible rfl
                                  rotate_left
                                  · simp only [Act.put, List.setIfInBounds_toArray, List.set_cons_zero, List.set_cons_succ, i64_w, i32_w]
                                    rfl
                                  refine pure_ (i := 39) (N := some 165) (v := ?_) (a' := ?_) #[true, true, true, true, true, true, true, true, true, true, true, true, true, true, true, true, true, true, true, true, true, true, true, true, true, true, true, true, true, true, true, true, true, true, true, true, true, true, true, true, false, false] rfl rfl (any_of HT_.out (by kernel_rfl)) (fun _ _ _ h => h) (Or.inl ⟨by rfl, ?_⟩) ?_ ?_
                                  rotate_left
                                  · intro w'
                                    go_simp
                                    with_reducible rfl
                                  rotate_left
                                  · simp only [Act.put, List.setIfInBounds_toArray, List.set_cons_zero, List.set_cons_succ, i64_w, i32_w]
                                    rfl
                                  refine pure_ (i := 40) (N := some 166) (v := ?_) (a' := ?_) #[true, true, true, true, true, true, true, true, true, true, true, true, true, true, true, true, true, true, true, true, true, true, true, true, true, true, true, true, true, true, true, true, true, true, true, true, true, true, true, true, true, false] rfl rfl (any_of HT_.out (by kernel_rfl)) (fun _ _ _ h => h) (Or.inl ⟨by rfl, ?_⟩) ?_ ?_
                                  rotate_left
                                  · intro w'
                                    go_simp
                                    with_reducible rfl
                                  rotate_left
                                  · simp only [Act.put, List.setIfInBounds_toArray, List.set_cons_zero, List.set_cons_succ, i64_w, i32_w]
                                    rfl
                                  refine pure_ (i := 41) (N := some 2) (v := ?_) (a' := ?_) #[true, true, true, true, true, true, true, true, true, true, true, true, true, true, true, true, true, true, true, true, true, true, true, true, true, true, true, true, true, true, true, true, true, true, true, true, true, true, true, true, true, true] rfl rfl (any_of HT_.out (by kernel_rfl)) (fun _ _ _ h => h) (Or.inl ⟨by rfl, ?_⟩) ?_ ?_
                                  rotate_left
                                  · intro w'
                                    go_simp
                                    with_reducible rfl
                                  rotate_left
                                  · simp only [Act.put, List.setIfInBounds_toArray, List.set_cons_zero, List.set_cons_succ, i64_w, i32_w]
                                    rfl
                                  refine done_ (done_of HT_.out (by kernel_rfl)) ?_
                                  try go_wp2
                                  go_ret
                                  exact ⟨by first | rfl | (simp [errW_none, errW_some] <;> rfl) | (simp [*, errW_none, errW_some] <;> rfl), by repeat (first | (with_reducible first | exact HB.out | apply below_alloc | apply pw_below_drewN | apply below_drew1) | exact HB.out)⟩
                                · rw [if_neg c44] at H
                                  have c44b0 : ((rd t144 1) == (Go.bits .xor .u8 ((t120) % 256) t160)) = false := beq_eq_false_iff_ne.mpr c44
                                  have c44b1 : ((rd t144 1) != (Go.bits .xor .u8 ((t120) % 256) t160)) = true := bne_iff_ne.mpr c44
                                  exact absurd ((Option.some.inj H).trans hT.out) (by decide)
                              · rw [if_neg c42] at H
                                exact absurd H (by simp)
                            · rw [if_neg c41] at H
                              have c41b0 : ((rd t144 0) == (Go.bits .xor .u8 ((t119) % 256) ((t121) % 256))) = false := beq_eq_false_iff_ne.mpr c41
                              have c41b1 : ((rd t144 0) != (Go.bits .xor .u8 ((t119) % 256) ((t121) % 256))) = true := bne_iff_ne.mpr c41
                              exact absurd ((Option.some.inj H).trans hT.out) (by decide)
                          · rw [if_neg c40] at H
                            exact absurd H (by simp)
                        · rw [if_neg c39] at H
                          have c39b0 : ((t144.length : Int) == 2) = false := beq_eq_false_iff_ne.mpr c39
                          have c39b1 : ((t144.length : Int) != 2) = true := bne_iff_ne.mpr c39
                          exact absurd ((Option.some.inj H).trans hT.out) (by decide)
                    · replace c37 := Bool.eq_false_iff.mpr c37
                      subst c37
                      have H1 : (some false) = some r := by rw [if_neg (show ¬ (false = true) by decide)] at H; exact H
                      clear H
                      have H := H1
                      clear H1
                      exact absurd ((Option.some.inj H).trans hT.out) (by decide)
                  · replace c36 := Bool.eq_false_iff.mpr c36
                    subst c36
                    have H1 : (some false) = some r := by rw [if_neg (show ¬ (false = true) by decide)] at H; exact H
                    clear H
                    have H := H1
                    clear H1
                    exact absurd ((Option.some.inj H).trans hT.out) (by decide)
                · rw [if_neg c32] at H
                  have c32b0 : (t135 == t137) = false := beq_eq_false_iff_ne.mpr c32
                  have c32b1 : (t135 != t137) = true := bne_iff_ne.mpr c32
                  exact absurd ((Option.some.inj H).trans hT.out) (by decide)

/-- THE ONE PURE STATEMENT of laws_FnField: yours. -/
def laws_FnField.Pure : Prop := ∀ (l0 : List Int), l0.length ≤ maxLen → l0.length * 1 ≤ 140737488351232 → (∀ x ∈ l0, (Lit.int .u8 x).wf = true) → ∃ k, laws_FnField.f k l0 = some true
theorem laws_FnField.walk (P : laws_FnField.Pure) (a0 : Option Addr) (len0 cap0 : Nat) (z0 : List Int) (w : World) (w0 : (a0 = none ∧ len0 = 0 ∧ cap0 = 0 ∧ z0 = []) ∨ ∃ x, a0 = some x ∧ len0 ≤ cap0 ∧ cap0 ≤ maxLen ∧ z0.length = cap0 ∧ (∀ i, i < z0.length → w.cell? (x.add i) = some (.int .u8 (z0.getD i 0))) ∧ ∀ n ∈ z0, (Lit.int .u8 n).wf = true) (y0 : len0 * 1 ≤ 140737488351232) :
    Calls Try.prog 10 #[.slice a0 len0 cap0] w fun e w' => e = .returned (.bool true) ∧ Below w.heap.size w w' := by
  obtain ⟨l0, rfl, hr0, hm0, hw0, hc0⟩ := ReadsInt.ofRowC w0
  obtain ⟨k, h⟩ := P l0 hm0 y0 hw0
  refine (laws_FnField.calls k _ _ l0 true w ⟨rfl⟩ (Kd.C_of_reads (d := (0 : Int)) (h1 := fun _ => rfl) hr0) hc0 h).mono ?_
  rintro e w' ⟨rfl, hd⟩
  exact ⟨rfl, hd⟩

end Go.Proofs.Ythpijfnhlehnkaa.PFnField
