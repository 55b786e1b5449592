-- Written by a program of this workplace (wip/mp.py) out of the translation.
import Derived.Test.YthaoloacbbohlaaPFnOutvotedx0
import Derived.Test.YthaoloacbbohlaaPFnOutvotedx3
import Derived.Test.YthaoloacbbohlaaPFnOutvotedx6
namespace Go.Proofs.Ythaoloacbbohlaa.PFnOutvoted
open Go.RowKit Go.Proofs.YthaoloacbbohlaaW.PrintWords Go.Proofs.YthaoloacbbohlaaW.PrintLast Go.Proofs.YthaoloacbbohlaaW.PrintMore Go.Proofs.Ythaoloacbbohlaa.Slim
attribute [local go_sem] max2_int min2_int max_two min_two max_three min_three max_four min_four   -- for this text's walks alone
set_option linter.unusedVariables false
set_option linter.unusedSimpArgs false

/-! ### laws_FnOutvoted: function 11 -/
mutual
def laws_FnOutvoted.l0 : Nat → List Int → Int → Int → Int → List Int → Int → Option (Bool)
 | 0, _, _, _, _, _, _ => none
 | k + 1, x0, x3, x4, x5, x6, x7 => (laws_at.f x0 2).bind fun t236 => (if x7 < (Int.tmod t236 10) then ((laws_at.f x0 (wrap64 (x7 + 3))).bind fun t237 => (if x6.length < 140737488355328 then (laws_FnOutvoted.l0 k x0 x3 x4 x5 (x6 ++ [(t237) % 256]) (wrap64 (x7 + 1))) else (none))) else ((impl_Encode.f k x3 x5 x6).bind fun bt241 => (if bt241.2 = true then (laws_FnOutvoted.l1 k x0 x3 x4 x5 x6 bt241.1 (([] : List Int)) (([] : List Int)) 0) else (some false))))
def laws_FnOutvoted.l1 : Nat → List Int → Int → Int → Int → List Int → List (List Int) → List Int → List Int → Int → Option (Bool)
 | 0, _, _, _, _, _, _, _, _, _ => none
 | k + 1, x0, x3, x4, x5, x6, x8, x10, x11, x12 => if x12 < x5 then (if x10.length < 17592186044416 then ((some (x10 ++ [x12] : List Int)).bind fun y251 => (if (x11.length : Int) < x4 then ((laws_at.f x0 (wrap64 (x12 + 20))).bind fun t254 => (if (Int.tmod t254 2) = 0 then (if x11.length < 17592186044416 then ((some (([] : List Int) : List Int)).bind fun y258 => (if 0 ≤ x12 then (if x12 < (x8.length : Int) then (if y258.length + (rd_L1 x8 x12).length < 140737488355328 then ((some (x8.set (x12 : Int).toNat (y258 ++ (rd_L1 x8 x12)) : List (List Int))).bind fun y265 => (if 0 < ((rd_L1 y265 x12).length : Int) then ((laws_at.f x0 (wrap64 (x12 + 30))).bind fun t269 => (laws_FnOutvoted.l1 k x0 x3 x4 x5 x6 (y265.set (x12 : Int).toNat ((rd_L1 y265 x12).set (0 : Int).toNat (Go.bits .xor .u8 (rd (rd_L1 y265 x12) 0) ((wrap64 (1 + (Int.tmod t269 255))) % 256)))) y251 (x11 ++ [x12]) (wrap64 (x12 + 1)))) else (none))) else (none)) else (none)) else (none))) else (none)) else (laws_FnOutvoted.l1 k x0 x3 x4 x5 x6 x8 y251 x11 (wrap64 (x12 + 1))))) else (laws_FnOutvoted.l1 k x0 x3 x4 x5 x6 x8 y251 x11 (wrap64 (x12 + 1))))) else (none)) else ((impl_Outvote.f k x3 x5 (x6.length : Int) x10 x8 x4).bind fun bt273 => (if bt273.2.2 = true then (if (strOfNums bt273.1).toList = (strOfNums x6).toList then (laws_FnOutvoted.j2 k x11 bt273.2.1 ((bt273.2.1.length : Int) != (x11.length : Int))) else (laws_FnOutvoted.j2 k x11 bt273.2.1 true)) else (laws_FnOutvoted.j2 k x11 bt273.2.1 true)))
def laws_FnOutvoted.j2 : Nat → List Int → List Int → Bool → Option (Bool)
 | 0, _, _, _ => none
 | k + 1, x11, x14, x137 => if x137 = true then (some false) else (laws_FnOutvoted.l2 k x11 x14 0)
def laws_FnOutvoted.l2 : Nat → List Int → List Int → Int → Option (Bool)
 | 0, _, _, _ => none
 | k + 1, x11, x14, x16 => if x16 < (x14.length : Int) then (if 0 ≤ x16 then (if x16 < (x11.length : Int) then (if (rd x14 x16) = (rd x11 x16) then (laws_FnOutvoted.l2 k x11 x14 (wrap64 (x16 + 1))) else (some false)) else (none)) else (none)) else (some true)
end
def laws_FnOutvoted.f (k : Nat) (l0 : List Int) : Option (Bool) := (laws_big.f l0).bind fun t230 => (if t230 = true then (some true) else ((laws_at.f l0 0).bind fun t231 => ((laws_at.f l0 1).bind fun t232 => (laws_FnOutvoted.l0 k l0 (wrap64 (1 + (Int.tmod t231 3))) (Int.tmod t232 3) (wrap64 ((wrap64 (1 + (Int.tmod t231 3))) + (wrap64 (2 * (Int.tmod t232 3))))) (([] : List Int)) 0))))
def laws_FnOutvoted.T23 : Bool × List (List Nat × List Nat) := (true, [([], []), ([], []), ([0, 1], [0, 1]), ([2], [2]), ([], []), ([], []), ([4, 5], [4, 5]), ([6], [6]), ([7], [7]), ([8], [8]), ([], []), ([], []), ([11], [11]), ([10, 12], [10, 12]), ([13], [13]), ([14], [14]), ([15], [15]), ([9, 16], [9, 16]), ([3, 0, 1, 2, 3, 4, 5, 6, 7, 8, 9, 10, 11, 12, 13, 14, 15, 16, 17], [3]), ([18, 17, 13, 0, 1, 2, 3, 4, 5, 6, 7, 8, 9, 10, 11, 12, 13, 14, 15, 16, 17], [17, 18])])
def laws_FnOutvoted.B23 : List Nat := [0, 0, 3, 7, 0, 0, 48, 112, 240, 496, 0, 0, 2048, 7168, 15360, 31744, 64512, 131056, 262143, 524287]
theorem laws_FnOutvoted.tab23 : rtab .any (opsOf Try.f11 23) = laws_FnOutvoted.T23 := by kernel_rfl
theorem laws_FnOutvoted.bits23 : waitsOk laws_FnOutvoted.T23.2 laws_FnOutvoted.B23 = true := by kernel_rfl
def laws_FnOutvoted.T30 : Bool × List (List Nat × List Nat) := (true, [([], []), ([], []), ([0, 1], [0, 1]), ([2], [2]), ([], []), ([], []), ([4, 5], [4, 5]), ([6], [6]), ([3, 7], [3, 7])])
def laws_FnOutvoted.B30 : List Nat := [0, 0, 3, 7, 0, 0, 48, 112, 255]
theorem laws_FnOutvoted.tab30 : rtab .any (opsOf Try.f11 30) = laws_FnOutvoted.T30 := by kernel_rfl
theorem laws_FnOutvoted.bits30 : waitsOk laws_FnOutvoted.T30.2 laws_FnOutvoted.B30 = true := by kernel_rfl
set_option maxHeartbeats 8000000 in
set_option maxRecDepth 100000 in
theorem laws_FnOutvoted.calls (k : Nat) (A0 : Option Addr) (c0 : Nat) (l0 : List Int) (r : Bool) (w : World) (hT : Aside0 (r = true)) (hr0 : Kd.C (Kd.int .u8) w A0 l0.length l0) (hc0 : l0.length ≤ c0) (h : laws_FnOutvoted.f k l0 = some r) :
  Calls Try.prog 11 #[.slice A0 l0.length c0] w fun e w' => e = .returned (.bool r) ∧ Below w.heap.size w w' := by
 have HR0 := Aside0.mk hr0
 have HC0 := Aside0.mk hc0
 clear hr0 hc0
 have HB := Aside0.mk (Below.refl w.heap.size w)
 have H : ((laws_big.f l0).bind fun t230 => (if t230 = true then (some true) else ((laws_at.f l0 0).bind fun t231 => ((laws_at.f l0 1).bind fun t232 => (laws_FnOutvoted.l0 k l0 (wrap64 (1 + (Int.tmod t231 3))) (Int.tmod t232 3) (wrap64 ((wrap64 (1 + (Int.tmod t231 3))) + (wrap64 (2 * (Int.tmod t232 3))))) (([] : List Int)) 0))))) = some r := h
 clear h
 replace H := Option.bind_eq_some_iff.mp H
 obtain ⟨t230, A20, H⟩ := H
 (try dsimp -simprocs only at H)
 have A2 := Aside0.mk A20
 clear A20
 by_cases c3 : t230 = true
 ·subst c3
  rw [if_pos rfl] at H
  obtain rfl := Option.some.inj H
  go_enter Try.func11, Try.ntmps11
  go_wp2_with (first | ((with_reducible refine gate_callee (f := 29) rfl ?_); refine goesL_ (some 18) rfl rfl Try.func29 (by kernel_rfl) rfl #[.slice A0 l0.length c0] rfl av ?_; (with_reducible refine (laws_big.calls _ _ l0 true _ ?side1 ?side2 A2.out).mono ?_); (case side1 => exact cv (HR0.out)); (case side2 => exact HC0.out); rintro e w' ⟨rfl, ⟨nd, rfl⟩⟩; refine ⟨_, rfl, ?_⟩))
  go_ret
  exact ⟨by first | rfl | (simp [errW_none, errW_some] <;> rfl) | (simp [*, errW_none, errW_some] <;> rfl), bt⟩
 ·replace c3 := Bool.eq_false_iff.mpr c3
  subst c3
  rw [if_neg (show ¬ (false = true) by decide)] at H
  replace H := Option.bind_eq_some_iff.mp H
  obtain ⟨t231, A40, H⟩ := H
  (try dsimp -simprocs only at H)
  have A4 := Aside0.mk A40
  clear A40
  replace H := Option.bind_eq_some_iff.mp H
  obtain ⟨t232, A50, H⟩ := H
  (try dsimp -simprocs only at H)
  have A5 := Aside0.mk A50
  clear A50
  obtain ⟨y233, hy233⟩ : ∃ y_ : List Int, y_ = (([] : List Int)) := ⟨_, rfl⟩
  replace H : (laws_FnOutvoted.l0 k l0 (wrap64 (1 + (Int.tmod t231 3))) (Int.tmod t232 3) (wrap64 ((wrap64 (1 + (Int.tmod t231 3))) + (wrap64 (2 * (Int.tmod t232 3))))) y233 0) = some r := by first | (rw [hy233]; exact H) | exact H
  have Ny233 := Aside0.mk hy233
  clear hy233
  have H' := Aside0.mk H
  clear H
  go_enter Try.func11, Try.ntmps11
  go_wp2_with (first | ((with_reducible refine gate_callee (f := 29) rfl ?_); refine goesL_ (some 18) rfl rfl Try.func29 (by kernel_rfl) rfl #[.slice A0 l0.length c0] rfl av ?_; (with_reducible refine (laws_big.calls _ _ l0 false _ ?side1 ?side2 A2.out).mono ?_); (case side1 => exact cv (HR0.out)); (case side2 => exact HC0.out); rintro e w' ⟨rfl, ⟨nd, rfl⟩⟩; refine ⟨_, rfl, ?_⟩) | ((with_reducible refine gate_callee (f := 32) rfl ?_); refine goesL_ (some 20) rfl rfl Try.func32 (by kernel_rfl) rfl #[.slice A0 l0.length c0, .int .i64 0] rfl av ?_; (with_reducible refine (laws_at.calls _ _ l0 0 t231 _ ?side1 ?side2 A4.out).mono ?_); (case side1 => exact cv (HR0.out)); (case side2 => exact HC0.out); rintro e w' ⟨rfl, ⟨nd, rfl⟩⟩; refine ⟨_, rfl, ?_⟩) | ((with_reducible refine gate_callee (f := 32) rfl ?_); refine goesL_ (some 24) rfl rfl Try.func32 (by kernel_rfl) rfl #[.slice A0 l0.length c0, .int .i64 1] rfl av ?_; (with_reducible refine (laws_at.calls _ _ l0 1 t232 _ ?side1 ?side2 A5.out).mono ?_); (case side1 => exact cv (HR0.out)); (case side2 => exact HC0.out); rintro e w' ⟨rfl, ⟨nd, rfl⟩⟩; refine ⟨_, rfl, ?_⟩) | ((with_reducible refine gate_dst (N := 30) rfl ?_); (try (refine gate_guard (by rfl) ?_; dsimp only)); refine Kd.R_lit (Kd.int .u8) _ 5 ?hg (N := 30) ?hd (xs := ([] : List Int)) (inner := []) (ok := fun _ => True) (okp := fun _ => True) ?hr ?hp (fun _ hk => hk) trivial (Below.refl _ _) (Nat.le_refl _) (by simp) ?_; (case hd => rfl); (case hg => rfl); (case hr => first | (go_simp; done) | (go_simp; rfl)); (case hp => exact (Reps.none _ _)); intro v234 w6 ho7 hb hg_ hnew_; clear hg_ hnew_; (first | rw [← Ny233.out] at ho7 | (simp only [Int.reduceToNat] at ho7; rw [← Ny233.out] at ho7)); have HO235 := Aside0.mk (Kd.R_lower ho7 (below_size (bt))); replace HB := Aside0.mk (below_step (bt) hb); clear hb ho7))
  go_loopg [6, 7] k (fun kq v6 v7 w' => ∃ (x6_1 : List Int) (x7_1 : Int), v7 = .int .i64 x7_1 ∧ Aside0 (laws_FnOutvoted.l0 kq l0 (wrap64 (1 + (Int.tmod t231 3))) (Int.tmod t232 3) (wrap64 ((wrap64 (1 + (Int.tmod t231 3))) + (wrap64 (2 * (Int.tmod t232 3))))) x6_1 x7_1 = some r) ∧ Aside0 (kq ≤ k) ∧ Aside0 (Kd.R (Kd.int .u8) 5 w' w.heap.size (fun _ => True) v6 x6_1) ∧ Aside0 (Below w.heap.size w w'))
  case atStart => exact ⟨(y233), (0), (by first | rfl | (simp; done) | (simp [*]; done)), H', ⟨Nat.le_refl _⟩, ⟨mv HO235.out⟩, ⟨bt⟩⟩
  case round =>
   clear H'
   try clear c1
   try clear c2
   try clear p2
   try clear c3
   try clear p6
   obtain ⟨x6_1, x7_1, rfl, HA, HK1, HO_6, HB⟩ := hrel
   cases gk with
   | zero => exact absurd HA.out (by simp [laws_FnOutvoted.l0])
   | succ k1 =>
    have H := HA.out
    clear HA
    simp only [laws_FnOutvoted.l0] at H
    replace H := Option.bind_eq_some_iff.mp H
    obtain ⟨t236, A80, H⟩ := H
    (try dsimp -simprocs only at H)
    have A8 := Aside0.mk A80
    clear A80
    by_cases c9 : x7_1 < (Int.tmod t236 10)
    ·rw [if_pos c9] at H
     have c9b0 : decide (x7_1 < (Int.tmod t236 10)) = true := decide_eq_true c9
     clear c9
     replace H := Option.bind_eq_some_iff.mp H
     obtain ⟨t237, A100, H⟩ := H
     (try dsimp -simprocs only at H)
     have A10 := Aside0.mk A100
     clear A100
     by_cases c11 : x6_1.length < 140737488355328
     ·rw [if_pos c11] at H
      have LMc11 := Aside0.mk c11
      clear c11
      obtain ⟨y238, hy238⟩ : ∃ y_ : List Int, y_ = (x6_1 ++ [(t237) % 256]) := ⟨_, rfl⟩
      replace H : (laws_FnOutvoted.l0 k1 l0 (wrap64 (1 + (Int.tmod t231 3))) (Int.tmod t232 3) (wrap64 ((wrap64 (1 + (Int.tmod t231 3))) + (wrap64 (2 * (Int.tmod t232 3))))) y238 (wrap64 (x7_1 + 1))) = some r := by first | (rw [hy238]; exact H) | exact H
      have Ny238 := Aside0.mk hy238
      clear hy238
      have H' := Aside0.mk H
      clear H
      go_wp2_with (first | ((with_reducible refine gate_callee (f := 32) rfl ?_); refine goesL_ (some 33) rfl rfl Try.func32 (by kernel_rfl) rfl #[.slice A0 l0.length c0, .int .i64 2] rfl av ?_; (with_reducible refine (laws_at.calls _ _ l0 2 t236 _ ?side1 ?side2 A8.out).mono ?_); (case side1 => exact cv ((Kd.C_below HR0.out HB.out))); (case side2 => exact HC0.out); rintro e w' ⟨rfl, ⟨nd, rfl⟩⟩; refine ⟨_, rfl, ?_⟩) | ((with_reducible refine gate_callee (f := 32) rfl ?_); refine goesL_ (some 42) rfl rfl Try.func32 (by kernel_rfl) rfl #[.slice A0 l0.length c0, .int .i64 (wrap64 (x7_1 + 3))] rfl av ?_; (with_reducible refine (laws_at.calls _ _ l0 (wrap64 (x7_1 + 3)) t237 _ ?side1 ?side2 A10.out).mono ?_); (case side1 => exact cv ((Kd.C_below HR0.out (bt)))); (case side2 => exact HC0.out); rintro e w' ⟨rfl, ⟨nd, rfl⟩⟩; refine ⟨_, rfl, ?_⟩) | ((with_reducible refine gate_builtin (b := .append) (xs := #[.tmp 38, .tmp 44]) rfl ?_); (try (refine gate_guard (by rfl) ?_; dsimp only)); at_builtin; refine Kd.R_append (Kd.int .u8) (w0 := w) w.heap.size rfl (.tmp 38) (.tmp 44) 24 5 (.int .u8 0) 1 rfl Try.underlying24 info5 rfl (by decide) (by omega) u6 x6_1 ((t237) % 256) [.int .u8 ((t237) % 256)] (fun _ => True) (fun _ => False) rfl rfl ?aP (fun _ hk => hk.elim) ?aF ?aO ?aB ?aS ?aL ?_; (case aP => exact rfl); (case aB => exact (bt)); (case aF => exact (fun _ _ => trivial)); (case aO => exact (mv HO_6.out)); (case aS => exact (below_size (bt))); (case aL => have := LMc11.out; omega); intro v239 w12 ho hb hg hat; rw [← Ny238.out] at ho; replace HB := Aside0.mk (hb); have HO240 := Aside0.mk (ho); clear HO_6; clear ho hb hg hat))
      go_roundg k1
      case measure => have := HK1.out; omega
      case rel => exact ⟨(y238), (wrap64 (x7_1 + 1)), (by first | rfl | (simp; done) | (simp [*]; done)), H', ⟨by have := HK1.out; omega⟩, ⟨mv HO240.out⟩, ⟨bt⟩⟩
     ·rw [if_neg c11] at H
      exact absurd H (by simp)
    ·rw [if_neg c9] at H
     have c9b0 : decide (x7_1 < (Int.tmod t236 10)) = false := decide_eq_false c9
     clear c9
     replace H := Option.bind_eq_some_iff.mp H
     obtain ⟨⟨t241, t242⟩, A130, H⟩ := H
     (try dsimp -simprocs only at H)
     have A13 := Aside0.mk A130
     clear A130
     by_cases c14 : t242 = true
     ·subst c14
      rw [if_pos rfl] at H
      obtain ⟨y245, hy245⟩ : ∃ y_ : List Int, y_ = (([] : List Int)) := ⟨_, rfl⟩
      replace H : (laws_FnOutvoted.l1 k1 l0 (wrap64 (1 + (Int.tmod t231 3))) (Int.tmod t232 3) (wrap64 ((wrap64 (1 + (Int.tmod t231 3))) + (wrap64 (2 * (Int.tmod t232 3))))) x6_1 t241 y245 (([] : List Int)) 0) = some r := by first | (rw [hy245]; exact H) | exact H
      have Ny245 := Aside0.mk hy245
      clear hy245
      obtain ⟨y248, hy248⟩ : ∃ y_ : List Int, y_ = (([] : List Int)) := ⟨_, rfl⟩
      replace H : (laws_FnOutvoted.l1 k1 l0 (wrap64 (1 + (Int.tmod t231 3))) (Int.tmod t232 3) (wrap64 ((wrap64 (1 + (Int.tmod t231 3))) + (wrap64 (2 * (Int.tmod t232 3))))) x6_1 t241 y245 y248 0) = some r := by first | (rw [hy248]; exact H) | exact H
      have Ny248 := Aside0.mk hy248
      clear hy248
      have H' := Aside0.mk H
      clear H
      go_wp2_with (first | ((with_reducible refine gate_callee (f := 32) rfl ?_); refine goesL_ (some 33) rfl rfl Try.func32 (by kernel_rfl) rfl #[.slice A0 l0.length c0, .int .i64 2] rfl av ?_; (with_reducible refine (laws_at.calls _ _ l0 2 t236 _ ?side1 ?side2 A8.out).mono ?_); (case side1 => exact cv ((Kd.C_below HR0.out HB.out))); (case side2 => exact HC0.out); rintro e w' ⟨rfl, ⟨nd, rfl⟩⟩; refine ⟨_, rfl, ?_⟩; obtain ⟨Ao15, co15, eo15⟩ := Kd.R_slice HO_6.out; subst eo15) | ((with_reducible refine gate_callee (f := 28) rfl ?_); refine goesL_ (some 50) rfl rfl Try.func28 (by kernel_rfl) rfl #[.int .i64 (wrap64 (1 + (Int.tmod t231 3))), .int .i64 (wrap64 ((wrap64 (1 + (Int.tmod t231 3))) + (wrap64 (2 * (Int.tmod t232 3))))), .slice Ao15 x6_1.length co15] rfl av ?_; (with_reducible refine (impl_Encode.calls k1 (wrap64 (1 + (Int.tmod t231 3))) (wrap64 ((wrap64 (1 + (Int.tmod t231 3))) + (wrap64 (2 * (Int.tmod t232 3))))) _ _ x6_1 t241 true _ ?side1 ?side2 A13.out).mono ?_); (case side1 => exact cv ((Kd.R_reads' HO_6.out).2.2)); (case side2 => exact (Kd.R_reads' HO_6.out).2.1); rintro e w16 ⟨v243, rfl, ho0, hb⟩; refine ⟨_, rfl, ?_⟩; have HO244 := Aside0.mk (Kd.S_lower (Kd.S_new' ho0 (Kd.R_lt (mv HO_6.out))) (below_size (bt))); replace HO_6 := Aside0.mk (Kd.R_below (mv HO_6.out) hb); replace HB := Aside0.mk (below_step (bt) hb); (try clear hb); (try clear hb2); (try clear hk); (try clear hi); (try clear ho0)) | ((with_reducible refine gate_dst (N := 55) rfl ?_); (try (refine gate_guard (by rfl) ?_; dsimp only)); refine Kd.R_lit (Kd.int .i64) _ 3 ?hg (N := 55) ?hd (xs := ([] : List Int)) (inner := []) (ok := fun _ => True) (okp := fun _ => True) ?hr ?hp (fun _ hk => hk) trivial (Below.refl _ _) (Nat.le_refl _) (by simp) ?_; (case hd => rfl); (case hg => rfl); (case hr => first | (go_simp; done) | (go_simp; rfl)); (case hp => exact (Reps.none _ _)); intro v246 w17 ho18 hb hg_ hnew_; clear hg_ hnew_; (first | rw [← Ny245.out] at ho18 | (simp only [Int.reduceToNat] at ho18; rw [← Ny245.out] at ho18)); replace HO_6 := Aside0.mk (Kd.R_below (mv HO_6.out) hb); replace HO244 := Aside0.mk (Kd.S_below (mv HO244.out) hb); have HO247 := Aside0.mk (Kd.R_lower ho18 (below_size (bt))); replace HB := Aside0.mk (below_step (bt) hb); clear hb ho18) | ((with_reducible refine gate_dst (N := 56) rfl ?_); (try (refine gate_guard (by rfl) ?_; dsimp only)); refine Kd.R_lit (Kd.int .i64) _ 3 ?hg (N := 56) ?hd (xs := ([] : List Int)) (inner := []) (ok := fun _ => True) (okp := fun _ => True) ?hr ?hp (fun _ hk => hk) trivial (Below.refl _ _) (Nat.le_refl _) (by simp) ?_; (case hd => rfl); (case hg => rfl); (case hr => first | (go_simp; done) | (go_simp; rfl)); (case hp => exact (Reps.none _ _)); intro v249 w19 ho20 hb hg_ hnew_; clear hg_ hnew_; (first | rw [← Ny248.out] at ho20 | (simp only [Int.reduceToNat] at ho20; rw [← Ny248.out] at ho20)); replace HO_6 := Aside0.mk (Kd.R_below (mv HO_6.out) hb); replace HO244 := Aside0.mk (Kd.S_below (mv HO244.out) hb); have HO250 := Aside0.mk (Kd.R_lower (Kd.R_new' ho20 (Kd.R_lt (mv HO247.out))) (below_size (bt))); replace HO247 := Aside0.mk (Kd.R_elder' (mv HO247.out) (Kd.R_base ho20) hb); replace HB := Aside0.mk (below_step (bt) hb); clear hb ho20))
      go_loopg [10, 11, 12] k1 (fun kq v10 v11 v12 w' => ∃ (x6_2 : List Int) (x8_2 : List (List Int)) (x10_2 : List Int) (x11_2 : List Int) (x12_2 : Int), v12 = .int .i64 x12_2 ∧ Aside0 (laws_FnOutvoted.l1 kq l0 (wrap64 (1 + (Int.tmod t231 3))) (Int.tmod t232 3) (wrap64 ((wrap64 (1 + (Int.tmod t231 3))) + (wrap64 (2 * (Int.tmod t232 3))))) x6_2 x8_2 x10_2 x11_2 x12_2 = some r) ∧ Aside0 (kq ≤ k1) ∧ Aside0 (Kd.R (Kd.int .u8) 5 w' w.heap.size (fun _ => True) (.slice Ao15 x6_1.length co15) x6_2) ∧ Aside0 (Kd.S (Kd.slice 5 (Kd.int .u8)) 24 w' w.heap.size (fun k_ => some k_ ≠ ((.slice Ao15 x6_1.length co15) : Value).ownBlock) v243 x8_2) ∧ Aside0 (Kd.R (Kd.int .i64) 3 w' w.heap.size (fun k_ => some k_ ≠ (v11 : Value).ownBlock) v10 x10_2) ∧ Aside0 (Kd.R (Kd.int .i64) 3 w' w.heap.size (fun k_ => some k_ ≠ (v10 : Value).ownBlock) v11 x11_2) ∧ Aside0 (Below w.heap.size w w'))
      case atStart => exact ⟨(x6_1), (t241), (y245), (y248), (0), (by first | rfl | (simp; done) | (simp [*]; done)), H', ⟨Nat.le_refl _⟩, ⟨mv HO_6.out⟩, ⟨by (with_reducible repeat (first | apply Kd.S_alloc | apply Kd.S_drewN | apply Kd.S_drew)); exact Kd.S_mono HO244.out (fun _ hk => hk.2)⟩, ⟨by (with_reducible repeat (first | apply Kd.R_alloc | apply Kd.R_drewN | apply Kd.R_drew)); exact Kd.R_mono HO247.out (fun _ hk => hk.2)⟩, ⟨by (with_reducible repeat (first | apply Kd.R_alloc | apply Kd.R_drewN | apply Kd.R_drew)); exact Kd.R_mono HO250.out (fun _ hk => hk.2)⟩, ⟨bt⟩⟩
      case round =>
       clear H'
       try clear c1
       try clear c2
       try clear p2
       try clear c3
       try clear p6
       try clear c9
       try clear c9b0
       try clear c11
       try clear c14
       try clear p2
       try clear p6
       obtain ⟨x6_2, x8_2, x10_2, x11_2, x12_2, rfl, HA, HK2, HO_6, HO_8, HO_10, HO_11, HB⟩ := hrel
       have hl6_2 := (Kd.R_reads' HO_6.out).1
       rw [hl6_2] at HO_6
       (try simp only [hl6_2])
       (try simp only [hl6_2] at HO_8)
       (try simp only [hl6_2] at HO_10)
       (try simp only [hl6_2] at HO_11)
       cases gk with
       | zero => exact absurd HA.out (by simp [laws_FnOutvoted.l1])
       | succ k2 =>
        have H := HA.out
        clear HA
        simp only [laws_FnOutvoted.l1] at H
        by_cases c21 : x12_2 < (wrap64 ((wrap64 (1 + (Int.tmod t231 3))) + (wrap64 (2 * (Int.tmod t232 3)))))
        ·rw [if_pos c21] at H
         have c21b0 : decide (x12_2 < (wrap64 ((wrap64 (1 + (Int.tmod t231 3))) + (wrap64 (2 * (Int.tmod t232 3)))))) = true := decide_eq_true c21
         clear c21
         by_cases c22 : x10_2.length < 17592186044416
         ·rw [if_pos c22] at H
          have LMc22 := Aside0.mk c22
          clear c22
          obtain ⟨y251, hy251⟩ : ∃ y_ : List Int, y_ = (x10_2 ++ [x12_2]) := ⟨_, rfl⟩
          replace H : (if (x11_2.length : Int) < (Int.tmod t232 3) then ((laws_at.f l0 (wrap64 (x12_2 + 20))).bind fun t254 => (if (Int.tmod t254 2) = 0 then (if x11_2.length < 17592186044416 then ((some (([] : List Int) : List Int)).bind fun y258 => (if 0 ≤ x12_2 then (if x12_2 < (x8_2.length : Int) then (if y258.length + (rd_L1 x8_2 x12_2).length < 140737488355328 then ((some (x8_2.set (x12_2 : Int).toNat (y258 ++ (rd_L1 x8_2 x12_2)) : List (List Int))).bind fun y265 => (if 0 < ((rd_L1 y265 x12_2).length : Int) then ((laws_at.f l0 (wrap64 (x12_2 + 30))).bind fun t269 => (laws_FnOutvoted.l1 k2 l0 (wrap64 (1 + (Int.tmod t231 3))) (Int.tmod t232 3) (wrap64 ((wrap64 (1 + (Int.tmod t231 3))) + (wrap64 (2 * (Int.tmod t232 3))))) x6_2 (y265.set (x12_2 : Int).toNat ((rd_L1 y265 x12_2).set (0 : Int).toNat (Go.bits .xor .u8 (rd (rd_L1 y265 x12_2) 0) ((wrap64 (1 + (Int.tmod t269 255))) % 256)))) y251 (x11_2 ++ [x12_2]) (wrap64 (x12_2 + 1)))) else (none))) else (none)) else (none)) else (none))) else (none)) else (laws_FnOutvoted.l1 k2 l0 (wrap64 (1 + (Int.tmod t231 3))) (Int.tmod t232 3) (wrap64 ((wrap64 (1 + (Int.tmod t231 3))) + (wrap64 (2 * (Int.tmod t232 3))))) x6_2 x8_2 y251 x11_2 (wrap64 (x12_2 + 1))))) else (laws_FnOutvoted.l1 k2 l0 (wrap64 (1 + (Int.tmod t231 3))) (Int.tmod t232 3) (wrap64 ((wrap64 (1 + (Int.tmod t231 3))) + (wrap64 (2 * (Int.tmod t232 3))))) x6_2 x8_2 y251 x11_2 (wrap64 (x12_2 + 1)))) = some r := by first | (rw [hy251]; exact H) | exact H
          have Ny251 := Aside0.mk hy251
          clear hy251
          by_cases c23 : (x11_2.length : Int) < (Int.tmod t232 3)
          ·rw [if_pos c23] at H
           have c23b0 : decide ((x11_2.length : Int) < (Int.tmod t232 3)) = true := decide_eq_true c23
           clear c23
           replace H := Option.bind_eq_some_iff.mp H
           obtain ⟨t254, A240, H⟩ := H
           (try dsimp -simprocs only at H)
           have A24 := Aside0.mk A240
           clear A240
           by_cases c25 : (Int.tmod t254 2) = 0
           ·rw [if_pos c25] at H
            have c25b0 : ((Int.tmod t254 2) == 0) = true := beq_iff_eq.mpr c25
            have c25b1 : ((Int.tmod t254 2) != 0) = false := bne_eq_false_iff_eq.mpr c25
            clear c25
            by_cases c26 : x11_2.length < 17592186044416
            ·rw [if_pos c26] at H
             have LMc26 := Aside0.mk c26
             clear c26
             obtain ⟨y255, hy255⟩ : ∃ y_ : List Int, y_ = (x11_2 ++ [x12_2]) := ⟨_, rfl⟩
             replace H : ((some (([] : List Int) : List Int)).bind fun y258 => (if 0 ≤ x12_2 then (if x12_2 < (x8_2.length : Int) then (if y258.length + (rd_L1 x8_2 x12_2).length < 140737488355328 then ((some (x8_2.set (x12_2 : Int).toNat (y258 ++ (rd_L1 x8_2 x12_2)) : List (List Int))).bind fun y265 => (if 0 < ((rd_L1 y265 x12_2).length : Int) then ((laws_at.f l0 (wrap64 (x12_2 + 30))).bind fun t269 => (laws_FnOutvoted.l1 k2 l0 (wrap64 (1 + (Int.tmod t231 3))) (Int.tmod t232 3) (wrap64 ((wrap64 (1 + (Int.tmod t231 3))) + (wrap64 (2 * (Int.tmod t232 3))))) x6_2 (y265.set (x12_2 : Int).toNat ((rd_L1 y265 x12_2).set (0 : Int).toNat (Go.bits .xor .u8 (rd (rd_L1 y265 x12_2) 0) ((wrap64 (1 + (Int.tmod t269 255))) % 256)))) y251 y255 (wrap64 (x12_2 + 1)))) else (none))) else (none)) else (none)) else (none))) = some r := by first | (rw [hy255]; exact H) | exact H
             have Ny255 := Aside0.mk hy255
             clear hy255
             obtain ⟨y258, hy258⟩ : ∃ y_ : List Int, y_ = (([] : List Int)) := ⟨_, rfl⟩
             replace H : (if 0 ≤ x12_2 then (if x12_2 < (x8_2.length : Int) then (if y258.length + (rd_L1 x8_2 x12_2).length < 140737488355328 then ((some (x8_2.set (x12_2 : Int).toNat (y258 ++ (rd_L1 x8_2 x12_2)) : List (List Int))).bind fun y265 => (if 0 < ((rd_L1 y265 x12_2).length : Int) then ((laws_at.f l0 (wrap64 (x12_2 + 30))).bind fun t269 => (laws_FnOutvoted.l1 k2 l0 (wrap64 (1 + (Int.tmod t231 3))) (Int.tmod t232 3) (wrap64 ((wrap64 (1 + (Int.tmod t231 3))) + (wrap64 (2 * (Int.tmod t232 3))))) x6_2 (y265.set (x12_2 : Int).toNat ((rd_L1 y265 x12_2).set (0 : Int).toNat (Go.bits .xor .u8 (rd (rd_L1 y265 x12_2) 0) ((wrap64 (1 + (Int.tmod t269 255))) % 256)))) y251 y255 (wrap64 (x12_2 + 1)))) else (none))) else (none)) else (none)) else (none)) = some r := by first | (rw [hy258]; exact H) | exact H
             have Ny258 := Aside0.mk hy258
             clear hy258
             by_cases c27 : 0 ≤ x12_2
             ·rw [if_pos c27] at H
              have c27b0 : decide (0 ≤ x12_2) = true := decide_eq_true c27
              clear c27
              by_cases c28 : x12_2 < (x8_2.length : Int)
              ·rw [if_pos c28] at H
               have c28b0 : decide (x12_2 < (x8_2.length : Int)) = true := decide_eq_true c28
               clear c28
               by_cases c29 : y258.length + (rd_L1 x8_2 x12_2).length < 140737488355328
               ·rw [if_pos c29] at H
                have LMc29 := Aside0.mk c29
                clear c29
                obtain ⟨y262, hy262⟩ : ∃ y_ : List Int, y_ = (y258 ++ (rd_L1 x8_2 x12_2)) := ⟨_, rfl⟩
                replace H : ((some (x8_2.set (x12_2 : Int).toNat y262 : List (List Int))).bind fun y265 => (if 0 < ((rd_L1 y265 x12_2).length : Int) then ((laws_at.f l0 (wrap64 (x12_2 + 30))).bind fun t269 => (laws_FnOutvoted.l1 k2 l0 (wrap64 (1 + (Int.tmod t231 3))) (Int.tmod t232 3) (wrap64 ((wrap64 (1 + (Int.tmod t231 3))) + (wrap64 (2 * (Int.tmod t232 3))))) x6_2 (y265.set (x12_2 : Int).toNat ((rd_L1 y265 x12_2).set (0 : Int).toNat (Go.bits .xor .u8 (rd (rd_L1 y265 x12_2) 0) ((wrap64 (1 + (Int.tmod t269 255))) % 256)))) y251 y255 (wrap64 (x12_2 + 1)))) else (none))) = some r := by first | (rw [hy262]; exact H) | exact H
                have Ny262 := Aside0.mk hy262
                clear hy262
                obtain ⟨y265, hy265⟩ : ∃ y_ : List (List Int), y_ = (x8_2.set (x12_2 : Int).toNat y262) := ⟨_, rfl⟩
                replace H : (if 0 < ((rd_L1 y265 x12_2).length : Int) then ((laws_at.f l0 (wrap64 (x12_2 + 30))).bind fun t269 => (laws_FnOutvoted.l1 k2 l0 (wrap64 (1 + (Int.tmod t231 3))) (Int.tmod t232 3) (wrap64 ((wrap64 (1 + (Int.tmod t231 3))) + (wrap64 (2 * (Int.tmod t232 3))))) x6_2 (y265.set (x12_2 : Int).toNat ((rd_L1 y265 x12_2).set (0 : Int).toNat (Go.bits .xor .u8 (rd (rd_L1 y265 x12_2) 0) ((wrap64 (1 + (Int.tmod t269 255))) % 256)))) y251 y255 (wrap64 (x12_2 + 1)))) else (none)) = some r := by first | (rw [hy265]; exact H) | exact H
                have Ny265 := Aside0.mk hy265
                clear hy265
                by_cases c31 : 0 < ((rd_L1 y265 x12_2).length : Int)
                ·rw [if_pos c31] at H
                 have c31b0 : decide (0 < ((rd_L1 y265 x12_2).length : Int)) = true := decide_eq_true c31
                 have c31b1 : decide (0 < (rd_L1 y265 x12_2).length) = true := decide_eq_true (by omega)
                 clear c31
                 replace H := Option.bind_eq_some_iff.mp H
                 obtain ⟨t269, A320, H⟩ := H
                 (try dsimp -simprocs only at H)
                 have A32 := Aside0.mk A320
                 clear A320
                 obtain ⟨y270, hy270⟩ : ∃ y_ : List Int, y_ = ((rd_L1 y265 x12_2).set (0 : Int).toNat (Go.bits .xor .u8 (rd (rd_L1 y265 x12_2) 0) ((wrap64 (1 + (Int.tmod t269 255))) % 256))) := ⟨_, rfl⟩
                 replace H : (laws_FnOutvoted.l1 k2 l0 (wrap64 (1 + (Int.tmod t231 3))) (Int.tmod t232 3) (wrap64 ((wrap64 (1 + (Int.tmod t231 3))) + (wrap64 (2 * (Int.tmod t232 3))))) x6_2 (y265.set (x12_2 : Int).toNat y270) y251 y255 (wrap64 (x12_2 + 1))) = some r := by first | (rw [hy270]; exact H) | exact H
                 have Ny270 := Aside0.mk hy270
                 clear hy270
                 obtain ⟨y272, hy272⟩ : ∃ y_ : List (List Int), y_ = (y265.set (x12_2 : Int).toNat y270) := ⟨_, rfl⟩
                 replace H : (laws_FnOutvoted.l1 k2 l0 (wrap64 (1 + (Int.tmod t231 3))) (Int.tmod t232 3) (wrap64 ((wrap64 (1 + (Int.tmod t231 3))) + (wrap64 (2 * (Int.tmod t232 3))))) x6_2 y272 y251 y255 (wrap64 (x12_2 + 1))) = some r := by first | (rw [hy272]; exact H) | exact H
                 have Ny272 := Aside0.mk hy272
                 clear hy272
                 have H' := Aside0.mk H
                 clear H
                 try go_wp2_with (first | ((with_reducible refine gate_builtin (b := .append) (xs := #[.tmp 62, .tmp 64]) rfl ?_); (try (refine gate_guard (by rfl) ?_; dsimp only)); at_builtin; refine Kd.R_append (Kd.int .i64) (w0 := w) w.heap.size rfl (.tmp 62) (.tmp 64) 47 3 (.int .i64 0) 8 rfl Try.underlying47 info3 rfl (by decide) (by omega) u10 x10_2 x12_2 [.int .i64 x12_2] (fun k_ => some k_ ≠ (u11 : Value).ownBlock) (fun _ => False) rfl rfl ?aP (fun _ hk => hk.elim) ?aF ?aO ?aB ?aS ?aL ?_; (case aP => exact rfl); (case aB => exact (bt)); (case aF => exact (fun k_ hk => Kd.fresh' (Kd.R_lt (mv HO_11.out)) k_ hk)); (case aO => exact (mv HO_10.out)); (case aS => exact (below_size (bt))); (case aL => have := LMc22.out; omega); intro v252 w34 ho hb hg hat; rw [← Ny251.out] at ho; replace HO_6 := Aside0.mk (Kd.R_over' (mv HO_6.out) (Kd.R_typed (mv HO_10.out)) (by decide) hg); replace HO_8 := Aside0.mk (Kd.S_over' (mv HO_8.out) (Kd.R_typed (mv HO_10.out)) (by decide) hg); replace HO_11 := Aside0.mk (Kd.R_after (ok := (fun _ => True)) (by (with_reducible repeat (first | apply Kd.R_alloc | apply Kd.R_drewN | apply Kd.R_drew)); exact Kd.R_mono HO_11.out (fun _ hk => ⟨trivial, hk⟩)) hg hat); replace HB := Aside0.mk (hb); have HO253 := Aside0.mk (ho); clear HO_10; clear ho hb hg hat; obtain ⟨Ao35, co35, eo35⟩ := Kd.R_slice HO_11.out; subst eo35) | (go_at_call 32; (with_reducible refine (laws_at.calls _ _ l0 (wrap64 (x12_2 + 20)) t254 _ ?side1 ?side2 A24.out).mono ?_); (case side1 => exact cv ((Kd.C_below HR0.out HB.out))); (case side2 => exact HC0.out); rintro e w' ⟨rfl, ⟨nd, rfl⟩⟩) | ((with_reducible refine gate_builtin (b := .append) (xs := #[.tmp 78, .tmp 80]) rfl ?_); (try (refine gate_guard (by rfl) ?_; dsimp only)); at_builtin; refine Kd.R_append (Kd.int .i64) (w0 := w) w.heap.size rfl (.tmp 78) (.tmp 80) 47 3 (.int .i64 0) 8 rfl Try.underlying47 info3 rfl (by decide) (by omega) (.slice Ao35 x11_2.length co35) x11_2 x12_2 [.int .i64 x12_2] (fun k_ => some k_ ≠ (v252 : Value).ownBlock) (fun _ => False) rfl rfl ?aP (fun _ hk => hk.elim) ?aF ?aO ?aB ?aS ?aL ?_; (case aP => exact rfl); (case aB => exact (bt)); (case aF => exact (fun k_ hk => Kd.fresh' (Kd.R_lt (mv HO253.out)) k_ hk)); (case aO => exact (by (with_reducible repeat (first | apply Kd.R_alloc | apply Kd.R_drewN | apply Kd.R_drew)); exact Kd.R_mono HO_11.out (fun _ hk => hk.2))); (case aS => exact (below_size (bt))); (case aL => have := LMc26.out; omega); intro v256 w36 ho hb hg hat; rw [← Ny255.out] at ho; replace HO_6 := Aside0.mk (Kd.R_over' (mv HO_6.out) (Kd.R_typed (mv HO_11.out)) (by decide) hg); replace HO_8 := Aside0.mk (Kd.S_over' (mv HO_8.out) (Kd.R_typed (mv HO_11.out)) (by decide) hg); replace HO253 := Aside0.mk (Kd.R_after (ok := (fun _ => True)) (by (with_reducible repeat (first | apply Kd.R_alloc | apply Kd.R_drewN | apply Kd.R_drew)); exact Kd.R_mono HO253.out (fun _ hk => ⟨trivial, hk⟩)) hg hat); replace HB := Aside0.mk (hb); have HO257 := Aside0.mk (ho); clear HO_11; clear ho hb hg hat) | ((with_reducible refine gate_dst (N := 84) rfl ?_); (try (refine gate_guard (by rfl) ?_; dsimp only)); refine Kd.R_lit (Kd.int .u8) _ 5 ?hg (N := 84) ?hd (xs := ([] : List Int)) (inner := []) (ok := fun _ => True) (okp := fun _ => True) ?hr ?hp (fun _ hk => hk) trivial (Below.refl _ _) (Nat.le_refl _) (by simp) ?_; (case hd => rfl); (case hg => rfl); (case hr => first | (go_simp; done) | (go_simp; rfl)); (case hp => exact (Reps.none _ _)); intro v259 w37 ho38 hb hg_ hnew_; clear hg_ hnew_; (first | rw [← Ny258.out] at ho38 | (simp only [Int.reduceToNat] at ho38; rw [← Ny258.out] at ho38)); replace HO_8 := Aside0.mk (Kd.S_elder' (mv HO_8.out) (Kd.R_base ho38) hb); replace HO253 := Aside0.mk (Kd.R_below (mv HO253.out) hb); replace HO257 := Aside0.mk (Kd.R_below (mv HO257.out) hb); have HO260 := Aside0.mk (Kd.R_lower (Kd.R_new' ho38 (Kd.R_lt (mv HO_6.out))) (below_size (bt))); replace HO_6 := Aside0.mk (Kd.R_elder' (mv HO_6.out) (Kd.R_base ho38) hb); replace HB := Aside0.mk (below_step (bt) hb); clear hb ho38; obtain ⟨Ao39, co39, eo39⟩ := Kd.S_slice HO_8.out; subst eo39; have p261 : 0 ≤ (x12_2 : Int) := of_decide_eq_true asm; have q261 : x12_2 < (x8_2.length : Int) := of_decide_eq_true asm; obtain ⟨ad261, A261_0, c261_0, e261, hx261_0, hl261_0, hi261_0⟩ := at_L1 (Kd.S_reads' HO_8.out).2.2 x12_2 p261 q261; cases e261; obtain ⟨ce261, hce261, hMe261, hcc261⟩ := Kd.S_get HO_8.out [] x12_2 p261 (by first | exact q261 | exact of_decide_eq_true asm | (have e_ := (Kd.S_reads' HO_8.out).1; omega)); obtain ⟨ve261_0, rfl, ge261_0⟩ := hMe261; have hv261_0 := hcc261 0 _ rfl; rw [Nat.add_zero, show ((Kd.slice 5 (Kd.int .u8))).sz = 1 from rfl, Nat.mul_one] at hv261_0; replace hv261_0 := Option.some.inj (hv261_0.symm.trans hx261_0); rw [hv261_0] at ge261_0; have HL261_0 := Aside0.mk (show Kd.R (Kd.int .u8) 5 _ _ _ _ (rd_L1 x8_2 x12_2) from ge261_0); clear hv261_0 ge261_0; have HX261_0 := Aside0.mk hx261_0; clear hcc261 hce261; have HR261_0 := Aside0.mk hi261_0; have HC261_0 := Aside0.mk hl261_0; clear hi261_0 hl261_0; replace p261 := eq_true p261; replace q261 := eq_true q261) | ((with_reducible refine gate_builtin (b := .append) (xs := #[.tmp 84, .tmp 88]) rfl ?_); (try (refine gate_guard (by rfl) ?_; dsimp only)); at_builtin; refine Kd.R_append_rows (Kd.int .u8) (w0 := w) w.heap.size rfl (.tmp 84) (.tmp 88) 24 5 (.int .u8 0) 1 rfl Try.underlying24 info5 rfl (by decide) (by omega) v259 y258 (rd_L1 x8_2 x12_2) _ _ _ (fun k_ => some k_ ≠ (.slice Ao15 x6_2.length co15 : Value).ownBlock) (fun _ => False) rfl rfl ?aO ?aR (fun _ _ h => h) (fun _ h => h.elim) ?aF ?aB ?aS ?aL ?_; (case aR => repeat (first | exact (by repeat (first | (with_reducible exact HR261_0.out) | (with_reducible refine Kd.C_alloc ?_ _) | (with_reducible refine Kd.C_drewN ?_ _) | (with_reducible refine Kd.C_drew ?_) | exact HR261_0.out)) | (with_reducible refine Kd.C_alloc ?_ _) | (with_reducible refine Kd.C_drewN ?_ _) | (with_reducible refine Kd.C_drew ?_))); (case aB => exact (bt)); (case aF => exact (fun k_ hk => Kd.fresh' (Kd.R_lt (mv HO_6.out)) k_ hk)); (case aO => exact (by (with_reducible repeat (first | apply Kd.R_alloc | apply Kd.R_drewN | apply Kd.R_drew)); exact Kd.R_mono HO260.out (fun _ hk => hk.2))); (case aS => exact (below_size (bt))); (case aL => have := LMc29.out; omega); intro v263 w40 ho hb hg hat; rw [← Ny262.out] at ho; replace HO_6 := Aside0.mk (Kd.R_after (ok := (fun _ => True)) (mv HO_6.out) hg hat); replace HO_8 := Aside0.mk (Kd.S_after (ok := (fun k_ => some k_ ≠ (.slice Ao15 x6_2.length co15 : Value).ownBlock)) (mv HO_8.out) hg hat); replace HO253 := Aside0.mk (Kd.R_over' (mv HO253.out) (Kd.R_typed (mv HO260.out)) (by decide) hg); replace HO257 := Aside0.mk (Kd.R_over' (mv HO257.out) (Kd.R_typed (mv HO260.out)) (by decide) hg); replace HL261_0 := Aside0.mk (Kd.R_after (ok := (fun k_ => some k_ ≠ (.slice Ao15 x6_2.length co15 : Value).ownBlock ∧ some k_ ≠ (.slice (some ad261) x8_2.length co39 : Value).ownBlock)) (by (with_reducible repeat (first | apply Kd.R_alloc | apply Kd.R_drewN | apply Kd.R_drew)); exact Kd.R_mono HL261_0.out (fun _ hk => ⟨⟨hk.1.1, hk.2⟩, hk.1.2⟩)) hg hat); replace HB := Aside0.mk (hb); have HO264 := Aside0.mk (ho); clear HO260; clear ho hb hg hat; obtain ⟨Ao99, co99, eo99⟩ := Kd.R_slice HO264.out; subst eo99; have p30 : 0 ≤ (x12_2 : Int) := of_decide_eq_true asm; have q30 : (x12_2 : Int) < ((x8_2.length : Int) : Int) := of_decide_eq_true asm; obtain ⟨go30, co30, eo30, gb30, gl30, cl30, HG30⟩ := Kd.S_form HO_8.out (by omega); (first | cases eo30 | (injection eo30 with ea_ en_ ec_; (first | subst ea_ | (injection ea_ with ea_; subst ea_)); subst ec_; clear en_)); have GB30 := Aside0.mk gb30; have GG30 := Aside0.mk HG30; clear gb30 gl30 HG30; (first | simp only [add_plain] at hx261_0 | skip); obtain ⟨_, ce30, hcl30, hM30, hcc30, hfr30, _, _⟩ := Kd.S_elem HO_8.out [] (x12_2 : Int) p30 q30; obtain ⟨ve30_0, rfl, ge30_0⟩ := hM30; have hx30_0 := hcc30 0 _ rfl; have hf30_0 := hfr30 0; (try simp only [show ((Kd.slice 5 (Kd.int .u8))).sz = 1 from rfl, Nat.mul_one, Nat.add_zero] at hx30_0); (try simp only [show ((Kd.slice 5 (Kd.int .u8))).sz = 1 from rfl, Nat.mul_one, Nat.add_zero] at hf30_0); clear hcl30 hcc30 hfr30; (try clear hM30); replace p30 := eq_true p30; replace q30 := eq_true q30; have HX41 := Aside0.mk (show Kd.S (Kd.slice 5 (Kd.int .u8)) 24 w40 w.heap.size (fun k_ => ((fun k_ => some k_ ≠ (.slice Ao15 x6_2.length co15 : Value).ownBlock)) k_ ∧ ¬ ((fun k_ => some k_ = ((.slice Ao99 y262.length co99) : Value).ownBlock)) k_) (.slice (some ⟨go30, 0, none⟩) x8_2.length co39) x8_2 from (by (with_reducible repeat (first | apply Kd.S_alloc | apply Kd.S_drewN | apply Kd.S_drew)); exact Kd.S_mono HO_8.out (fun k_ hk => ⟨hk.1, fun e_ => hk.2 e_⟩))); obtain ⟨oki41, ce41, hcl41, hM41, hcc41, hfr41, hoki41, hH41⟩ := Kd.S_elem HX41.out [] (x12_2 : Int) (of_decide_eq_true asm) (by have h_ : (x12_2 : Int) < ((x8_2.length : Int) : Int) := of_decide_eq_true asm; first | exact h_ | (have e_ := (Kd.S_reads' HO_8.out).1; omega) | simpa using h_); obtain ⟨ve41_0, rfl, ge41_0⟩ := hM41; have HP41 := Kd.S_seg hH41 (of_decide_eq_true asm) (by have h_ : (x12_2 : Int) < ((x8_2.length : Int) : Int) := of_decide_eq_true asm; first | exact h_ | (have e_ := (Kd.S_reads' HO_8.out).1; omega) | simpa using h_) (seg := [(.slice Ao99 y262.length co99)]) (j := 0) (show 1 ≤ 1 from by decide) (x' := y262) (Kd.M_row (Kd.R_mono (Kd.R_tight rfl (Kd.R_mono (ok' := fun k_ => ((fun k_ => some k_ ≠ (.slice Ao15 x6_2.length co15 : Value).ownBlock)) k_ ∧ k_ ≠ go30) (Kd.R_apart' (HO264.out) (Kd.S_typed HO_8.out) (by decide)) (fun k_ hk => ⟨hk.1, fun e_ => (hk.2) (by rw [e_]; rfl)⟩))) (fun _ h_ => Or.inr (h_)))) (fun _ hk => hk) (fun k_ hk_ => ((Kd.R_mono (ok' := fun k_ => ((fun k_ => some k_ ≠ (.slice Ao15 x6_2.length co15 : Value).ownBlock)) k_ ∧ k_ ≠ go30) (Kd.R_apart' (HO264.out) (Kd.S_typed HO_8.out) (by decide)) (fun k_ hk => ⟨hk.1, fun e_ => (hk.2) (by rw [e_]; rfl)⟩))).1 k_ hk_.symm); have hx41_0 := hcc41 0 _ rfl; (try simp only [show ((Kd.slice 5 (Kd.int .u8))).sz = 1 from rfl, Nat.mul_one, Nat.add_zero] at hx41_0); have hf41_0 := hfr41 0; (try simp only [show ((Kd.slice 5 (Kd.int .u8))).sz = 1 from rfl, Nat.mul_one, Nat.add_zero] at hf41_0); clear hcl41 hcc41 hfr41 hoki41 hH41; (try clear hM41); (try simp only [show ((Kd.slice 5 (Kd.int .u8))).sz = 1 from rfl, Nat.mul_one, Nat.add_zero] at HP41)) | ((with_reducible refine gate_store (t := 24) (p := 90) rfl ?_); refine store_event (t := 24) (p := 90) (v := ?vo_w42) (w1 := (w40.setCell ⟨go30, (x12_2 : Int).toNat, none⟩ ((.slice Ao99 y262.length co99)))) ?hg ?ho ?hn ?hr ?_; (case ho => rfl); (case hg => rfl); (case hn => rfl); (case hr => first | (go_simp; done) | (go_simp; rfl)); intro w42 hw; have hg : w40.grownBy w42 (some go30) := (by rw [hw]; exact HP41.2); have hp_ : Kd.S (Kd.slice 5 (Kd.int .u8)) 24 w42 w.heap.size (fun k_ => some k_ ≠ (.slice Ao15 x6_2.length co15 : Value).ownBlock) (.slice (some ⟨go30, 0, none⟩) x8_2.length co39) y265 := (by rw [hw, Ny265.out]; exact HP41.1); clear HP41; replace HO_6 := Aside0.mk (Kd.R_over' (v := (.slice (some ⟨go30, 0, none⟩) x8_2.length co39)) (mv HO_6.out) (Kd.S_typed HO_8.out) (by decide) hg); replace HO253 := Aside0.mk (Kd.R_over' (v := (.slice (some ⟨go30, 0, none⟩) x8_2.length co39)) (mv HO253.out) (Kd.S_typed HO_8.out) (by decide) hg); replace HO257 := Aside0.mk (Kd.R_over' (v := (.slice (some ⟨go30, 0, none⟩) x8_2.length co39)) (mv HO257.out) (Kd.S_typed HO_8.out) (by decide) hg); replace HO_8 := Aside0.mk (hp_); replace HL261_0 := Aside0.mk (Kd.R_after (v := (.slice (some ⟨go30, 0, none⟩) x8_2.length co39)) (v1 := (.slice (some ⟨go30, 0, none⟩) x8_2.length co39)) (ok := (fun k_ => some k_ ≠ (.slice Ao15 x6_2.length co15 : Value).ownBlock ∧ some k_ ≠ ((.slice Ao99 y262.length co99) : Value).ownBlock)) (by (with_reducible repeat (first | apply Kd.R_alloc | apply Kd.R_drewN | apply Kd.R_drew)); exact Kd.R_mono HL261_0.out (fun _ hk => ⟨⟨hk.1.1, hk.2⟩, hk.1.2⟩)) hg (.inl rfl)); replace HB := Aside0.mk ((by rw [hw]; exact below_set (HB.out) GB30.out : Below w.heap.size w w42)); clear HO264; clear hg hw hp_))
                 have n0_ := Aside0.mk (Kd.R_drew HO_6.out)
                 have n1_ := Aside0.mk (Kd.S_drew HO_8.out)
                 have n2_ := Aside0.mk (Kd.R_drew HO253.out)
                 have n3_ := Aside0.mk (Kd.R_drew HO257.out)
                 have n4_ := Aside0.mk (Kd.R_drew HL261_0.out)
                 have n5_ := Aside0.mk (below_drew1 HB.out)
                 clear HO_6
                 clear HO_8
                 clear HO253
                 clear HO257
                 clear HL261_0
                 clear HB
                 have HO_6 := n0_
                 have HO_8 := n1_
                 have HO253 := n2_
                 have HO257 := n3_
                 have HL261_0 := n4_
                 have HB := n5_
                 clear n0_ n1_ n2_ n3_ n4_ n5_
                 have p266 : 0 ≤ (x12_2 : Int) := of_decide_eq_true asm
                 have q266 : x12_2 < (y265.length : Int) := (by have h_ : (x12_2 : Int) < ((x8_2.length : Int) : Int) := of_decide_eq_true asm; first | (have e_ := (Kd.S_reads' HO_8.out).1; omega) | simpa only [Ny265.out, List.length_set] using h_)
                 have ql266 : ((x12_2 : Int) < ((x8_2.length : Int) : Int)) = True := eq_true (of_decide_eq_true asm)
                 obtain ⟨ad266, A266_0, c266_0, e266, hx266_0, hl266_0, hi266_0⟩ := at_L1 (Kd.S_reads' HO_8.out).2.2 x12_2 p266 q266
                 obtain rfl : (⟨go30, 0, none⟩ : Addr) = ad266 := (by injection e266)
                 obtain ⟨ce266, hce266, hMe266, hcc266⟩ := Kd.S_get HO_8.out [] x12_2 p266 (by first | exact q266 | exact of_decide_eq_true asm | (have e_ := (Kd.S_reads' HO_8.out).1; omega))
                 obtain ⟨ve266_0, rfl, ge266_0⟩ := hMe266
                 have hv266_0 := hcc266 0 _ rfl
                 rw [Nat.add_zero, show ((Kd.slice 5 (Kd.int .u8))).sz = 1 from rfl, Nat.mul_one] at hv266_0
                 replace hv266_0 := Option.some.inj (hv266_0.symm.trans hx266_0)
                 rw [hv266_0] at ge266_0
                 have HL266_0 := Aside0.mk (show Kd.R (Kd.int .u8) 5 _ _ _ _ (rd_L1 y265 x12_2) from ge266_0)
                 clear hv266_0 ge266_0
                 have HX266_0 := Aside0.mk hx266_0
                 clear hcc266 hce266
                 (first | simp only [add_plain] at hx266_0 | simp only [add_at] at hx266_0 | simp only [Addr.add, Nat.zero_add] at hx266_0 | skip)
                 have HR266_0 := Aside0.mk hi266_0
                 have HC266_0 := Aside0.mk hl266_0
                 clear hi266_0 hl266_0
                 replace p266 := eq_true p266
                 replace q266 := eq_true q266
                 have p267 : 0 ≤ (x12_2 : Int) := of_decide_eq_true asm
                 have q267 : x12_2 < (y265.length : Int) := (by have h_ : (x12_2 : Int) < ((x8_2.length : Int) : Int) := of_decide_eq_true asm; first | (have e_ := (Kd.S_reads' HO_8.out).1; omega) | simpa only [Ny265.out, List.length_set] using h_)
                 have ql267 : ((x12_2 : Int) < ((x8_2.length : Int) : Int)) = True := eq_true (of_decide_eq_true asm)
                 obtain ⟨ad267, A267_0, c267_0, e267, hx267_0, hl267_0, hi267_0⟩ := at_L1 (Kd.S_reads' HO_8.out).2.2 x12_2 p267 q267
                 obtain rfl : (⟨go30, 0, none⟩ : Addr) = ad267 := (by injection e267)
                 obtain ⟨ce267, hce267, hMe267, hcc267⟩ := Kd.S_get HO_8.out [] x12_2 p267 (by first | exact q267 | exact of_decide_eq_true asm | (have e_ := (Kd.S_reads' HO_8.out).1; omega))
                 obtain ⟨ve267_0, rfl, ge267_0⟩ := hMe267
                 have hv267_0 := hcc267 0 _ rfl
                 rw [Nat.add_zero, show ((Kd.slice 5 (Kd.int .u8))).sz = 1 from rfl, Nat.mul_one] at hv267_0
                 replace hv267_0 := Option.some.inj (hv267_0.symm.trans hx267_0)
                 rw [hv267_0] at ge267_0
                 have HL267_0 := Aside0.mk (show Kd.R (Kd.int .u8) 5 _ _ _ _ (rd_L1 y265 x12_2) from ge267_0)
                 clear hv267_0 ge267_0
                 have HX267_0 := Aside0.mk hx267_0
                 clear hcc267 hce267
                 (first | simp only [add_plain] at hx267_0 | simp only [add_at] at hx267_0 | simp only [Addr.add, Nat.zero_add] at hx267_0 | skip)
                 have HR267_0 := Aside0.mk hi267_0
                 have HC267_0 := Aside0.mk hl267_0
                 clear hi267_0 hl267_0
                 replace p267 := eq_true p267
                 replace q267 := eq_true q267
                 have ea_ := Option.some.inj (hx266_0.symm.trans hx267_0)
                 injection ea_ with ea_ en_ ec_
                 subst ea_
                 subst ec_
                 clear en_
                 have p268 : 0 ≤ (0 : Int) := (by omega)
                 have q268 : 0 < ((rd_L1 y265 x12_2).length : Int) := of_decide_eq_true asm
                 obtain ⟨ad268, e268, hx268_0⟩ := Kd.at_int (by repeat (first | (with_reducible exact HR267_0.out) | (with_reducible refine Kd.C_alloc ?_ _) | (with_reducible refine Kd.C_drewN ?_ _) | (with_reducible refine Kd.C_drew ?_) | exact HR267_0.out)) 0 p268 q268
                 cases e268
                 have qi268 : (0 < (rd_L1 y265 x12_2).length) = True := eq_true (by omega)
                 (try rw [show ((0 : Int)).toNat = 0 from rfl] at hx268_0)
                 (try rw [Addr.add_zero'] at hx268_0)
                 replace p268 := eq_true p268
                 replace q268 := eq_true q268
                 refine start_ (n := 20) (S := fun w' => w'.cell? ⟨go30, (x12_2).toNat, none⟩ = some (.slice (some ad268) (rd_L1 y265 x12_2).length c266_0) ∧ w'.cell? ⟨go30, (x12_2).toNat, none⟩ = some (.slice (some ad268) (rd_L1 y265 x12_2).length c266_0) ∧ w'.cell? ad268 = some (.int .u8 (rd (rd_L1 y265 x12_2) 0))) (ds := [19]) #[false, false, false, false, false, false, false, false, false, false, false, false, false, false, false, false, false, false, false, false] (by kernel_rfl) rfl rfl ⟨hx266_0, hx267_0, hx268_0⟩ (fun hHeld => ?_); refine with_tabW laws_FnOutvoted.tab23 laws_FnOutvoted.bits23 (fun HT_ HW_ => ?_)
                 generalize w42.drew = w43 at HO_6 HO_8 HO253 HO257 HL261_0 HB HL266_0 HL267_0 HR266_0 HR267_0 HX266_0 HX267_0 hx266_0 hx267_0 hx268_0 hHeld ⊢
                 refine pz (i := 0) (N := some 91) #[true, false, false, false, false, false, false, false, false, false, false, false, false, false, false, false, false, false, false, false] rfl rfl HT_.out ?_
                 refine pz (i := 1) (N := some 92) #[true, true, false, false, false, false, false, false, false, false, false, false, false, false, false, false, false, false, false, false] rfl rfl HT_.out ?_
                 refine pz (i := 2) (N := some 93) #[true, true, true, false, false, false, false, false, false, false, false, false, false, false, false, false, false, false, false, false] rfl rfl HT_.out ?_
                 refine pz (i := 4) (N := some 95) #[true, true, true, false, true, false, false, false, false, false, false, false, false, false, false, false, false, false, false, false] rfl rfl HT_.out ?_
                 refine pz (i := 5) (N := some 96) #[true, true, true, false, true, true, false, false, false, false, false, false, false, false, false, false, false, false, false, false] rfl rfl HT_.out ?_
                 refine pz (i := 6) (N := some 97) #[true, true, true, false, true, true, true, false, false, false, false, false, false, false, false, false, false, false, false, false] rfl rfl HT_.out ?_
                 refine pz (i := 10) (N := some 101) #[true, true, true, false, true, true, true, false, false, false, true, false, false, false, false, false, false, false, false, false] rfl rfl HT_.out ?_
                 refine pz (i := 11) (N := some 102) #[true, true, true, false, true, true, true, false, false, false, true, true, false, false, false, false, false, false, false, false] rfl rfl HT_.out ?_
                 refine pz (i := 12) (N := some 103) #[true, true, true, false, true, true, true, false, false, false, true, true, true, false, false, false, false, false, false, false] rfl rfl HT_.out ?_
                 refine tz (i := 3) (N := some 94) #[true, true, true, true, true, true, true, false, false, false, true, true, true, false, false, false, false, false, false, false] rfl rfl HT_.out HW_.out hHeld (Or.inl ⟨by rfl, by rintro w' ⟨s0, s1, s2⟩; go_simp; with_reducible rfl⟩) ?_
                 refine tz (i := 7) (N := some 98) #[true, true, true, true, true, true, true, true, false, false, true, true, true, false, false, false, false, false, false, false] rfl rfl HT_.out HW_.out hHeld (Or.inl ⟨by rfl, by rintro w' ⟨s0, s1, s2⟩; go_simp; with_reducible rfl⟩) ?_
                 refine pz (i := 8) (N := some 99) #[true, true, true, true, true, true, true, true, true, false, true, true, true, false, false, false, false, false, false, false] rfl rfl HT_.out ?_
                 refine tz (i := 9) (N := some 100) #[true, true, true, true, true, true, true, true, true, true, true, true, true, false, false, false, false, false, false, false] rfl rfl HT_.out HW_.out hHeld (Or.inl ⟨by rfl, by rintro w' ⟨s0, s1, s2⟩; go_simp; with_reducible rfl⟩) ?_
                 refine one_ (i := 13) (N := some 104) #[true, true, true, true, true, true, true, true, true, true, true, true, true, true, false, false, false, false, false, false] rfl rfl (one_of HT_.out (by kernel_rfl)) (by decide) (fun K hK => ?_)
                 refine goes_ Try.func32 (by kernel_rfl) rfl #[.slice A0 l0.length c0, .int .i64 (wrap64 (x12_2 + 30))] (by rfl) rfl rfl av ?_
                 with_reducible refine (laws_at.calls _ _ l0 (wrap64 (x12_2 + 30)) t269 _ ?side1 ?side2 A32.out).mono ?_
                 (case side1 => exact cv ((Kd.C_below HR0.out HB.out)))
                 (case side2 => exact HC0.out)
                 rintro e w' ⟨rfl, ⟨nd, rfl⟩⟩
                 refine ⟨_, rfl, ?_⟩
                 have p33 : 0 ≤ (0 : Int) := (by omega)
                 have q33 : (0 : Int) < (((rd_L1 y265 x12_2).length : Int) : Int) := of_decide_eq_true asm
                 have qi33 : (0 < (rd_L1 y265 x12_2).length) = True := eq_true (by omega)
                 obtain ⟨go33, co33, eo33, gb33, gl33, cl33, HG33⟩ := Kd.R_form HL266_0.out (by omega)
                 (first | cases eo33 | (injection eo33 with ea_ en_ ec_; (first | subst ea_ | (injection ea_ with ea_; subst ea_)); subst ec_; clear en_))
                 have GB33 := Aside0.mk gb33
                 have GG33 := Aside0.mk HG33
                 clear gb33 gl33 HG33
                 (first | simp only [add_plain] at hx268_0 | skip)
                 obtain ⟨hx33_0, hf33_0⟩ := Kd.R_celln 0 HL266_0.out (0 : Int) p33 q33
                 (try rw [show ((0 : Int)).toNat = 0 from rfl] at hx33_0)
                 (try simp only [Nat.reduceMul, Nat.zero_mul, Nat.zero_add, Nat.reduceAdd] at hx33_0)
                 (try rw [show ((0 : Int)).toNat = 0 from rfl] at hf33_0)
                 (try simp only [Nat.reduceMul, Nat.zero_mul, Nat.zero_add, Nat.reduceAdd] at hf33_0)
                 replace p33 := eq_true p33
                 replace q33 := eq_true q33
                 have hq44 : (x12_2 : Int) < (y265.length : Int) := (by have h_ : (x12_2 : Int) < ((x8_2.length : Int) : Int) := of_decide_eq_true asm; first | exact h_ | (have e_ := (Kd.S_reads' HO_8.out).1; omega) | simpa only [Ny265.out, List.length_set] using h_)
                 obtain ⟨oki44, ce44, hcl44, hM44, hcc44, hok44, hbk44⟩ := Kd.S_borrow HO_8.out [] (x12_2 : Int) (of_decide_eq_true asm) (by first | exact hq44 | (have h_ : (x12_2 : Int) < ((x8_2.length : Int) : Int) := of_decide_eq_true asm; exact h_))
                 obtain ⟨ve44_0, rfl, ge44_0⟩ := hM44
                 have hv44 := hcc44 0 _ rfl
                 rw [Nat.add_zero, show ((Kd.slice 5 (Kd.int .u8))).sz = 1 from rfl, Nat.mul_one] at hv44
                 replace hv44 := Option.some.inj (hv44.symm.trans HX266_0.out)
                 subst hv44
                 clear hcc44 hcl44
                 replace ge44_0 := (show Kd.R (Kd.int .u8) 5 _ _ _ _ (rd_L1 y265 x12_2) from ge44_0)
                 have HP44 := Kd.R_putg ge44_0 (0 : Int) (Go.bits .xor .u8 (rd (rd_L1 y265 x12_2) 0) ((wrap64 (1 + (Int.tmod t269 255))) % 256))
                 rw [← Ny270.out] at HP44
                 have HS44 := hbk44 HP44.2 (fun k_ e_ => by injection e_ with e_; subst e_; exact ge44_0.1 _ rfl) (x' := y270) (Kd.M_row HP44.1)
                 rw [← Ny272.out] at HS44
                 have HQ44 := Aside0.mk HS44
                 clear HP44 HS44 hbk44 hok44
                 refine hK.out _ _ ⟨hHeld.1, hHeld.2.1, hHeld.2.2⟩ (fun hHeld => ?_)
                 clear hK K
                 refine nz (N := some 104) ?_
                 refine pz (i := 14) (N := some 105) #[true, true, true, true, true, true, true, true, true, true, true, true, true, true, true, false, false, false, false, false] rfl rfl HT_.out ?_
                 refine pz (i := 15) (N := some 106) #[true, true, true, true, true, true, true, true, true, true, true, true, true, true, true, true, false, false, false, false] rfl rfl HT_.out ?_
                 refine pz (i := 16) (N := some 107) #[true, true, true, true, true, true, true, true, true, true, true, true, true, true, true, true, true, false, false, false] rfl rfl HT_.out ?_
                 refine pz (i := 17) (N := some 108) #[true, true, true, true, true, true, true, true, true, true, true, true, true, true, true, true, true, true, false, false] rfl rfl HT_.out ?_
                 refine pz (i := 18) (N := some 109) #[true, true, true, true, true, true, true, true, true, true, true, true, true, true, true, true, true, true, true, false] rfl rfl HT_.out ?_
                 refine last_ (i := 19) (N := none) #[true, true, true, true, true, true, true, true, true, true, true, true, true, true, true, true, true, true, true, true] rfl rfl (one_of HT_.out (by kernel_rfl)) (by decide) (fun K hK => ?_)
                 refine skip_ (w1 := ?_) (by rfl) rfl ?_ ?_
                 rotate_left
                 ·go_simp
                  rfl
                 refine hK.out _ _ ?_
                 clear hK K
                 refine done_ (done_of HT_.out (by kernel_rfl)) ?_
                 (try simp only [Dig.setCell_drewN])
                 try go_wp2
                 (try simp only [← hl6_2])
                 go_roundg k2
                 case measure => have := HK1.out; have := HK2.out; omega
                 case rel => exact ⟨(x6_2), (y272), (y251), (y255), (wrap64 (x12_2 + 1)), (by first | rfl | (simp; done) | (simp [*]; done)), H', ⟨by have := HK1.out; have := HK2.out; omega⟩, ⟨by (try simp only [hl6_2]); (with_reducible repeat (first | apply Kd.R_alloc | apply Kd.R_drewN | apply Kd.R_drew)); exact Kd.R_mono (Kd.R_far (p := ⟨go33, 0, none⟩) (Kd.R_far1 HO_6.out rfl ((HL266_0.out.1 _ rfl).1)) (fun _ hk => hk.2) (.int .u8 (Go.bits .xor .u8 (rd (rd_L1 y265 x12_2) 0) ((wrap64 (1 + (Int.tmod t269 255))) % 256)))) (fun _ hk => trivial)⟩, ⟨by (try simp only [hl6_2]); (with_reducible repeat (first | apply Kd.S_alloc | apply Kd.S_drewN | apply Kd.S_drew)); exact HQ44.out⟩, ⟨by (try simp only [hl6_2]); (with_reducible repeat (first | apply Kd.R_alloc | apply Kd.R_drewN | apply Kd.R_drew)); exact Kd.R_mono (Kd.R_far (p := ⟨go33, 0, none⟩) (Kd.R_types HO253.out GG33.out (by decide)) (fun _ hk => hk.2) (.int .u8 (Go.bits .xor .u8 (rd (rd_L1 y265 x12_2) 0) ((wrap64 (1 + (Int.tmod t269 255))) % 256)))) (fun _ hk => hk.1.2)⟩, ⟨by (try simp only [hl6_2]); (with_reducible repeat (first | apply Kd.R_alloc | apply Kd.R_drewN | apply Kd.R_drew)); exact Kd.R_mono (Kd.R_far (p := ⟨go33, 0, none⟩) (Kd.R_types HO257.out GG33.out (by decide)) (fun _ hk => hk.2) (.int .u8 (Go.bits .xor .u8 (rd (rd_L1 y265 x12_2) 0) ((wrap64 (1 + (Int.tmod t269 255))) % 256)))) (fun _ hk => hk.1)⟩, ⟨by repeat (first | (with_reducible first | exact HB.out | apply below_alloc | apply pw_below_drewN | apply below_drew1 | refine below_set ?_ GB33.out) | exact HB.out)⟩⟩
                ·rw [if_neg c31] at H
                 exact absurd H (by simp)
               ·rw [if_neg c29] at H
                exact absurd H (by simp)
              ·rw [if_neg c28] at H
               exact absurd H (by simp)
             ·rw [if_neg c27] at H
              exact absurd H (by simp)
            ·rw [if_neg c26] at H
             exact absurd H (by simp)
           ·rw [if_neg c25] at H
            have c25b0 : ((Int.tmod t254 2) == 0) = false := beq_eq_false_iff_ne.mpr c25
            have c25b1 : ((Int.tmod t254 2) != 0) = true := bne_iff_ne.mpr c25
            have H' := Aside0.mk H
            clear H
            go_wp2_with (first | ((with_reducible refine gate_builtin (b := .append) (xs := #[.tmp 62, .tmp 64]) rfl ?_); (try (refine gate_guard (by rfl) ?_; dsimp only)); at_builtin; refine Kd.R_append (Kd.int .i64) (w0 := w) w.heap.size rfl (.tmp 62) (.tmp 64) 47 3 (.int .i64 0) 8 rfl Try.underlying47 info3 rfl (by decide) (by omega) u10 x10_2 x12_2 [.int .i64 x12_2] (fun k_ => some k_ ≠ (u11 : Value).ownBlock) (fun _ => False) rfl rfl ?aP (fun _ hk => hk.elim) ?aF ?aO ?aB ?aS ?aL ?_; (case aP => exact rfl); (case aB => exact (bt)); (case aF => exact (fun k_ hk => Kd.fresh' (Kd.R_lt (mv HO_11.out)) k_ hk)); (case aO => exact (mv HO_10.out)); (case aS => exact (below_size (bt))); (case aL => have := LMc22.out; omega); intro v252 w46 ho hb hg hat; rw [← Ny251.out] at ho; replace HO_6 := Aside0.mk (Kd.R_over' (mv HO_6.out) (Kd.R_typed (mv HO_10.out)) (by decide) hg); replace HO_8 := Aside0.mk (Kd.S_over' (mv HO_8.out) (Kd.R_typed (mv HO_10.out)) (by decide) hg); replace HO_11 := Aside0.mk (Kd.R_after (ok := (fun _ => True)) (by (with_reducible repeat (first | apply Kd.R_alloc | apply Kd.R_drewN | apply Kd.R_drew)); exact Kd.R_mono HO_11.out (fun _ hk => ⟨trivial, hk⟩)) hg hat); replace HB := Aside0.mk (hb); have HO253 := Aside0.mk (ho); clear HO_10; clear ho hb hg hat; obtain ⟨Ao47, co47, eo47⟩ := Kd.R_slice HO_11.out; subst eo47) | (go_at_call 32; (with_reducible refine (laws_at.calls _ _ l0 (wrap64 (x12_2 + 20)) t254 _ ?side1 ?side2 A24.out).mono ?_); (case side1 => exact cv ((Kd.C_below HR0.out HB.out))); (case side2 => exact HC0.out); rintro e w' ⟨rfl, ⟨nd, rfl⟩⟩))
            (try simp only [← hl6_2])
            go_roundg k2
            case measure => have := HK1.out; have := HK2.out; omega
            case rel => exact ⟨(x6_2), (x8_2), (y251), (x11_2), (wrap64 (x12_2 + 1)), (by first | rfl | (simp; done) | (simp [*]; done)), H', ⟨by have := HK1.out; have := HK2.out; omega⟩, ⟨by (try simp only [hl6_2]); (with_reducible repeat (first | apply Kd.R_alloc | apply Kd.R_drewN | apply Kd.R_drew)); exact HO_6.out⟩, ⟨by (try simp only [hl6_2]); (with_reducible repeat (first | apply Kd.S_alloc | apply Kd.S_drewN | apply Kd.S_drew)); exact HO_8.out⟩, ⟨by (try simp only [hl6_2]); (with_reducible repeat (first | apply Kd.R_alloc | apply Kd.R_drewN | apply Kd.R_drew)); exact HO253.out⟩, ⟨by (try simp only [hl6_2]); (with_reducible repeat (first | apply Kd.R_alloc | apply Kd.R_drewN | apply Kd.R_drew)); exact Kd.R_mono HO_11.out (fun _ hk => hk.2)⟩, ⟨bt⟩⟩
          ·rw [if_neg c23] at H
           have c23b0 : decide ((x11_2.length : Int) < (Int.tmod t232 3)) = false := decide_eq_false c23
           clear c23
           have H' := Aside0.mk H
           clear H
           go_wp2_with (first | ((with_reducible refine gate_builtin (b := .append) (xs := #[.tmp 62, .tmp 64]) rfl ?_); (try (refine gate_guard (by rfl) ?_; dsimp only)); at_builtin; refine Kd.R_append (Kd.int .i64) (w0 := w) w.heap.size rfl (.tmp 62) (.tmp 64) 47 3 (.int .i64 0) 8 rfl Try.underlying47 info3 rfl (by decide) (by omega) u10 x10_2 x12_2 [.int .i64 x12_2] (fun k_ => some k_ ≠ (u11 : Value).ownBlock) (fun _ => False) rfl rfl ?aP (fun _ hk => hk.elim) ?aF ?aO ?aB ?aS ?aL ?_; (case aP => exact rfl); (case aB => exact (bt)); (case aF => exact (fun k_ hk => Kd.fresh' (Kd.R_lt (mv HO_11.out)) k_ hk)); (case aO => exact (mv HO_10.out)); (case aS => exact (below_size (bt))); (case aL => have := LMc22.out; omega); intro v252 w48 ho hb hg hat; rw [← Ny251.out] at ho; replace HO_6 := Aside0.mk (Kd.R_over' (mv HO_6.out) (Kd.R_typed (mv HO_10.out)) (by decide) hg); replace HO_8 := Aside0.mk (Kd.S_over' (mv HO_8.out) (Kd.R_typed (mv HO_10.out)) (by decide) hg); replace HO_11 := Aside0.mk (Kd.R_after (ok := (fun _ => True)) (by (with_reducible repeat (first | apply Kd.R_alloc | apply Kd.R_drewN | apply Kd.R_drew)); exact Kd.R_mono HO_11.out (fun _ hk => ⟨trivial, hk⟩)) hg hat); replace HB := Aside0.mk (hb); have HO253 := Aside0.mk (ho); clear HO_10; clear ho hb hg hat; obtain ⟨Ao49, co49, eo49⟩ := Kd.R_slice HO_11.out; subst eo49))
           (try simp only [← hl6_2])
           go_roundg k2
           case measure => have := HK1.out; have := HK2.out; omega
           case rel => exact ⟨(x6_2), (x8_2), (y251), (x11_2), (wrap64 (x12_2 + 1)), (by first | rfl | (simp; done) | (simp [*]; done)), H', ⟨by have := HK1.out; have := HK2.out; omega⟩, ⟨by (try simp only [hl6_2]); (with_reducible repeat (first | apply Kd.R_alloc | apply Kd.R_drewN | apply Kd.R_drew)); exact HO_6.out⟩, ⟨by (try simp only [hl6_2]); (with_reducible repeat (first | apply Kd.S_alloc | apply Kd.S_drewN | apply Kd.S_drew)); exact HO_8.out⟩, ⟨by (try simp only [hl6_2]); (with_reducible repeat (first | apply Kd.R_alloc | apply Kd.R_drewN | apply Kd.R_drew)); exact HO253.out⟩, ⟨by (try simp only [hl6_2]); (with_reducible repeat (first | apply Kd.R_alloc | apply Kd.R_drewN | apply Kd.R_drew)); exact Kd.R_mono HO_11.out (fun _ hk => hk.2)⟩, ⟨bt⟩⟩
         ·rw [if_neg c22] at H
          exact absurd H (by simp)
        ·rw [if_neg c21] at H
         have c21b0 : decide (x12_2 < (wrap64 ((wrap64 (1 + (Int.tmod t231 3))) + (wrap64 (2 * (Int.tmod t232 3)))))) = false := decide_eq_false c21
         clear c21
         replace H := Option.bind_eq_some_iff.mp H
         obtain ⟨⟨t273, t274, t275⟩, A500, H⟩ := H
         (try dsimp -simprocs only at H)
         have A50 := Aside0.mk A500
         clear A500
         have HC51 := Aside0.mk H
         clear H
         obtain ⟨Ao52, co52, eo52⟩ := Kd.R_slice HO_10.out
         subst eo52
         obtain ⟨Ao53, co53, eo53⟩ := Kd.S_slice HO_8.out
         subst eo53
         go_upto_region 25 with (first | ((with_reducible refine gate_callee (f := 43) rfl ?_); refine goesL_ (some 118) rfl rfl Try.func43 (by kernel_rfl) rfl #[.int .i64 (wrap64 (1 + (Int.tmod t231 3))), .int .i64 (wrap64 ((wrap64 (1 + (Int.tmod t231 3))) + (wrap64 (2 * (Int.tmod t232 3))))), .int .i64 (x6_2.length : Int), .slice Ao52 x10_2.length co52, .slice Ao53 x8_2.length co53, .int .i64 (Int.tmod t232 3)] rfl av ?_; (with_reducible refine (impl_Outvote.calls k2 (wrap64 (1 + (Int.tmod t231 3))) (wrap64 ((wrap64 (1 + (Int.tmod t231 3))) + (wrap64 (2 * (Int.tmod t232 3))))) (x6_2.length : Int) _ _ x10_2 _ _ x8_2 (Int.tmod t232 3) t273 t274 t275 _ ?side1 ?side2 ?side3 ?side4 A50.out).mono ?_); (case side1 => exact cv ((Kd.R_reads' HO_10.out).2.2)); (case side2 => exact (Kd.R_reads' HO_10.out).2.1); (case side3 => exact cv ((Kd.S_reads' HO_8.out).2.2)); (case side4 => exact (Kd.S_reads' HO_8.out).2.1); rintro e w54 ⟨v276, v278, rfl, ho0, ho1, hb⟩; refine ⟨_, rfl, ?_⟩; replace HO_8 := Aside0.mk (Kd.S_elder' (mv HO_8.out) (Kd.R_base ho0) hb); have HO277 := Aside0.mk (Kd.R_lower (Kd.R_new' ho0 (Kd.R_lt (mv HO_6.out))) (below_size (bt))); replace HO_6 := Aside0.mk (Kd.R_elder' (mv HO_6.out) (Kd.R_base ho0) hb); have HO279 := Aside0.mk (Kd.R_lower (Kd.R_new' (Kd.R_new' ho1 (Kd.R_lt (mv HO_10.out))) (Kd.R_lt (mv HO_11.out))) (below_size (bt))); replace HO_10 := Aside0.mk (Kd.R_elder' (mv HO_10.out) (Kd.R_base ho1) hb); replace HO_11 := Aside0.mk (Kd.R_elder' (mv HO_11.out) (Kd.R_base ho1) hb); replace HB := Aside0.mk (below_step (bt) hb); (try clear hb); (try clear hb2); (try clear hk); (try clear hi); (try clear ho0); (try clear ho1)))
         (try simp only [Act.put, List.setIfInBounds_toArray, List.set_cons_zero, List.set_cons_succ])
         go_cut [137] (fun v137 wc => ∃ (kq : Nat) (x137_50 : Bool), v137 = .bool x137_50 ∧ Aside0 (laws_FnOutvoted.j2 kq x11_2 t274 x137_50 = some r) ∧ Aside0 (kq ≤ k2) ∧ Aside0 (Kd.R (Kd.int .i64) 3 wc w.heap.size (fun k_ => some k_ ≠ (v278 : Value).ownBlock) u11 x11_2) ∧ Aside0 (Kd.R (Kd.int .i64) 3 wc w.heap.size (fun k_ => some k_ ≠ (u11 : Value).ownBlock) v278 t274) ∧ Aside0 (Below w.heap.size w wc))
         case first =>
          have H := HC51.out
          clear HC51
          by_cases c55 : t275 = true
          ·subst c55
           rw [if_pos rfl] at H
           by_cases c56 : (strOfNums t273).toList = (strOfNums x6_2).toList
           ·rw [if_pos c56] at H
            have c56b0 : ((strOfNums t273).toList == (strOfNums x6_2).toList) = true := beq_iff_eq.mpr c56
            have c56b1 : ((strOfNums t273).toList != (strOfNums x6_2).toList) = false := bne_eq_false_iff_eq.mpr c56
            clear c56
            (first | rw [c56b0] | (simp only [i64_w, i32_w]; rw [c56b0]) | skip)
            have H' := Aside0.mk H
            clear H
            have hcv57 := own_string (P := Try.prog) Try.underlying24 Try.underlying5 Try.underlying9 (Kd.own_of_R HO277.out)
            have hcv58 := own_string (P := Try.prog) Try.underlying24 Try.underlying5 Try.underlying9 (Kd.own_of_R HO_6.out)
            obtain ⟨Ao59, co59, eo59⟩ := Kd.R_slice HO279.out
            subst eo59
            obtain ⟨Ao60, co60, eo60⟩ := Kd.R_slice HO_11.out
            subst eo60
            go_wp2
            go_meet
            case rel => exact ⟨_, (((t274.length : Int) != (x11_2.length : Int))), (by first | rfl | (simp; done) | (simp [*]; done)), H', ⟨by have := HK1.out; have := HK2.out; first | omega | exact Nat.le_refl _⟩, ⟨by (try simp only [hl6_2]); (with_reducible repeat (first | apply Kd.R_alloc | apply Kd.R_drewN | apply Kd.R_drew)); exact Kd.R_mono HO_11.out (fun _ hk => hk.2)⟩, ⟨by (try simp only [hl6_2]); (with_reducible repeat (first | apply Kd.R_alloc | apply Kd.R_drewN | apply Kd.R_drew)); exact Kd.R_mono HO279.out (fun _ hk => hk.2)⟩, ⟨bt⟩⟩
           ·rw [if_neg c56] at H
            have c56b0 : ((strOfNums t273).toList == (strOfNums x6_2).toList) = false := beq_eq_false_iff_ne.mpr c56
            have c56b1 : ((strOfNums t273).toList != (strOfNums x6_2).toList) = true := bne_iff_ne.mpr c56
            (first | rw [c56b0] | (simp only [i64_w, i32_w]; rw [c56b0]) | skip)
            have H' := Aside0.mk H
            clear H
            have hcv61 := own_string (P := Try.prog) Try.underlying24 Try.underlying5 Try.underlying9 (Kd.own_of_R HO277.out)
            have hcv62 := own_string (P := Try.prog) Try.underlying24 Try.underlying5 Try.underlying9 (Kd.own_of_R HO_6.out)
            go_wp2
            go_meet
            case rel => exact ⟨_, (true), (by first | rfl | (simp; done) | (simp [*]; done)), H', ⟨by have := HK1.out; have := HK2.out; first | omega | exact Nat.le_refl _⟩, ⟨by (try simp only [hl6_2]); (with_reducible repeat (first | apply Kd.R_alloc | apply Kd.R_drewN | apply Kd.R_drew)); exact Kd.R_mono HO_11.out (fun _ hk => hk.2)⟩, ⟨by (try simp only [hl6_2]); (with_reducible repeat (first | apply Kd.R_alloc | apply Kd.R_drewN | apply Kd.R_drew)); exact Kd.R_mono HO279.out (fun _ hk => hk.2)⟩, ⟨bt⟩⟩
          ·replace c55 := Bool.eq_false_iff.mpr c55
           subst c55
           rw [if_neg (show ¬ (false = true) by decide)] at H
           have H' := Aside0.mk H
           clear H
           go_wp2
           go_meet
           case rel => exact ⟨_, (true), (by first | rfl | (simp; done) | (simp [*]; done)), H', ⟨by have := HK1.out; have := HK2.out; first | omega | exact Nat.le_refl _⟩, ⟨by (try simp only [hl6_2]); (with_reducible repeat (first | apply Kd.R_alloc | apply Kd.R_drewN | apply Kd.R_drew)); exact Kd.R_mono HO_11.out (fun _ hk => hk.2)⟩, ⟨by (try simp only [hl6_2]); (with_reducible repeat (first | apply Kd.R_alloc | apply Kd.R_drewN | apply Kd.R_drew)); exact Kd.R_mono HO279.out (fun _ hk => hk.2)⟩, ⟨bt⟩⟩
         case rest =>
          clear HC51
          try clear c1
          try clear c2
          try clear p2
          try clear q2
          try clear hx2
          try clear qi2
          try clear c3
          try clear p3
          try clear q3
          try clear hx3
          try clear qi3
          try clear hf3
          try clear c4
          try clear q4
          try clear hx4
          try clear hf4
          try clear c5
          try clear hcv5
          try clear p6
          try clear hcv6
          try clear c9
          try clear c9b0
          try clear c11
          try clear c14
          try clear c21
          try clear c21b0
          try clear c22
          try clear c23
          try clear c23b0
          try clear c25
          try clear c25b0
          try clear c25b1
          try clear c26
          try clear p26
          try clear q26
          try clear hx26
          try clear qi26
          try clear c27
          try clear c27b0
          try clear c28
          try clear c28b0
          try clear c29
          try clear c30
          try clear p30
          try clear q30
          try clear hx30
          try clear hf30
          try clear c31
          try clear c31b0
          try clear c31b1
          try clear c32
          try clear p33
          try clear q33
          try clear hx33
          try clear qi33
          try clear hf33
          try clear c41
          try clear hx41
          try clear hf41
          try clear c43
          try clear c44
          try clear q44
          try clear c55
          try clear c56
          try clear c56b0
          try clear c56b1
          try clear hcv57
          try clear hcv58
          try clear hcv61
          try clear hcv62
          try clear hx261_0
          try clear hx266_0
          try clear hx267_0
          try clear hx268_0
          try clear hx30_0
          try clear hx33_0
          try clear hx41_0
          try clear p2
          try clear p261
          try clear p266
          try clear p267
          try clear p268
          try clear p30
          try clear p33
          try clear p6
          try clear q261
          try clear q266
          try clear q267
          try clear q268
          try clear q30
          try clear q33
          obtain ⟨kq, x137_50, rfl, HA, HJ50, HO_11, HO_14, HB⟩ := hcut
          cases kq with
          | zero => exact absurd HA.out (by simp [laws_FnOutvoted.j2])
          | succ kj50 =>
           have H := HA.out
           clear HA
           simp only [laws_FnOutvoted.j2] at H
           by_cases c63 : x137_50 = true
           ·subst c63
            rw [if_pos rfl] at H
            exact absurd ((Option.some.inj H).trans hT.out) (by decide)
           ·replace c63 := Bool.eq_false_iff.mpr c63
            subst c63
            rw [if_neg (show ¬ (false = true) by decide)] at H
            have H' := Aside0.mk H
            clear H
            go_wp2
            go_loopg [16] kj50 (fun kq v16 w' => ∃ (x16_4 : Int), v16 = .int .i64 x16_4 ∧ Aside0 (laws_FnOutvoted.l2 kq x11_2 t274 x16_4 = some r) ∧ Aside0 (kq ≤ kj50) ∧ Aside0 (Kd.R (Kd.int .i64) 3 w' w.heap.size (fun k_ => some k_ ≠ (v278 : Value).ownBlock) u11 x11_2) ∧ Aside0 (Kd.R (Kd.int .i64) 3 w' w.heap.size (fun k_ => some k_ ≠ (u11 : Value).ownBlock) v278 t274) ∧ Aside0 (Below w.heap.size w w'))
            case atStart => exact ⟨(0), (by first | rfl | (simp; done) | (simp [*]; done)), H', ⟨Nat.le_refl _⟩, ⟨by (try simp only [hl6_2]); (with_reducible repeat (first | apply Kd.R_alloc | apply Kd.R_drewN | apply Kd.R_drew)); exact HO_11.out⟩, ⟨by (try simp only [hl6_2]); (with_reducible repeat (first | apply Kd.R_alloc | apply Kd.R_drewN | apply Kd.R_drew)); exact HO_14.out⟩, ⟨bt⟩⟩
            case round =>
             clear H'
             try clear c1
             try clear c2
             try clear p2
             try clear q2
             try clear hx2
             try clear qi2
             try clear c3
             try clear p3
             try clear q3
             try clear hx3
             try clear qi3
             try clear hf3
             try clear c4
             try clear q4
             try clear hx4
             try clear hf4
             try clear c5
             try clear hcv5
             try clear c6
             try clear p6
             try clear hcv6
             try clear c9
             try clear c9b0
             try clear c11
             try clear c14
             try clear c21
             try clear c21b0
             try clear c22
             try clear c23
             try clear c23b0
             try clear c25
             try clear c25b0
             try clear c25b1
             try clear c26
             try clear p26
             try clear q26
             try clear hx26
             try clear qi26
             try clear c27
             try clear c27b0
             try clear c28
             try clear c28b0
             try clear c29
             try clear c30
             try clear p30
             try clear q30
             try clear hx30
             try clear hf30
             try clear c31
             try clear c31b0
             try clear c31b1
             try clear c32
             try clear p33
             try clear q33
             try clear hx33
             try clear qi33
             try clear hf33
             try clear c41
             try clear hx41
             try clear hf41
             try clear c43
             try clear c44
             try clear q44
             try clear c55
             try clear c56
             try clear c56b0
             try clear c56b1
             try clear hcv57
             try clear hcv58
             try clear hcv61
             try clear hcv62
             try clear c63
             try clear hx261_0
             try clear hx266_0
             try clear hx267_0
             try clear hx268_0
             try clear hx30_0
             try clear hx33_0
             try clear hx41_0
             try clear p2
             try clear p26
             try clear p261
             try clear p266
             try clear p267
             try clear p268
             try clear p3
             try clear p30
             try clear p33
             try clear p6
             try clear q2
             try clear q26
             try clear q261
             try clear q266
             try clear q267
             try clear q268
             try clear q3
             try clear q30
             try clear q33
             try clear q4
             try clear q44
             obtain ⟨x16_4, rfl, HA, HK4, HO_11, HO_14, HB⟩ := hrel
             cases gk with
             | zero => exact absurd HA.out (by simp [laws_FnOutvoted.l2])
             | succ k4 =>
              have H := HA.out
              clear HA
              simp only [laws_FnOutvoted.l2] at H
              by_cases c64 : x16_4 < (t274.length : Int)
              ·rw [if_pos c64] at H
               have c64b0 : decide (x16_4 < (t274.length : Int)) = true := decide_eq_true c64
               clear c64
               by_cases c65 : 0 ≤ x16_4
               ·rw [if_pos c65] at H
                have c65b0 : decide (0 ≤ x16_4) = true := decide_eq_true c65
                clear c65
                by_cases c66 : x16_4 < (x11_2.length : Int)
                ·rw [if_pos c66] at H
                 have c66b0 : decide (x16_4 < (x11_2.length : Int)) = true := decide_eq_true c66
                 clear c66
                 by_cases c67 : (rd t274 x16_4) = (rd x11_2 x16_4)
                 ·rw [if_pos c67] at H
                  have c67b0 : ((rd t274 x16_4) == (rd x11_2 x16_4)) = true := beq_iff_eq.mpr c67
                  have c67b1 : ((rd t274 x16_4) != (rd x11_2 x16_4)) = false := bne_eq_false_iff_eq.mpr c67
                  clear c67
                  have H' := Aside0.mk H
                  clear H
                  obtain ⟨Ao68, co68, eo68⟩ := Kd.R_slice HO_14.out
                  subst eo68
                  try go_wp2
                  have n0_ := Aside0.mk (Kd.R_drew HO_11.out)
                  have n1_ := Aside0.mk (Kd.R_drew HO_14.out)
                  have n2_ := Aside0.mk (below_drew1 HB.out)
                  clear HO_11
                  clear HO_14
                  clear HB
                  have HO_11 := n0_
                  have HO_14 := n1_
                  have HB := n2_
                  clear n0_ n1_ n2_
                  have p280 : 0 ≤ (x16_4 : Int) := of_decide_eq_true asm
                  have q280 : x16_4 < (t274.length : Int) := of_decide_eq_true asm
                  obtain ⟨ad280, e280, hx280_0⟩ := Kd.at_int (Kd.R_reads' HO_14.out).2.2 x16_4 p280 q280
                  cases e280
                  replace p280 := eq_true p280
                  replace q280 := eq_true q280
                  obtain ⟨Ao70, co70, eo70⟩ := Kd.R_slice HO_11.out
                  (first | subst eo70 | (injection eo70 with f1_ f2_ f3_; have f4_ := f1_.symm; have f5_ := f3_.symm; clear f1_ f2_ f3_; subst f4_; subst f5_))
                  have p281 : 0 ≤ (x16_4 : Int) := of_decide_eq_true asm
                  have q281 : x16_4 < (x11_2.length : Int) := of_decide_eq_true asm
                  obtain ⟨ad281, e281, hx281_0⟩ := Kd.at_int (Kd.R_reads' HO_11.out).2.2 x16_4 p281 q281
                  cases e281
                  replace p281 := eq_true p281
                  replace q281 := eq_true q281
                  refine start_ (n := 9) (S := fun w' => w'.cell? (ad280.add (x16_4).toNat) = some (.int .i64 (rd t274 x16_4)) ∧ w'.cell? (ad281.add (x16_4).toNat) = some (.int .i64 (rd x11_2 x16_4))) (ds := []) #[false, false, false, false, false, false, false, false, false] (by kernel_rfl) rfl rfl ⟨hx280_0, hx281_0⟩ (fun hHeld => ?_); refine with_tabW laws_FnOutvoted.tab30 laws_FnOutvoted.bits30 (fun HT_ HW_ => ?_)
                  generalize wr.drew = w69 at HO_11 HO_14 HB hx280_0 hx281_0 hHeld ⊢
                  refine pz (i := 0) (N := some 144) #[true, false, false, false, false, false, false, false, false] rfl rfl HT_.out ?_
                  refine pz (i := 1) (N := some 145) #[true, true, false, false, false, false, false, false, false] rfl rfl HT_.out ?_
                  refine pz (i := 2) (N := some 146) #[true, true, true, false, false, false, false, false, false] rfl rfl HT_.out ?_
                  refine pz (i := 4) (N := some 148) #[true, true, true, false, true, false, false, false, false] rfl rfl HT_.out ?_
                  refine pz (i := 5) (N := some 149) #[true, true, true, false, true, true, false, false, false] rfl rfl HT_.out ?_
                  refine pz (i := 6) (N := some 150) #[true, true, true, false, true, true, true, false, false] rfl rfl HT_.out ?_
                  refine tz (i := 3) (N := some 147) #[true, true, true, true, true, true, true, false, false] rfl rfl HT_.out HW_.out hHeld (Or.inl ⟨by rfl, by rintro w' ⟨s0, s1⟩; go_simp; with_reducible rfl⟩) ?_
                  refine tz (i := 7) (N := some 151) #[true, true, true, true, true, true, true, true, false] rfl rfl HT_.out HW_.out hHeld (Or.inl ⟨by rfl, by rintro w' ⟨s0, s1⟩; go_simp; with_reducible rfl⟩) ?_
                  refine pz (i := 8) (N := some 152) #[true, true, true, true, true, true, true, true, true] rfl rfl HT_.out ?_
                  refine done_ (done_of HT_.out (by kernel_rfl)) ?_
                  (try simp only [Dig.setCell_drewN])
                  try go_wp2
                  go_roundg k4
                  case measure => have := HK1.out; have := HK2.out; have := HJ50.out; have := HK4.out; omega
                  case rel => exact ⟨(wrap64 (x16_4 + 1)), (by first | rfl | (simp; done) | (simp [*]; done)), H', ⟨by have := HK1.out; have := HK2.out; have := HJ50.out; have := HK4.out; omega⟩, ⟨by (try simp only [hl6_2]); (with_reducible repeat (first | apply Kd.R_alloc | apply Kd.R_drewN | apply Kd.R_drew)); exact HO_11.out⟩, ⟨by (try simp only [hl6_2]); (with_reducible repeat (first | apply Kd.R_alloc | apply Kd.R_drewN | apply Kd.R_drew)); exact HO_14.out⟩, ⟨bt⟩⟩
                 ·rw [if_neg c67] at H
                  have c67b0 : ((rd t274 x16_4) == (rd x11_2 x16_4)) = false := beq_eq_false_iff_ne.mpr c67
                  have c67b1 : ((rd t274 x16_4) != (rd x11_2 x16_4)) = true := bne_iff_ne.mpr c67
                  exact absurd ((Option.some.inj H).trans hT.out) (by decide)
                ·rw [if_neg c66] at H
                 exact absurd H (by simp)
               ·rw [if_neg c65] at H
                exact absurd H (by simp)
              ·rw [if_neg c64] at H
               have c64b0 : decide (x16_4 < (t274.length : Int)) = false := decide_eq_false c64
               clear c64
               obtain rfl := Option.some.inj H
               obtain ⟨Ao71, co71, eo71⟩ := Kd.R_slice HO_14.out
               subst eo71
               go_wp2
               go_ret
               exact ⟨by first | rfl | (simp [errW_none, errW_some] <;> rfl) | (simp [*, errW_none, errW_some] <;> rfl), bt⟩
     ·replace c14 := Bool.eq_false_iff.mpr c14
      subst c14
      rw [if_neg (show ¬ (false = true) by decide)] at H
      exact absurd ((Option.some.inj H).trans hT.out) (by decide)

/-- THE ONE PURE STATEMENT of laws_FnOutvoted: yours. -/
def laws_FnOutvoted.Pure : Prop := ∀ (l0 : List Int), l0.length ≤ maxLen → l0.length * 1 ≤ 140737488351232 → (∀ x ∈ l0, (Lit.int .u8 x).wf = true) → ∃ k, laws_FnOutvoted.f k l0 = some true
theorem laws_FnOutvoted.walk (P : laws_FnOutvoted.Pure) (a0 : Option Addr) (len0 cap0 : Nat) (z0 : List Int) (w : World) (w0 : (a0 = none ∧ len0 = 0 ∧ cap0 = 0 ∧ z0 = []) ∨ ∃ x, a0 = some x ∧ len0 ≤ cap0 ∧ cap0 ≤ maxLen ∧ z0.length = cap0 ∧ (∀ i, i < z0.length → w.cell? (x.add i) = some (.int .u8 (z0.getD i 0))) ∧ ∀ n ∈ z0, (Lit.int .u8 n).wf = true) (y0 : len0 * 1 ≤ 140737488351232) :
  Calls Try.prog 11 #[.slice a0 len0 cap0] w fun e w' => e = .returned (.bool true) ∧ Below w.heap.size w w' := by
 obtain ⟨l0, rfl, hr0, hm0, hw0, hc0⟩ := ReadsInt.ofRowC w0
 obtain ⟨k, h⟩ := P l0 hm0 y0 hw0
 refine (laws_FnOutvoted.calls k _ _ l0 true w ⟨rfl⟩ (Kd.C_of_reads (d := (0 : Int)) (h1 := fun _ => rfl) hr0) hc0 h).mono ?_
 rintro e w' ⟨rfl, hd⟩
 exact ⟨rfl, hd⟩

end Go.Proofs.Ythaoloacbbohlaa.PFnOutvoted
