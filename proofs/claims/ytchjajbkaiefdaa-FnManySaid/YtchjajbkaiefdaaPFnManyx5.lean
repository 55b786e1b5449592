-- Written by a program of this workplace (wip/mp.py) out of the translation.
import Derived.Test.YtchjajbkaiefdaaPFnManyx0
import Derived.Test.YtchjajbkaiefdaaPFnManyx1
namespace Go.Proofs.Ytchjajbkaiefdaa.PFnMany
open Go.RowKit Go.Proofs.YtchjajbkaiefdaaW.PrintWords Go.Proofs.YtchjajbkaiefdaaW.PrintLast Go.Proofs.YtchjajbkaiefdaaW.PrintMore Go.Proofs.Ytchjajbkaiefdaa.Slim
attribute [local go_sem] max2_int min2_int max_two min_two max_three min_three max_four min_four   -- for this text's walks alone
set_option maxHeartbeats 8000000
set_option maxRecDepth 100000
set_option linter.unusedVariables false
set_option linter.unusedSimpArgs false

/-! ### impl_placesOk: function 89 -/
def impl_placesOk.l0 : Nat → List Int → Int → List Int → Int → Int → Option (Bool)
 | 0, _, _, _, _, _ => none
 | k + 1, x0, x1, x7, x8, x9 => if x9 < x8 then (if 0 ≤ x9 then (if x9 < (x7.length : Int) then ((impl_in.f (rd x7 x9) 0 (wrap64 (x1 - 1))).bind fun t266 => (if t266 = true then (if x9 > 0 then (if 0 ≤ (wrap64 (x9 - 1)) then (if (wrap64 (x9 - 1)) < (x0.length : Int) then (if (rd x0 (wrap64 (x9 - 1))) ≥ (rd x7 x9) then (some false) else (impl_placesOk.l0 k x0 x1 x7 x8 (wrap64 (x9 + 1)))) else (none)) else (none)) else (impl_placesOk.l0 k x0 x1 x7 x8 (wrap64 (x9 + 1)))) else (some false))) else (none)) else (none)) else (some (decide ((x0.length : Int) > 0)))
def impl_placesOk.f (k : Nat) (l0 : List Int) (a1 : Int) : Option (Bool) := impl_placesOk.l0 k l0 a1 l0 (l0.length : Int) 0
theorem impl_placesOk.calls (k : Nat) (A0 : Option Addr) (c0 : Nat) (l0 : List Int) (a1 : Int) (r : Bool) (w : World) (hr0 : Kd.C (Kd.int .i64) w A0 l0.length l0) (hc0 : l0.length ≤ c0) (h : impl_placesOk.f k l0 a1 = some r) :
  Calls Try.prog 89 #[.slice A0 l0.length c0, .int .i64 a1] w fun e w' => e = .returned (.bool r) ∧ Drawn0 w w' := by
 have HR0 := am hr0
 have HC0 := am hc0
 clear hr0 hc0
 have H : (impl_placesOk.l0 k l0 a1 l0 (l0.length : Int) 0) = some r := h
 clear h
 have H' := am H
 clear H
 go_enter Try.func89, Try.ntmps89
 go_wp2
 go_loopg [9] k (fun kq v9 w' => ∃ (x9_1 : Int), v9 = .int .i64 x9_1 ∧ Aside0 (impl_placesOk.l0 kq l0 a1 l0 (l0.length : Int) x9_1 = some r) ∧ Aside0 (kq ≤ k) ∧ Drawn0 w w')
 case atStart => exact ⟨(0), e0, H', ⟨Nat.le_refl _⟩, by repeat (first | exact Drawn0.refl _ | apply Drawn0.step)⟩
 case round =>
  clear H'
  obtain ⟨x9_1, rfl, HA, HK1, ⟨m1, rfl⟩⟩ := hrel
  cases gk with
  | zero => exact absurd HA.out (by simp [impl_placesOk.l0])
  | succ k1 =>
   have H := HA.out
   clear HA
   simp only [impl_placesOk.l0] at H
   by_cases c3 : x9_1 < (l0.length : Int)
   ·rw [if_pos c3] at H
    have c3b0 : decide (x9_1 < (l0.length : Int)) = true := decide_eq_true c3
    clear c3
    by_cases c4 : 0 ≤ x9_1
    ·rw [if_pos c4] at H
     have c4b0 : decide (0 ≤ x9_1) = true := decide_eq_true c4
     clear c4
     by_cases c5 : x9_1 < (l0.length : Int)
     ·rw [if_pos c5] at H
      have c5b0 : decide (x9_1 < (l0.length : Int)) = true := decide_eq_true c5
      clear c5
      obtain ⟨t266, A6, H⟩ := bm H
      (try dsimp -simprocs only at H)
      by_cases c7 : t266 = true
      ·subst c7
       rw [if_pos rfl] at H
       by_cases c8 : x9_1 > 0
       ·rw [if_pos c8] at H
        have c8b0 : decide (0 < x9_1) = true := decide_eq_true c8
        clear c8
        obtain ⟨ji9, hji9⟩ : ∃ j_ : Int, (wrap64 (x9_1 - 1)) = j_ := ⟨_, rfl⟩
        replace H : (if 0 ≤ (ji9) then (if (ji9) < (l0.length : Int) then (if (rd l0 (ji9)) ≥ (rd l0 x9_1) then (some false) else (impl_placesOk.l0 k1 l0 a1 l0 (l0.length : Int) (wrap64 (x9_1 + 1)))) else (none)) else (none)) = some r := by first | (rw [hji9] at H; exact H) | (simp only [hji9] at H ⊢; exact H)
        (try rw [hji9] at A6)
        have hji9w : (IntKind.i64.wrap (x9_1 - 1)) = ji9 := (i64_w _).trans hji9
        by_cases c10 : 0 ≤ (ji9)
        ·rw [if_pos c10] at H
         have c10b0 : decide (0 ≤ (ji9)) = true := decide_eq_true c10
         clear c10
         by_cases c11 : (ji9) < (l0.length : Int)
         ·rw [if_pos c11] at H
          have c11b0 : decide ((ji9) < (l0.length : Int)) = true := decide_eq_true c11
          clear c11
          by_cases c12 : (rd l0 (ji9)) ≥ (rd l0 x9_1)
          ·rw [if_pos c12] at H
           have c12b0 : decide ((rd l0 x9_1) ≤ (rd l0 (ji9))) = true := decide_eq_true c12
           clear c12
           obtain rfl := Option.some.inj H
           have p265 : 0 ≤ (x9_1 : Int) := of_decide_eq_true asm
           have q265 : x9_1 < (l0.length : Int) := of_decide_eq_true asm
           obtain ⟨ad265, e265, hx265_0⟩ := Kd.at_int HR0.out x9_1 p265 q265
           cases e265
           replace p265 := eq_true p265
           replace q265 := eq_true q265
           go_wp2_with (first | ((with_reducible refine gate_callee (f := 94) rfl ?_); refine goesL_ (some 17) rfl rfl Try.func94 (by kernel_rfl) rfl #[.int .i64 (rd l0 x9_1), .int .i64 0, .int .i64 (wrap64 (a1 - 1))] rfl av ?_; (with_reducible refine (impl_in.calls (rd l0 x9_1) 0 (wrap64 (a1 - 1)) true _ A6.out).mono ?_); rintro e w' ⟨rfl, ⟨nd, rfl⟩⟩; refine ⟨_, rfl, ?_⟩; have p267 : 0 ≤ ((ji9) : Int) := of_decide_eq_true asm; have q267 : (ji9) < (l0.length : Int) := of_decide_eq_true asm; obtain ⟨ad267, e267, hx267_0⟩ := Kd.at_int HR0.out (ji9) p267 q267; obtain rfl : ad265 = ad267 := (by injection e267); replace p267 := eq_true p267; replace q267 := eq_true q267))
           go_ret
           exact ⟨by first | rfl | (simp; done) | (simp only [← hji9] <;> (first | rfl | simp)) | (simp [*]; done), by repeat (first | exact Drawn0.refl _ | apply Drawn0.step)⟩
          ·rw [if_neg c12] at H
           have c12b0 : decide ((rd l0 x9_1) ≤ (rd l0 (ji9))) = false := decide_eq_false c12
           clear c12
           have H' := am H
           clear H
           have p265 : 0 ≤ (x9_1 : Int) := of_decide_eq_true asm
           have q265 : x9_1 < (l0.length : Int) := of_decide_eq_true asm
           obtain ⟨ad265, e265, hx265_0⟩ := Kd.at_int HR0.out x9_1 p265 q265
           cases e265
           replace p265 := eq_true p265
           replace q265 := eq_true q265
           go_wp2_with (first | ((with_reducible refine gate_callee (f := 94) rfl ?_); refine goesL_ (some 17) rfl rfl Try.func94 (by kernel_rfl) rfl #[.int .i64 (rd l0 x9_1), .int .i64 0, .int .i64 (wrap64 (a1 - 1))] rfl av ?_; (with_reducible refine (impl_in.calls (rd l0 x9_1) 0 (wrap64 (a1 - 1)) true _ A6.out).mono ?_); rintro e w' ⟨rfl, ⟨nd, rfl⟩⟩; refine ⟨_, rfl, ?_⟩; have p267 : 0 ≤ ((ji9) : Int) := of_decide_eq_true asm; have q267 : (ji9) < (l0.length : Int) := of_decide_eq_true asm; obtain ⟨ad267, e267, hx267_0⟩ := Kd.at_int HR0.out (ji9) p267 q267; obtain rfl : ad265 = ad267 := (by injection e267); replace p267 := eq_true p267; replace q267 := eq_true q267))
           go_roundg k1
           case measure => have := HK1.out; omega
           case rel => exact ⟨(wrap64 (x9_1 + 1)), e0, H', ⟨by have := HK1.out; omega⟩, by repeat (first | exact Drawn0.refl _ | apply Drawn0.step)⟩
         ·exact nh c11 H
        ·exact nh c10 H
       ·rw [if_neg c8] at H
        have c8b0 : decide (0 < x9_1) = false := decide_eq_false c8
        clear c8
        have H' := am H
        clear H
        have p265 : 0 ≤ (x9_1 : Int) := of_decide_eq_true asm
        have q265 : x9_1 < (l0.length : Int) := of_decide_eq_true asm
        obtain ⟨ad265, e265, hx265_0⟩ := Kd.at_int HR0.out x9_1 p265 q265
        cases e265
        replace p265 := eq_true p265
        replace q265 := eq_true q265
        go_wp2_with (first | ((with_reducible refine gate_callee (f := 94) rfl ?_); refine goesL_ (some 17) rfl rfl Try.func94 (by kernel_rfl) rfl #[.int .i64 (rd l0 x9_1), .int .i64 0, .int .i64 (wrap64 (a1 - 1))] rfl av ?_; (with_reducible refine (impl_in.calls (rd l0 x9_1) 0 (wrap64 (a1 - 1)) true _ A6.out).mono ?_); rintro e w' ⟨rfl, ⟨nd, rfl⟩⟩; refine ⟨_, rfl, ?_⟩))
        go_roundg k1
        case measure => have := HK1.out; omega
        case rel => exact ⟨(wrap64 (x9_1 + 1)), e0, H', ⟨by have := HK1.out; omega⟩, by repeat (first | exact Drawn0.refl _ | apply Drawn0.step)⟩
      ·replace c7 := Bool.eq_false_iff.mpr c7
       subst c7
       rw [if_neg nft] at H
       obtain rfl := Option.some.inj H
       have p265 : 0 ≤ (x9_1 : Int) := of_decide_eq_true asm
       have q265 : x9_1 < (l0.length : Int) := of_decide_eq_true asm
       obtain ⟨ad265, e265, hx265_0⟩ := Kd.at_int HR0.out x9_1 p265 q265
       cases e265
       replace p265 := eq_true p265
       replace q265 := eq_true q265
       go_wp2_with (first | ((with_reducible refine gate_callee (f := 94) rfl ?_); refine goesL_ (some 17) rfl rfl Try.func94 (by kernel_rfl) rfl #[.int .i64 (rd l0 x9_1), .int .i64 0, .int .i64 (wrap64 (a1 - 1))] rfl av ?_; (with_reducible refine (impl_in.calls (rd l0 x9_1) 0 (wrap64 (a1 - 1)) false _ A6.out).mono ?_); rintro e w' ⟨rfl, ⟨nd, rfl⟩⟩; refine ⟨_, rfl, ?_⟩))
       go_ret
       exact ⟨e0, by repeat (first | exact Drawn0.refl _ | apply Drawn0.step)⟩
     ·exact nh c5 H
    ·exact nh c4 H
   ·rw [if_neg c3] at H
    have c3b0 : decide (x9_1 < (l0.length : Int)) = false := decide_eq_false c3
    clear c3
    obtain rfl := Option.some.inj H
    go_wp2
    go_ret
    exact ⟨e0, by repeat (first | exact Drawn0.refl _ | apply Drawn0.step)⟩

/-! ### slices_Index_int_int: function 121 -/
def slices_Index_int_int.l0 : Nat → List Int → Int → Int → Int → Option (Int)
 | 0, _, _, _, _ => none
 | k + 1, x0, x1, x7, x8 => if x8 < x7 then (if 0 ≤ x8 then (if x8 < (x0.length : Int) then (if x1 = (rd x0 x8) then (some x8) else (slices_Index_int_int.l0 k x0 x1 x7 (wrap64 (x8 + 1)))) else (none)) else (none)) else (some (-1))
def slices_Index_int_int.f (k : Nat) (l0 : List Int) (a1 : Int) : Option (Int) := slices_Index_int_int.l0 k l0 a1 (l0.length : Int) 0
theorem slices_Index_int_int.calls (k : Nat) (A0 : Option Addr) (c0 : Nat) (l0 : List Int) (a1 : Int) (r : Int) (w : World) (hr0 : Kd.C (Kd.int .i64) w A0 l0.length l0) (hc0 : l0.length ≤ c0) (h : slices_Index_int_int.f k l0 a1 = some r) :
  Calls Try.prog 121 #[.slice A0 l0.length c0, .int .i64 a1] w fun e w' => e = .returned (.int .i64 r) ∧ Drawn0 w w' := by
 have HR0 := am hr0
 have HC0 := am hc0
 clear hr0 hc0
 have H : (slices_Index_int_int.l0 k l0 a1 (l0.length : Int) 0) = some r := h
 clear h
 have H' := am H
 clear H
 go_enter Try.func121, Try.ntmps121
 go_wp2
 go_loopg [8] k (fun kq v8 w' => ∃ (x8_1 : Int), v8 = .int .i64 x8_1 ∧ Aside0 (slices_Index_int_int.l0 kq l0 a1 (l0.length : Int) x8_1 = some r) ∧ Aside0 (kq ≤ k) ∧ Drawn0 w w')
 case atStart => exact ⟨(0), e0, H', ⟨Nat.le_refl _⟩, by repeat (first | exact Drawn0.refl _ | apply Drawn0.step)⟩
 case round =>
  clear H'
  obtain ⟨x8_1, rfl, HA, HK1, ⟨m1, rfl⟩⟩ := hrel
  cases gk with
  | zero => exact absurd HA.out (by simp [slices_Index_int_int.l0])
  | succ k1 =>
   have H := HA.out
   clear HA
   simp only [slices_Index_int_int.l0] at H
   by_cases c3 : x8_1 < (l0.length : Int)
   ·rw [if_pos c3] at H
    have c3b0 : decide (x8_1 < (l0.length : Int)) = true := decide_eq_true c3
    clear c3
    by_cases c4 : 0 ≤ x8_1
    ·rw [if_pos c4] at H
     have c4b0 : decide (0 ≤ x8_1) = true := decide_eq_true c4
     clear c4
     by_cases c5 : x8_1 < (l0.length : Int)
     ·rw [if_pos c5] at H
      have c5b0 : decide (x8_1 < (l0.length : Int)) = true := decide_eq_true c5
      clear c5
      by_cases c6 : a1 = (rd l0 x8_1)
      ·rw [if_pos c6] at H
       have c6b0 : (a1 == (rd l0 x8_1)) = true := beq_iff_eq.mpr c6
       have c6b1 : (a1 != (rd l0 x8_1)) = false := bne_eq_false_iff_eq.mpr c6
       clear c6
       obtain rfl := Option.some.inj H
       have p268 : 0 ≤ (x8_1 : Int) := of_decide_eq_true asm
       have q268 : x8_1 < (l0.length : Int) := of_decide_eq_true asm
       obtain ⟨ad268, e268, hx268_0⟩ := Kd.at_int HR0.out x8_1 p268 q268
       cases e268
       replace p268 := eq_true p268
       replace q268 := eq_true q268
       go_wp2
       go_ret
       exact ⟨e0, by repeat (first | exact Drawn0.refl _ | apply Drawn0.step)⟩
      ·rw [if_neg c6] at H
       have c6b0 : (a1 == (rd l0 x8_1)) = false := beq_eq_false_iff_ne.mpr c6
       have c6b1 : (a1 != (rd l0 x8_1)) = true := bne_iff_ne.mpr c6
       have H' := am H
       clear H
       have p268 : 0 ≤ (x8_1 : Int) := of_decide_eq_true asm
       have q268 : x8_1 < (l0.length : Int) := of_decide_eq_true asm
       obtain ⟨ad268, e268, hx268_0⟩ := Kd.at_int HR0.out x8_1 p268 q268
       cases e268
       replace p268 := eq_true p268
       replace q268 := eq_true q268
       go_wp2
       go_roundg k1
       case measure => have := HK1.out; omega
       case rel => exact ⟨(wrap64 (x8_1 + 1)), e0, H', ⟨by have := HK1.out; omega⟩, by repeat (first | exact Drawn0.refl _ | apply Drawn0.step)⟩
     ·exact nh c5 H
    ·exact nh c4 H
   ·rw [if_neg c3] at H
    have c3b0 : decide (x8_1 < (l0.length : Int)) = false := decide_eq_false c3
    clear c3
    obtain rfl := Option.some.inj H
    go_wp2
    go_ret
    exact ⟨e0, by repeat (first | exact Drawn0.refl _ | apply Drawn0.step)⟩

/-! ### slices_Contains_int_int: function 91 -/
def slices_Contains_int_int.f (k : Nat) (l0 : List Int) (a1 : Int) : Option (Bool) := (slices_Index_int_int.f k l0 a1).bind fun t269 => (some (decide (t269 ≥ 0)))
theorem slices_Contains_int_int.calls (k : Nat) (A0 : Option Addr) (c0 : Nat) (l0 : List Int) (a1 : Int) (r : Bool) (w : World) (hr0 : Kd.C (Kd.int .i64) w A0 l0.length l0) (hc0 : l0.length ≤ c0) (h : slices_Contains_int_int.f k l0 a1 = some r) :
  Calls Try.prog 91 #[.slice A0 l0.length c0, .int .i64 a1] w fun e w' => e = .returned (.bool r) ∧ Drawn0 w w' := by
 have HR0 := am hr0
 have HC0 := am hc0
 clear hr0 hc0
 have H : ((slices_Index_int_int.f k l0 a1).bind fun t269 => (some (decide (t269 ≥ 0)))) = some r := h
 clear h
 obtain ⟨t269, A3, H⟩ := bm H
 (try dsimp -simprocs only at H)
 obtain rfl := Option.some.inj H
 go_enter Try.func91, Try.ntmps91
 go_wp2_with (first | ((with_reducible refine gate_callee (f := 121) rfl ?_); refine goesL_ (some 7) rfl rfl Try.func121 (by kernel_rfl) rfl #[.slice A0 l0.length c0, .int .i64 a1] rfl av ?_; (with_reducible refine (slices_Index_int_int.calls k _ _ l0 a1 t269 _ ?side1 ?side2 A3.out).mono ?_); (case side1 => exact cv (HR0.out)); (case side2 => exact HC0.out); rintro e w' ⟨rfl, ⟨nd, rfl⟩⟩; refine ⟨_, rfl, ?_⟩))
 go_ret
 exact ⟨e0, by repeat (first | exact Drawn0.refl _ | apply Drawn0.step)⟩

/-! ### impl_above: function 92 -/
/-- Of each run of alike numbers the first. -/
def compact : List Int → List Int
 | x :: y :: l => if x = y then compact (y :: l) else x :: compact (y :: l)
 | l => l
theorem compact_snoc (l : List Int) (x u : Int) : ∃ v, (l ++ [x]).getD l.length 0 = x ∧ v = compact (l ++ [x]) ∧ compact (l ++ [x, u]) = if x = u then v else v ++ [u] := by
 induction l with
 | nil =>
  refine ⟨[x], rfl, rfl, ?_⟩
  by_cases h : x = u
  ·subst h; simp [compact]
  ·simp [compact, h]
 | cons a l ih =>
  obtain ⟨v, h1, h2, h3⟩ := ih
  refine ⟨_, by simp, rfl, ?_⟩
  cases l with
  | nil =>
   by_cases h : a = x
   ·subst h
    by_cases h4 : a = u
    ·subst h4; simp [compact]
    ·simp [compact, h4]
   ·by_cases h4 : x = u
    ·subst h4; simp [compact, h]
    ·simp [compact, h, h4]
  | cons c l =>
   simp only [List.cons_append] at h2 h3 ⊢
   unfold compact
   by_cases h : a = c
   ·rw [if_pos h, if_pos h, ← h2, h3]
   ·rw [if_neg h, if_neg h, ← h2, h3]
    by_cases h4 : x = u
    ·rw [if_pos h4, if_pos h4]
    ·rw [if_neg h4, if_neg h4]; rfl
theorem take_two (xs : List Int) (m : Nat) (h : m + 1 < xs.length) : xs.take (m + 2) = xs.take m ++ [xs.getD m 0, xs.getD (m + 1) 0] ∧ xs.take (m + 1) = xs.take m ++ [xs.getD m 0] := by
 have e1 : xs.take (m + 1) = xs.take m ++ [xs.getD m 0] := by
  rw [List.take_succ_eq_append_getElem (by omega), List.getD_eq_getElem?_getD, List.getElem?_eq_getElem (by omega)]; rfl
 have e2 : xs.take (m + 2) = xs.take (m + 1) ++ [xs.getD (m + 1) 0] := by
  rw [List.take_succ_eq_append_getElem (by omega), List.getD_eq_getElem?_getD, List.getElem?_eq_getElem (by omega)]; rfl
 refine ⟨?_, e1⟩
 rw [e2, e1, List.append_assoc]
 rfl
theorem compact_take (xs : List Int) (m : Nat) (h : m + 1 < xs.length) : compact (xs.take (m + 2)) = if xs.getD (m + 1) 0 = xs.getD m 0 then compact (xs.take (m + 1)) else compact (xs.take (m + 1)) ++ [xs.getD (m + 1) 0] := by
 obtain ⟨e1, e2⟩ := take_two xs m h
 obtain ⟨v, _, h2, h3⟩ := compact_snoc (xs.take m) (xs.getD m 0) (xs.getD (m + 1) 0)
 rw [e1, e2, h3, h2]
 by_cases h4 : xs.getD m 0 = xs.getD (m + 1) 0
 ·rw [if_pos h4, if_pos h4.symm]
 ·rw [if_neg h4, if_neg (fun e => h4 e.symm)]
/-- No two neighbours among the first are alike. -/
theorem compact_none (xs : List Int) : ∀ m : Nat, m + 1 ≤ xs.length → (∀ j, j + 1 ≤ m → xs.getD (j + 1) 0 ≠ xs.getD j 0) → compact (xs.take (m + 1)) = xs.take (m + 1) := by
 intro m
 induction m with
 | zero =>
  intro h _
  match xs, h with
  | x :: xs, _ => rfl
 | succ m ih =>
  intro h hn
  rw [compact_take xs m (by omega), if_neg (hn m (by omega)), ih (by omega) (fun j hj => hn j (by omega))]
  obtain ⟨e1, e2⟩ := take_two xs m (by omega)
  rw [e1, e2, List.append_assoc]
  rfl
theorem compact_short {xs : List Int} (h : xs.length < 2) : compact xs = xs := by
 match xs, h with
 | [], _ => rfl
 | [x], _ => rfl
theorem wrap_small {z : Int} (h0 : 0 ≤ z) (h1 : z ≤ 9223372036854775807) : IntKind.i64.wrap z = z := by
 rw [IntKind.wrap_i64]
 omega
theorem cell_R {w : World} {base g n cap : Nat} {ok : Nat → Prop} {xs : List Int} (h : (Kd.int .i64).R 3 w base ok (.slice (some ⟨g, 0, none⟩) n cap) xs) (i : Nat) (hi : i < xs.length) :
  w.cell? ⟨g, i, none⟩ = some (.int .i64 (xs.getD i 0)) ∧ w.frozen? ⟨g, i, none⟩ = false := by
 obtain ⟨g', cap', hv, hb, hl, cells, hc⟩ := Kd.R_form h (by omega)
 injection hv with hv1 hv2 hv3
 injection hv1 with hv1
 injection hv1 with hv1
 subst hv1
 obtain ⟨_, _, hC⟩ := Kd.R_reads' h
 obtain ⟨ad, c, e, hlen, hK, hcell⟩ := ReadsRow.get_ hC (0 : Int) (i : Int) (Int.natCast_nonneg i) (by omega)
 injection e with e
 subst e
 have hK' : c = [.int .i64 (xs.getD i 0)] := by
  rw [Int.toNat_natCast] at hK
  exact hK
 subst hK'
 have h4 := hcell 0 _ rfl
 refine ⟨?_, blk_frozen hc i⟩
 rw [Int.toNat_natCast] at h4
 have e1 : (Addr.mk g 0 none).add (i * (Kd.int .i64).sz + 0) = ⟨g, i, none⟩ := by
  have e2 : i * (Kd.int .i64).sz + 0 = i := Nat.mul_one i
  rw [e2]
  cases i <;> simp [Addr.add]
 rw [e1] at h4
 exact h4
theorem R_setCells {base g cap n : Nat} {ok : Nat → Prop} {w0 : World} (hg : base ≤ g) (m : Nat) : ∀ (w : World) (xs : List Int) (i : Nat), (Kd.int .i64).R 3 w base ok (.slice (some ⟨g, 0, none⟩) n cap) xs → Below base w0 w →
  ∃ ys, (Kd.int .i64).R 3 (w.setCells g i (List.replicate m (.int .i64 0))) base ok (.slice (some ⟨g, 0, none⟩) n cap) ys ∧ ys.take i = xs.take i ∧ ys.length = xs.length ∧ Below base w0 (w.setCells g i (List.replicate m (.int .i64 0))) := by
 induction m with
 | zero => intro w xs i h hb; exact ⟨xs, h, rfl, rfl, hb⟩
 | succ m ih =>
  intro w xs i h hb
  have h1 := Kd.R_putn h ((i : Nat) : Int) (0 : Int)
  rw [Int.toNat_natCast] at h1
  obtain ⟨ys, h2, h3, h4, h5⟩ := ih (w.setCell ⟨g, i, none⟩ (.int .i64 0)) (xs.set i 0) (i + 1) h1 (hb.setCell hg _)
  refine ⟨ys, h2, ?_, by rw [h4, List.length_set], h5⟩
  have h6 := congrArg (List.take i) h3
  rw [List.take_take, List.take_take, Nat.min_eq_left (by omega), List.take_set] at h6
  rw [h6]
  exact List.set_eq_of_length_le (by rw [List.length_take]; omega)
theorem take_put (ys : List Int) (k : Nat) (a : Int) (h : k < ys.length) : (ys.set k a).take (k + 1) = ys.take k ++ [a] := by
 rw [List.take_succ_eq_append_getElem (by rw [List.length_set]; exact h), List.getElem_set_self, List.take_set, List.set_eq_of_length_le (by rw [List.length_take]; omega)]
set_option maxHeartbeats 4000000 in
set_option maxRecDepth 100000 in
theorem compact_walk (g cap n base : Nat) (ok : Nat → Prop) (xs : List Int) (w0 w : World) (hr : (Kd.int .i64).R 3 w base ok (.slice (some ⟨g, 0, none⟩) n cap) xs) (hn : n = xs.length) (hm : n ≤ 1000000) (hc : n ≤ cap) (hB : Below base w0 w) (hg : base ≤ g) :
  Calls Try.prog 122 #[.slice (some ⟨g, 0, none⟩) n cap] w fun e w' => e = .returned (.slice (some ⟨g, 0, none⟩) (compact xs).length cap) ∧ (Kd.int .i64).R 3 w' base ok (.slice (some ⟨g, 0, none⟩) (compact xs).length cap) (compact xs) ∧ Below base w0 w' := by
 have HR := am hr
 have HB := am hB
 have HN := am hn
 have HM := am hm
 have HC := am hc
 clear hr hB hn hm hc
 by_cases h2 : n < 2
 ·have c2 : decide (n < 2) = true := decide_eq_true h2
  have c3 : decide ((n : Int) < 2) = true := decide_eq_true (by omega)
  have e : compact xs = xs := compact_short (by have := HN.out; omega)
  rw [e]
  clear h2 e
  go_enter Try.func122, Try.ntmps122
  go_wp2
  go_ret
  exact ⟨by rw [HN.out]; rfl, by have h := HR.out; rw [HN.out] at h; exact h, HB.out⟩
 ·have c2 : decide (n < 2) = false := decide_eq_false h2
  have c3 : decide ((n : Int) < 2) = false := decide_eq_false (by omega)
  have H2 := am h2
  clear h2
  go_enter Try.func122, Try.ntmps122
  go_wp2
  go_loopw [3] (fun i wr => ∃ k : Nat, i = .int .i64 ((k : Int) + 1) ∧ Aside0 (k + 1 ≤ n) ∧ Aside0 (∀ j, j + 1 ≤ k → xs.getD (j + 1) 0 ≠ xs.getD j 0) ∧ Aside0 ((Kd.int .i64).R 3 wr base ok (.slice (some ⟨g, 0, none⟩) n cap) xs) ∧ Aside0 (Below base w0 wr)) (fun i _ => n - (intOf i).toNat)
  case atStart => exact ⟨0, by go_num, ⟨by have := H2.out; omega⟩, ⟨fun j hj => by omega⟩, HR, HB⟩
  case round =>
   obtain ⟨k, rfl, HK, HX, HR1, HB1⟩ := hrel
   have p1 : 0 ≤ (k : Int) := Int.natCast_nonneg k
   have p2 : (k : Int) ≤ 1000000 := by have := HK.out; have := HM.out; omega
   have p3 : 0 ≤ (k : Int) + 1 := by omega
   have p4 : IntKind.i64.wrap (k : Int) = (k : Int) := wrap_small p1 (by omega)
   by_cases hlt : k + 1 < n
   ·have d1 : decide ((k : Int) + 1 < (n : Int)) = true := decide_eq_true (by omega)
    have q1 : (k : Int) + 1 < (n : Int) := by omega
    have q2 : (k : Int) < (n : Int) := by omega
    have HL := am hlt
    obtain ⟨x1, f1⟩ := cell_R HR1.out (k + 1) (by have := HN.out; omega)
    obtain ⟨x0, f0⟩ := cell_R HR1.out k (by have := HN.out; omega)
    clear hlt
    obtain ⟨u, hu⟩ : ∃ u, u = xs.getD (k + 1) 0 := ⟨_, rfl⟩
    obtain ⟨v, hv⟩ : ∃ v, v = xs.getD k 0 := ⟨_, rfl⟩
    rw [← hu] at x1
    rw [← hv] at x0
    have HU := am hu
    have HV := am hv
    clear hu hv
    by_cases huv : u = v
    ·have e1 : (u == v) = true := beq_iff_eq.mpr huv
     have HE := am huv
     clear huv
     --L2
     have q3 : k + 1 ≤ n := by have := HL.out; omega
     have q4 : k + 1 ≤ cap := by have := HL.out; have := HC.out; omega
     have q5 : (k : Int) + 1 ≤ (n : Int) := by have := HL.out; omega
     have q6 : (k : Int) + 1 ≤ (cap : Int) := by have := HL.out; have := HC.out; omega
     have q7 : ¬ cap = k + 1 := by have := HL.out; have := HC.out; omega
     have q8 : k + 1 < cap := by omega
     have q9 : (k : Int) + 1 < (cap : Int) := by omega
     go_wp2
     go_still (by kernel_rfl)
     go_wp2
     clear x0 x1 f0 f1
     go_loopw [3, 5] (fun s i wr => ∃ (kk j : Nat) (ys : List Int), s = .int .i64 ((kk : Int) + 1) ∧ i = .int .i64 ((j : Int) + 1) ∧ Aside0 (k + j + 2 ≤ n) ∧ Aside0 (kk ≤ k + j) ∧ Aside0 (ys.length = n) ∧ Aside0 (ys.take (kk + 1) = compact (xs.take (k + j + 2))) ∧ Aside0 (∀ a, kk + 1 ≤ a → ys.getD a 0 = xs.getD a 0) ∧ Aside0 ((Kd.int .i64).R 3 wr base ok (.slice (some ⟨g, 0, none⟩) n cap) ys) ∧ Aside0 (Below base w0 wr)) (fun _ i _ => n - (intOf i).toNat)
     case atStart =>
      refine ⟨k, 0, xs, rfl, by go_num, ⟨HL.out⟩, ⟨Nat.le_refl _⟩, ⟨HN.out.symm⟩, ⟨?_⟩, ⟨fun a _ => rfl⟩, ⟨Kd.R_drew HR1.out⟩, ⟨below_drew HB1.out⟩⟩
      have hL := HL.out
      have hN := HN.out
      rw [show k + 0 + 2 = k + 2 from rfl, compact_take xs k (by omega), if_pos (by rw [← HU.out, ← HV.out]; exact HE.out), compact_none xs k (by omega) HX.out]
     case round =>
      obtain ⟨kk, j, ys, rfl, rfl, HJ, HKK, HYL, HT, HH, HR2, HB2⟩ := hrel
      have r1 : 0 ≤ (j : Int) := Int.natCast_nonneg j
      have r2 : (j : Int) ≤ 1000000 := by have := HJ.out; have := HM.out; omega
      have r3 : 0 ≤ (j : Int) + 1 := by omega
      have r4 : IntKind.i64.wrap (j : Int) = (j : Int) := wrap_small r1 (by omega)
      have s1 : 0 ≤ (kk : Int) := Int.natCast_nonneg kk
      have s2 : (kk : Int) ≤ 1000000 := by have := HKK.out; have := HJ.out; have := HM.out; omega
      have s3 : 0 ≤ (kk : Int) + 1 := by omega
      by_cases hlt : k + j + 2 < n
      ·have d2 : decide ((j : Int) + 1 < ((n - (k + 1) : Nat) : Int)) = true := decide_eq_true (by omega)
       have t1 : (j : Int) + 1 < ((n - (k + 1) : Nat) : Int) := by omega
       have t2 : (j : Int) < ((n - (k + 1) : Nat) : Int) := by omega
       have t3 : (kk : Int) + 1 < (n : Int) := by have := HKK.out; omega
       have HLT := am hlt
       obtain ⟨x1, f1⟩ := cell_R HR2.out (k + 1 + (j + 1)) (by have := HYL.out; omega)
       obtain ⟨x0, f0⟩ := cell_R HR2.out (k + 1 + j) (by have := HYL.out; omega)
       obtain ⟨xk, fk⟩ := cell_R HR2.out (kk + 1) (by have := HYL.out; have := HKK.out; omega)
       rw [HH.out _ (by have := HKK.out; omega)] at x1 x0
       clear hlt
       obtain ⟨a, ha⟩ : ∃ a, a = xs.getD (k + 1 + (j + 1)) 0 := ⟨_, rfl⟩
       obtain ⟨b, hb⟩ : ∃ b, b = xs.getD (k + 1 + j) 0 := ⟨_, rfl⟩
       obtain ⟨d, hd⟩ : ∃ d, d = ys.getD (kk + 1) 0 := ⟨_, rfl⟩
       rw [← ha] at x1
       rw [← hb] at x0
       rw [← hd] at xk
       have HA := am ha
       have HBB := am hb
       clear ha hb hd
       by_cases hab : a = b
       ·have e2 : (a != b) = false := bne_eq_false_iff_eq.mpr hab
        have HE2 := am hab
        clear hab
        go_wp2
        go_still (by kernel_rfl)
        go_wp2
        go_roundw
        case rel =>
         refine ⟨kk, j + 1, ys, rfl, by go_num, ⟨by have := HLT.out; omega⟩, ⟨by have := HKK.out; omega⟩, HYL, ⟨?_⟩, HH, ⟨Kd.R_drew HR2.out⟩, ⟨below_drew HB2.out⟩⟩
         have hL := HLT.out
         have hN := HN.out
         have hc := compact_take xs (k + j + 1) (by omega)
         rw [show k + (j + 1) + 2 = k + j + 1 + 2 by omega, hc, if_pos (by have := HE2.out; rw [HA.out, HBB.out] at this; rw [show k + j + 1 + 1 = k + 1 + (j + 1) by omega, show k + j + 1 = k + 1 + j by omega]; exact this)]
         exact HT.out
        case measure => have := HLT.out; simp [intOf]; omega
       ·have e2 : (a != b) = true := bne_iff_ne.mpr hab
        have HE2 := am hab
        clear hab
        go_wp2
        go_still (by kernel_rfl)
        go_wp2
        go_roundw
        case rel =>
         have hL := HLT.out
         have hN := HN.out
         have hK := HKK.out
         have hY := HYL.out
         have h := Kd.R_putn HR2.out ((kk + 1 : Nat) : Int) a
         rw [Int.toNat_natCast] at h
         refine ⟨kk + 1, j + 1, ys.set (kk + 1) a, by go_num, by go_num, ⟨by omega⟩, ⟨by omega⟩, ⟨by rw [List.length_set]; exact hY⟩, ⟨?_⟩, ⟨fun z hz => ?_⟩, ⟨Kd.R_drew h⟩, ⟨below_drew (HB2.out.setCell hg _)⟩⟩
         ·have hc := compact_take xs (k + j + 1) (by omega)
          rw [take_put ys (kk + 1) a (by omega), HT.out, show k + (j + 1) + 2 = k + j + 1 + 2 by omega, hc, if_neg (by have := HE2.out; rw [HA.out, HBB.out] at this; rw [show k + j + 1 + 1 = k + 1 + (j + 1) by omega, show k + j + 1 = k + 1 + j by omega]; exact this), HA.out, show k + j + 1 + 1 = k + 1 + (j + 1) by omega]
         ·rw [List.getD_eq_getElem?_getD, List.getElem?_set_ne (by omega), ← List.getD_eq_getElem?_getD]
          exact HH.out z (by omega)
        case measure => have := HLT.out; simp [intOf]; omega
      ·have d2 : decide ((j : Int) + 1 < ((n - (k + 1) : Nat) : Int)) = false := decide_eq_false (by have := HJ.out; omega)
       have em : k + j + 2 = n := by have := HJ.out; omega
       have t3 : kk + 1 < n := by have := HKK.out; omega
       have t4 : kk + 1 ≤ n := by omega
       have t5 : kk + 1 ≤ cap := by have := HC.out; omega
       have t6 : ¬ cap = kk + 1 := by have := HC.out; omega
       have t7 : (kk : Int) + 1 < (n : Int) := by omega
       have t8 : (kk : Int) + 1 < (cap : Int) := by have := HC.out; omega
       have t9 : (kk : Int) + 1 ≤ (n : Int) := by omega
       have t10 : (kk : Int) + 1 ≤ (cap : Int) := by omega
       have hY := HYL.out
       have hcl : ∀ ty, (Builtin.clear_ #[29] ty #[.slice (some ⟨g, kk + 1, none⟩) (n - (kk + 1)) (cap - (kk + 1))]).run Try.prog wr = .ok (.tuple #[]) (wr.setCells g (kk + 1) (List.replicate (n - (kk + 1)) (.int .i64 0))) := fun ty =>
        Go.Lib.run_clear_slice wr 29 3 ty _ Try.underlying29 Try.zeroValue3 rfl rfl g (kk + 1) _ _ (by omega) (fun z hz => by rw [(cell_R HR2.out (kk + 1 + z) (by omega)).1]; rfl) (fun z hz => (cell_R HR2.out (kk + 1 + z) (by omega)).2)
       have HEM := am em
       have HY2 := am hY
       clear hlt em hY
       go_wp2
       go_ret
       have hT := HT.out
       rw [HEM.out, List.take_of_length_le (l := xs) (by have := HN.out; omega)] at hT
       have hlen : (compact xs).length = kk + 1 := by
        rw [← hT, List.length_take, HY2.out]
        omega
       obtain ⟨zs, z1, z2, z3, z4⟩ := R_setCells hg (n - (kk + 1)) wr ys (kk + 1) HR2.out HB2.out
       have z5 := Kd.R_take z1 (m := kk + 1) (by rw [z3, HY2.out]; omega)
       rw [z2, hT] at z5
       rw [hlen]
       exact ⟨rfl, z5, z4⟩
    ·have e1 : (u == v) = false := beq_eq_false_iff_ne.mpr huv
     have HE := am huv
     clear huv
     go_wp2
     go_still (by kernel_rfl)
     go_wp2
     go_roundw
     case rel =>
      refine ⟨k + 1, by go_num, ⟨HL.out⟩, ⟨fun j hj => ?_⟩, ⟨Kd.R_drew HR1.out⟩, ⟨below_drew HB1.out⟩⟩
      by_cases e : j = k
      ·subst e
       have := HE.out
       rw [HU.out, HV.out] at this
       exact this
      ·exact HX.out j (by omega)
     case measure => have := HL.out; simp [intOf]; omega
   ·have d1 : decide ((k : Int) + 1 < (n : Int)) = false := decide_eq_false (by omega)
    have ek : k + 1 = n := by have := HK.out; omega
    have hc := compact_none xs k (by have := HN.out; omega) HX.out
    rw [List.take_of_length_le (by have := HN.out; omega)] at hc
    have HCE := am hc
    clear hlt ek hc
    go_wp2
    go_ret
    exact ⟨by rw [HCE.out, HN.out]; rfl, by have h := HR1.out; rw [HCE.out]; rw [HN.out] at h; exact h, HB1.out⟩
set_option maxHeartbeats 4000000 in
theorem compact_small (A : Option Addr) (n cap : Nat) (w : World) (hn : n < 2) : Calls Try.prog 122 #[.slice A n cap] w fun e w' => e = .returned (.slice A n cap) ∧ w' = w := by
 have c2 : decide (n < 2) = true := decide_eq_true hn
 have c3 : decide ((n : Int) < 2) = true := decide_eq_true (by omega)
 clear hn
 go_enter Try.func122, Try.ntmps122
 go_wp2
 go_ret
 exact ⟨rfl, rfl⟩
def half (x : Int) : Int := wrap64 (Int.tdiv x 2)
def impl_above.f (l0 : List Int) : Option (List Int) := if l0.length ≤ 1000000 then some (compact (l0.map half)) else none
theorem lit0' (w : World) : Kd.R (Kd.int .i64) 3 (w.alloc (.cells #[] 3)) w.heap.size (fun _ => True) (.slice (some ⟨w.heap.size, 0, none⟩) 0 0) [] := by
 refine ⟨fun _ _ => trivial, [], ?_, Reps.none _ _⟩
 have h2 := World.ownsRow_lit (base := w.heap.size) (e := 3) (size := (Kd.int .i64).sz) w (#[] : Array Value) 0 (Nat.le_refl _) (by simp) (by simp)
 exact h2
set_option maxHeartbeats 4000000 in
set_option maxRecDepth 100000 in
theorem impl_above.calls (A0 : Option Addr) (c0 : Nat) (l0 : List Int) (r : List Int) (w : World) (hr0 : Kd.C (Kd.int .i64) w A0 l0.length l0) (hc0 : l0.length ≤ c0) (h : impl_above.f l0 = some r) :
  Calls Try.prog 92 #[.slice A0 l0.length c0] w fun e w' => ∃ v0_ : Value, e = .returned v0_ ∧ Kd.R (Kd.int .i64) 3 w' w.heap.size (fun _ => True) v0_ r ∧ Below w.heap.size w w' := by
 unfold impl_above.f at h
 by_cases hs : l0.length ≤ 1000000
 ·rw [if_pos hs] at h
  have hr := Option.some.inj h
  have HR := am hr
  have HC := am hr0
  have HS := am hs
  clear h hs hr hr0
  go_enter Try.func92, Try.ntmps92
  go_wp2
  have HR0 := am (lit0' w)
  have HB0 := am (below_alloc (Below.refl w.heap.size w) (.cells #[] 3))
  go_loopw [3, 9] (fun v i wr => ∃ k : Nat, i = .int .i64 k ∧ Aside0 (k ≤ l0.length) ∧ Aside0 (Below w.heap.size w wr) ∧ Aside0 (Kd.R (Kd.int .i64) 3 wr w.heap.size (fun _ => True) v ((l0.take k).map half))) (fun _ i _ => l0.length - (intOf i).toNat)
  case atStart => exact ⟨0, rfl, ⟨Nat.zero_le _⟩, HB0, HR0⟩
  case round =>
   obtain ⟨k, rfl, HK, HB1, HR1⟩ := hrel
   have p1 : 0 ≤ (k : Int) := Int.natCast_nonneg k
   have p2 : (k : Int) ≤ 1000000 := by have := HK.out; have := HS.out; omega
   by_cases hlt : k < l0.length
   ·have c0' : decide (k < l0.length) = true := decide_eq_true hlt
    have c1' : decide ((k : Int) < (l0.length : Int)) = true := decide_eq_true (by omega)
    have q1 : (k : Int) < (l0.length : Int) := by omega
    have HL := am hlt
    obtain ⟨ad, c, e, hlen, hK, hcell⟩ := ReadsRow.get_ (Kd.C_below HC.out HB1.out) (0 : Int) (k : Int) p1 q1
    cases e
    have hK' : c = [.int .i64 (l0.getD k 0)] := by
     rw [Int.toNat_natCast] at hK
     exact hK
    subst hK'
    have hx := hcell 0 _ rfl
    have e1 : k * (Kd.int .i64).sz + 0 = k := Nat.mul_one k
    rw [Int.toNat_natCast, e1] at hx
    have et : (l0.take (k + 1)).map half = (l0.take k).map half ++ [half (l0.getD k 0)] := by
     rw [List.take_succ_eq_append_getElem hlt, List.map_append, List.getD_eq_getElem?_getD, List.getElem?_eq_getElem hlt]
     rfl
    have HT := am et
    have HYL : Aside0 (((l0.take k).map half).length = k) := ⟨by rw [List.length_map, List.length_take]; omega⟩
    clear hlen hK hcell e1 et hlt
    generalize l0.getD k 0 = x at hx HT
    generalize (l0.take k).map half = ys at HR1 HT HYL
    have hz : decide ((2 : Int) = 0) = false := by decide
    go_wp2_with (at_builtin; refine Kd.R_append (Kd.int .i64) (w0 := w) w.heap.size rfl (.tmp 13) (.tmp 16) 29 3 (.int .i64 0) 8 rfl Try.underlying29 info3 rfl (by decide) (by omega) _ ys (half x) [.int .i64 (half x)] (fun _ => True) (fun _ => False) rfl rfl rfl (fun _ hk => hk.elim) (fun _ _ => trivial) HR1.out HB1.out HB1.out.size (by have := HYL.out; have := HL.out; have := HS.out; omega) ?_; intro v1 w5 ho hb hg hat; have HR2 := am ho; have HB2 := am hb; clear ho hb hg hat)
    go_roundw
    case rel => exact ⟨k + 1, by go_num, ⟨HL.out⟩, HB2, ⟨by rw [HT.out]; exact HR2.out⟩⟩
    case measure => have := HL.out; simp [intOf]; omega
   ·have c0' : decide (k < l0.length) = false := decide_eq_false hlt
    have c1' : decide ((k : Int) < (l0.length : Int)) = false := decide_eq_false (by omega)
    have ek : k = l0.length := Nat.le_antisymm HK.out (Nat.le_of_not_lt hlt)
    subst ek
    have HR3 : Aside0 (Kd.R (Kd.int .i64) 3 wr w.heap.size (fun _ => True) u3 (l0.map half)) := ⟨by have h := HR1.out; rw [List.take_length] at h; exact h⟩
    clear hlt HR1
    generalize hm : l0.map half = ms at HR HR3
    have HML : Aside0 (ms.length = l0.length) := ⟨by rw [← hm, List.length_map]⟩
    clear hm
    by_cases hs2 : l0.length < 2
    ·obtain ⟨A3, c3, hv3⟩ := Kd.R_slice HR3.out
     subst hv3
     have H3 := am (compact_small A3 ms.length c3 wr (by rw [HML.out]; exact hs2))
     have HE : Aside0 (compact ms = ms) := ⟨compact_short (by rw [HML.out]; exact hs2)⟩
     clear hs2
     go_wp2_with (go_at_call 122; refine H3.out.mono ?_; rintro e w' ⟨rfl, rfl⟩)
     go_ret
     exact ⟨_, rfl, by rw [← HR.out, HE.out]; exact HR3.out, HB1.out⟩
    ·obtain ⟨g, cap, hv3, hg, _, _⟩ := Kd.R_form HR3.out (by rw [HML.out]; exact Nat.lt_of_lt_of_le (by decide) (Nat.le_of_not_lt hs2))
     subst hv3
     have H3 := am (compact_walk g cap ms.length w.heap.size (fun _ => True) ms w wr HR3.out rfl (by rw [HML.out]; exact HS.out) (Kd.R_reads' HR3.out).2.1 HB1.out hg)
     clear hs2 hg
     go_wp2_with (go_at_call 122; refine H3.out.mono ?_; rintro e w' ⟨rfl, ho, hb⟩)
     go_ret
     exact ⟨_, rfl, by rw [← HR.out]; exact ho, hb⟩
 ·rw [if_neg hs] at h
  cases h

end Go.Proofs.Ytchjajbkaiefdaa.PFnMany
