-- Written by a program of this workplace (wip/mp.py) out of the translation.
import Derived.Test.YthaoloacbbohlaaPFnExactRecheckx0
import Derived.Test.YthaoloacbbohlaaPFnExactRecheckx1
import Derived.Test.YthaoloacbbohlaaPFnExactRecheckx2
namespace Go.Proofs.Ythaoloacbbohlaa.PFnExactRecheck
open Go.RowKit Go.Proofs.YthaoloacbbohlaaW.PrintWords Go.Proofs.YthaoloacbbohlaaW.PrintLast Go.Proofs.YthaoloacbbohlaaW.PrintMore Go.Proofs.Ythaoloacbbohlaa.Slim
attribute [local go_sem] max2_int min2_int max_two min_two max_three min_three max_four min_four   -- for this text's walks alone
set_option linter.unusedVariables false
set_option linter.unusedSimpArgs false

/-! ### spec_l5At: function 70 -/
mutual
def spec_l5At.j0 : Nat → Int → List Int → Bool → Option (Bool)
 | 0, _, _, _ => none
 | k + 1, x0, x1, x19 => if x19 = true then (some false) else (spec_l5At.l0 k x0 x1 0)
def spec_l5At.l0 : Nat → Int → List Int → Int → Option (Bool)
 | 0, _, _, _ => none
 | k + 1, x0, x1, x7 => if x7 < (x1.length : Int) then (if 0 ≤ x7 then ((spec_l1In.f (rd x1 x7) 0 (wrap64 (x0 - 1))).bind fun t184 => (if t184 = true then (spec_l5At.l1 k x0 x1 x7 0) else (some false))) else (none)) else (some true)
def spec_l5At.l1 : Nat → Int → List Int → Int → Int → Option (Bool)
 | 0, _, _, _, _ => none
 | k + 1, x0, x1, x7, x8 => if x8 < x7 then (if 0 ≤ x8 then (if x8 < (x1.length : Int) then (if 0 ≤ x7 then (if x7 < (x1.length : Int) then (if (rd x1 x8) = (rd x1 x7) then (some false) else (spec_l5At.l1 k x0 x1 x7 (wrap64 (x8 + 1)))) else (none)) else (none)) else (none)) else (none)) else (spec_l5At.l0 k x0 x1 (wrap64 (x7 + 1)))
end
def spec_l5At.f (k : Nat) (a0 : Int) (l1 : List Int) (l2 : List (List Int)) : Option (Bool) := if (l1.length : Int) = (l2.length : Int) then (spec_l5At.j0 k a0 l1 (decide ((l1.length : Int) > a0))) else (spec_l5At.j0 k a0 l1 true)
set_option maxHeartbeats 8000000 in
set_option maxRecDepth 100000 in
theorem spec_l5At.calls (k : Nat) (a0 : Int) (A1 : Option Addr) (c1 : Nat) (l1 : List Int) (A2 : Option Addr) (c2 : Nat) (l2 : List (List Int)) (r : Bool) (w : World) (hr1 : Kd.C (Kd.int .i64) w A1 l1.length l1) (hc1 : l1.length ≤ c1) (hr2 : Kd.C (Kd.slice 5 (Kd.int .u8)) w A2 l2.length l2) (hc2 : l2.length ≤ c2) (h : spec_l5At.f k a0 l1 l2 = some r) :
  Calls Try.prog 70 #[.int .i64 a0, .slice A1 l1.length c1, .slice A2 l2.length c2] w fun e w' => e = .returned (.bool r) ∧ Drawn0 w w' := by
 have HR1 := Aside0.mk hr1
 have HC1 := Aside0.mk hc1
 clear hr1 hc1
 have HR2 := Aside0.mk hr2
 have HC2 := Aside0.mk hc2
 clear hr2 hc2
 have H : (if (l1.length : Int) = (l2.length : Int) then (spec_l5At.j0 k a0 l1 (decide ((l1.length : Int) > a0))) else (spec_l5At.j0 k a0 l1 true)) = some r := h
 clear h
 have HC4 := Aside0.mk H
 clear H
 go_enter Try.func70, Try.ntmps70
 go_upto_region 1 with (fail)
 repeat (go_quiet (fail); go_upto_region 1 with (fail))
 go_cut [19] (fun v19 wc => ∃ (kq : Nat) (x19_3 : Bool), v19 = .bool x19_3 ∧ Aside0 (spec_l5At.j0 kq a0 l1 x19_3 = some r) ∧ Aside0 (kq ≤ k) ∧ Drawn0 w wc)
 case first =>
  have H := HC4.out
  clear HC4
  by_cases c5 : (l1.length : Int) = (l2.length : Int)
  ·rw [if_pos c5] at H
   have c5b0 : ((l1.length : Int) == (l2.length : Int)) = true := beq_iff_eq.mpr c5
   have c5b1 : ((l1.length : Int) != (l2.length : Int)) = false := bne_eq_false_iff_eq.mpr c5
   have c5b2 : (l1.length == l2.length) = true := by first | simpa using c5 | (simp at c5 ⊢; omega)
   clear c5
   (first | rw [c5b0] | (simp only [i64_w, i32_w]; rw [c5b0]) | skip)
   have H' := Aside0.mk H
   clear H
   go_wp2
   repeat (go_quiet (fail); try go_wp2)
   go_meet
   case rel => exact ⟨_, (decide ((l1.length : Int) > a0)), (by first | rfl | (simp; done) | (simp [*]; done)), H', ⟨by first | omega | exact Nat.le_refl _⟩, by repeat (first | exact Drawn0.refl _ | apply Drawn0.step)⟩
  ·rw [if_neg c5] at H
   have c5b0 : ((l1.length : Int) == (l2.length : Int)) = false := beq_eq_false_iff_ne.mpr c5
   have c5b1 : ((l1.length : Int) != (l2.length : Int)) = true := bne_iff_ne.mpr c5
   have c5b2 : (l1.length == l2.length) = false := by first | simpa using c5 | (simp at c5 ⊢; omega)
   (first | rw [c5b0] | (simp only [i64_w, i32_w]; rw [c5b0]) | skip)
   have H' := Aside0.mk H
   clear H
   go_wp2
   repeat (go_quiet (fail); try go_wp2)
   go_meet
   case rel => exact ⟨_, (true), (by first | rfl | (simp; done) | (simp [*]; done)), H', ⟨by first | omega | exact Nat.le_refl _⟩, by repeat (first | exact Drawn0.refl _ | apply Drawn0.step)⟩
 case rest =>
  clear HC4
  try clear c1
  try clear c2
  try clear p2
  try clear c5
  try clear c5b0
  try clear c5b1
  try clear c5b2
  obtain ⟨kq, x19_3, rfl, HA, HJ3, ⟨mc3, rfl⟩⟩ := hcut
  cases kq with
  | zero => exact absurd HA.out (by simp [spec_l5At.j0])
  | succ kj3 =>
   have H := HA.out
   clear HA
   simp only [spec_l5At.j0] at H
   by_cases c6 : x19_3 = true
   ·subst c6
    rw [if_pos rfl] at H
    obtain rfl := Option.some.inj H
    go_wp2
    repeat (go_quiet (fail); try go_wp2)
    go_ret
    exact ⟨by first | rfl | (simp; done) | (simp [*]; done), by repeat (first | exact Drawn0.refl _ | apply Drawn0.step)⟩
   ·replace c6 := Bool.eq_false_iff.mpr c6
    subst c6
    rw [if_neg (show ¬ (false = true) by decide)] at H
    have H' := Aside0.mk H
    clear H
    go_wp2
    repeat (go_quiet (fail); try go_wp2)
    go_loopg [7] kj3 (fun kq v7 w' => ∃ (x7_2 : Int), v7 = .int .i64 x7_2 ∧ Aside0 (spec_l5At.l0 kq a0 l1 x7_2 = some r) ∧ Aside0 (kq ≤ kj3) ∧ Drawn0 w w')
    case atStart => exact ⟨(0), (by first | rfl | (simp; done) | (simp [*]; done)), H', ⟨Nat.le_refl _⟩, by repeat (first | exact Drawn0.refl _ | apply Drawn0.step)⟩
    case round =>
     clear H'
     try clear c1
     try clear c2
     try clear p2
     try clear c3
     try clear c5
     try clear c5b0
     try clear c5b1
     try clear c5b2
     try clear c6
     try clear p2
     obtain ⟨x7_2, rfl, HA, HK2, ⟨m2, rfl⟩⟩ := hrel
     cases gk with
     | zero => exact absurd HA.out (by simp [spec_l5At.l0])
     | succ k2 =>
      have H := HA.out
      clear HA
      simp only [spec_l5At.l0] at H
      by_cases c7 : x7_2 < (l1.length : Int)
      ·rw [if_pos c7] at H
       have c7b0 : decide (x7_2 < (l1.length : Int)) = true := decide_eq_true c7
       clear c7
       by_cases c8 : 0 ≤ x7_2
       ·rw [if_pos c8] at H
        have c8b0 : decide (0 ≤ x7_2) = true := decide_eq_true c8
        clear c8
        replace H := Option.bind_eq_some_iff.mp H
        obtain ⟨t184, A90, H⟩ := H
        (try dsimp -simprocs only at H)
        have A9 := Aside0.mk A90
        clear A90
        by_cases c10 : t184 = true
        ·subst c10
         rw [if_pos rfl] at H
         have H' := Aside0.mk H
         clear H
         have p183 : 0 ≤ (x7_2 : Int) := of_decide_eq_true asm
         have q183 : x7_2 < (l1.length : Int) := of_decide_eq_true asm
         obtain ⟨ad183, e183, hx183_0⟩ := Kd.at_int HR1.out x7_2 p183 q183
         cases e183
         replace p183 := eq_true p183
         replace q183 := eq_true q183
         go_wp2_with (first | (go_at_call 47; (with_reducible refine (spec_l1In.calls (rd l1 x7_2) 0 (wrap64 (a0 - 1)) true _ A9.out).mono ?_); rintro e w' ⟨rfl, ⟨nd, rfl⟩⟩; (try first | exact ⟨rfl, _, World.drewN_drewN _ _ _⟩ | exact ⟨rfl, _, Eq.trans (World.drewN_drewN _ _ _) (congrArg (World.drewN _) (Nat.add_assoc _ _ _))⟩)))
         repeat (go_quiet (first | (go_at_call 47; (with_reducible refine (spec_l1In.calls (rd l1 x7_2) 0 (wrap64 (a0 - 1)) true _ A9.out).mono ?_); rintro e w' ⟨rfl, ⟨nd, rfl⟩⟩; (try first | exact ⟨rfl, _, World.drewN_drewN _ _ _⟩ | exact ⟨rfl, _, Eq.trans (World.drewN_drewN _ _ _) (congrArg (World.drewN _) (Nat.add_assoc _ _ _))⟩))); try go_wp2_with (first | (go_at_call 47; (with_reducible refine (spec_l1In.calls (rd l1 x7_2) 0 (wrap64 (a0 - 1)) true _ A9.out).mono ?_); rintro e w' ⟨rfl, ⟨nd, rfl⟩⟩; (try first | exact ⟨rfl, _, World.drewN_drewN _ _ _⟩ | exact ⟨rfl, _, Eq.trans (World.drewN_drewN _ _ _) (congrArg (World.drewN _) (Nat.add_assoc _ _ _))⟩))))
         go_loopg [8] k2 (fun kq v8 w' => ∃ (x8_3 : Int), v8 = .int .i64 x8_3 ∧ Aside0 (spec_l5At.l1 kq a0 l1 x7_2 x8_3 = some r) ∧ Aside0 (kq ≤ k2) ∧ Drawn0 w w')
         case atStart => exact ⟨(0), (by first | rfl | (simp; done) | (simp [*]; done)), H', ⟨Nat.le_refl _⟩, by repeat (first | exact Drawn0.refl _ | apply Drawn0.step)⟩
         case round =>
          clear H'
          try clear c1
          try clear p1
          try clear q1
          try clear hx1
          try clear c2
          try clear p2
          try clear c3
          try clear c5
          try clear c5b0
          try clear c5b1
          try clear c5b2
          try clear c6
          try clear p6
          try clear c7
          try clear c7b0
          try clear c8
          try clear c8b0
          try clear c10
          try clear hx183_0
          try clear p183
          try clear p2
          try clear q183
          obtain ⟨x8_3, rfl, HA, HK3, ⟨m3, rfl⟩⟩ := hrel
          cases gk with
          | zero => exact absurd HA.out (by simp [spec_l5At.l1])
          | succ k3 =>
           have H := HA.out
           clear HA
           simp only [spec_l5At.l1] at H
           by_cases c11 : x8_3 < x7_2
           ·rw [if_pos c11] at H
            have c11b0 : decide (x8_3 < x7_2) = true := decide_eq_true c11
            clear c11
            by_cases c12 : 0 ≤ x8_3
            ·rw [if_pos c12] at H
             have c12b0 : decide (0 ≤ x8_3) = true := decide_eq_true c12
             clear c12
             by_cases c13 : x8_3 < (l1.length : Int)
             ·rw [if_pos c13] at H
              have c13b0 : decide (x8_3 < (l1.length : Int)) = true := decide_eq_true c13
              clear c13
              by_cases c14 : 0 ≤ x7_2
              ·rw [if_pos c14] at H
               have c14b0 : decide (0 ≤ x7_2) = true := decide_eq_true c14
               clear c14
               by_cases c15 : x7_2 < (l1.length : Int)
               ·rw [if_pos c15] at H
                have c15b0 : decide (x7_2 < (l1.length : Int)) = true := decide_eq_true c15
                clear c15
                by_cases c16 : (rd l1 x8_3) = (rd l1 x7_2)
                ·rw [if_pos c16] at H
                 have c16b0 : ((rd l1 x8_3) == (rd l1 x7_2)) = true := beq_iff_eq.mpr c16
                 have c16b1 : ((rd l1 x8_3) != (rd l1 x7_2)) = false := bne_eq_false_iff_eq.mpr c16
                 clear c16
                 obtain rfl := Option.some.inj H
                 have p185 : 0 ≤ (x8_3 : Int) := of_decide_eq_true asm
                 have q185 : x8_3 < (l1.length : Int) := of_decide_eq_true asm
                 obtain ⟨ad185, e185, hx185_0⟩ := Kd.at_int HR1.out x8_3 p185 q185
                 obtain rfl : ad183 = ad185 := (by injection e185)
                 replace p185 := eq_true p185
                 replace q185 := eq_true q185
                 have p186 : 0 ≤ (x7_2 : Int) := of_decide_eq_true asm
                 have q186 : x7_2 < (l1.length : Int) := of_decide_eq_true asm
                 obtain ⟨ad186, e186, hx186_0⟩ := Kd.at_int HR1.out x7_2 p186 q186
                 obtain rfl : ad183 = ad186 := (by injection e186)
                 replace p186 := eq_true p186
                 replace q186 := eq_true q186
                 go_wp2
                 repeat (go_quiet (fail); try go_wp2)
                 go_ret
                 exact ⟨by first | rfl | (simp; done) | (simp [*]; done), by repeat (first | exact Drawn0.refl _ | apply Drawn0.step)⟩
                ·rw [if_neg c16] at H
                 have c16b0 : ((rd l1 x8_3) == (rd l1 x7_2)) = false := beq_eq_false_iff_ne.mpr c16
                 have c16b1 : ((rd l1 x8_3) != (rd l1 x7_2)) = true := bne_iff_ne.mpr c16
                 have H' := Aside0.mk H
                 clear H
                 have p185 : 0 ≤ (x8_3 : Int) := of_decide_eq_true asm
                 have q185 : x8_3 < (l1.length : Int) := of_decide_eq_true asm
                 obtain ⟨ad185, e185, hx185_0⟩ := Kd.at_int HR1.out x8_3 p185 q185
                 obtain rfl : ad183 = ad185 := (by injection e185)
                 replace p185 := eq_true p185
                 replace q185 := eq_true q185
                 have p186 : 0 ≤ (x7_2 : Int) := of_decide_eq_true asm
                 have q186 : x7_2 < (l1.length : Int) := of_decide_eq_true asm
                 obtain ⟨ad186, e186, hx186_0⟩ := Kd.at_int HR1.out x7_2 p186 q186
                 obtain rfl : ad183 = ad186 := (by injection e186)
                 replace p186 := eq_true p186
                 replace q186 := eq_true q186
                 go_wp2
                 repeat (go_quiet (fail); try go_wp2)
                 go_roundg k3
                 case measure => have := HJ3.out; have := HK2.out; have := HK3.out; omega
                 case rel => exact ⟨(wrap64 (x8_3 + 1)), (by first | rfl | (simp; done) | (simp [*]; done)), H', ⟨by have := HJ3.out; have := HK2.out; have := HK3.out; omega⟩, by repeat (first | exact Drawn0.refl _ | apply Drawn0.step)⟩
               ·rw [if_neg c15] at H
                exact absurd H (by simp)
              ·rw [if_neg c14] at H
               exact absurd H (by simp)
             ·rw [if_neg c13] at H
              exact absurd H (by simp)
            ·rw [if_neg c12] at H
             exact absurd H (by simp)
           ·rw [if_neg c11] at H
            have c11b0 : decide (x8_3 < x7_2) = false := decide_eq_false c11
            clear c11
            have H' := Aside0.mk H
            clear H
            go_wp2
            repeat (go_quiet (fail); try go_wp2)
            go_roundg k3
            case measure => have := HJ3.out; have := HK2.out; have := HK3.out; omega
            case rel => exact ⟨(wrap64 (x7_2 + 1)), (by first | rfl | (simp; done) | (simp [*]; done)), H', ⟨by have := HJ3.out; have := HK2.out; have := HK3.out; omega⟩, by repeat (first | exact Drawn0.refl _ | apply Drawn0.step)⟩
        ·replace c10 := Bool.eq_false_iff.mpr c10
         subst c10
         rw [if_neg (show ¬ (false = true) by decide)] at H
         obtain rfl := Option.some.inj H
         have p183 : 0 ≤ (x7_2 : Int) := of_decide_eq_true asm
         have q183 : x7_2 < (l1.length : Int) := of_decide_eq_true asm
         obtain ⟨ad183, e183, hx183_0⟩ := Kd.at_int HR1.out x7_2 p183 q183
         cases e183
         replace p183 := eq_true p183
         replace q183 := eq_true q183
         go_wp2_with (first | (go_at_call 47; (with_reducible refine (spec_l1In.calls (rd l1 x7_2) 0 (wrap64 (a0 - 1)) false _ A9.out).mono ?_); rintro e w' ⟨rfl, ⟨nd, rfl⟩⟩; (try first | exact ⟨rfl, _, World.drewN_drewN _ _ _⟩ | exact ⟨rfl, _, Eq.trans (World.drewN_drewN _ _ _) (congrArg (World.drewN _) (Nat.add_assoc _ _ _))⟩)))
         repeat (go_quiet (first | (go_at_call 47; (with_reducible refine (spec_l1In.calls (rd l1 x7_2) 0 (wrap64 (a0 - 1)) false _ A9.out).mono ?_); rintro e w' ⟨rfl, ⟨nd, rfl⟩⟩; (try first | exact ⟨rfl, _, World.drewN_drewN _ _ _⟩ | exact ⟨rfl, _, Eq.trans (World.drewN_drewN _ _ _) (congrArg (World.drewN _) (Nat.add_assoc _ _ _))⟩))); try go_wp2_with (first | (go_at_call 47; (with_reducible refine (spec_l1In.calls (rd l1 x7_2) 0 (wrap64 (a0 - 1)) false _ A9.out).mono ?_); rintro e w' ⟨rfl, ⟨nd, rfl⟩⟩; (try first | exact ⟨rfl, _, World.drewN_drewN _ _ _⟩ | exact ⟨rfl, _, Eq.trans (World.drewN_drewN _ _ _) (congrArg (World.drewN _) (Nat.add_assoc _ _ _))⟩))))
         go_ret
         exact ⟨by first | rfl | (simp; done) | (simp [*]; done), by repeat (first | exact Drawn0.refl _ | apply Drawn0.step)⟩
       ·rw [if_neg c8] at H
        exact absurd H (by simp)
      ·rw [if_neg c7] at H
       have c7b0 : decide (x7_2 < (l1.length : Int)) = false := decide_eq_false c7
       clear c7
       obtain rfl := Option.some.inj H
       go_wp2
       repeat (go_quiet (fail); try go_wp2)
       go_ret
       exact ⟨by first | rfl | (simp; done) | (simp [*]; done), by repeat (first | exact Drawn0.refl _ | apply Drawn0.step)⟩

/-! ### spec_l1Same: function 71 -/
def spec_l1Same.f (l0 : List Int) (l1 : List Int) : Option (Bool) := some ((strOfNums l0).toList == (strOfNums l1).toList)
set_option maxHeartbeats 8000000 in
set_option maxRecDepth 100000 in
theorem spec_l1Same.calls (A0 : Option Addr) (c0 : Nat) (l0 : List Int) (A1 : Option Addr) (c1 : Nat) (l1 : List Int) (r : Bool) (w : World) (hr0 : Kd.C (Kd.int .u8) w A0 l0.length l0) (hc0 : l0.length ≤ c0) (hr1 : Kd.C (Kd.int .u8) w A1 l1.length l1) (hc1 : l1.length ≤ c1) (h : spec_l1Same.f l0 l1 = some r) :
  Calls Try.prog 71 #[.slice A0 l0.length c0, .slice A1 l1.length c1] w fun e w' => e = .returned (.bool r) ∧ Drawn0 w w' := by
 have HR0 := Aside0.mk hr0
 have HC0 := Aside0.mk hc0
 clear hr0 hc0
 have HR1 := Aside0.mk hr1
 have HC1 := Aside0.mk hc1
 clear hr1 hc1
 have H : (some ((strOfNums l0).toList == (strOfNums l1).toList)) = some r := h
 clear h
 obtain rfl := Option.some.inj H
 have hcv3 := Kd.C_string (P := Try.prog) (A := A0) (c := c0) Try.underlying24 Try.underlying5 Try.underlying9 HR0.out
 have hcv4 := Kd.C_string (P := Try.prog) (A := A1) (c := c1) Try.underlying24 Try.underlying5 Try.underlying9 HR1.out
 go_enter Try.func71, Try.ntmps71
 go_wp2
 go_ret
 exact ⟨by first | rfl | (simp; done) | (simp [*]; done), by repeat (first | exact Drawn0.refl _ | apply Drawn0.step)⟩

/-! ### spec_Recheck: function 35 -/
mutual
def spec_Recheck.j0 : Nat → List Int → List (List Int) → List (List Int) → Bool → Option (Int × Bool)
 | 0, _, _, _, _ => none
 | k + 1, x3, x4, x12, x30 => if x30 = true then (some ((-2), false)) else (spec_Recheck.l0 k x3 x4 x12 0)
def spec_Recheck.l0 : Nat → List Int → List (List Int) → List (List Int) → Int → Option (Int × Bool)
 | 0, _, _, _, _ => none
 | k + 1, x3, x4, x12, x14 => if x14 < (x3.length : Int) then (if 0 ≤ x14 then (if x14 < (x4.length : Int) then (if 0 ≤ (rd x3 x14) then (if (rd x3 x14) < (x12.length : Int) then ((spec_l1Same.f (rd_L1 x4 x14) (rd_L1 x12 (rd x3 x14))).bind fun t195 => (if t195 = true then (spec_Recheck.l0 k x3 x4 x12 (wrap64 (x14 + 1))) else (some (x14, true)))) else (none)) else (none)) else (none)) else (none)) else (some ((-1), true))
end
def spec_Recheck.f (k : Nat) (a0 : Int) (a1 : Int) (l2 : List Int) (l3 : List Int) (l4 : List (List Int)) : Option (Int × Bool) := (spec_Encode.f k a0 a1 l2).bind fun bt187 => (if bt187.2 = true then ((spec_l5At.f k a1 l3 l4).bind fun t191 => (spec_Recheck.j0 k l3 l4 bt187.1 (!t191))) else (spec_Recheck.j0 k l3 l4 bt187.1 true))
set_option maxHeartbeats 8000000 in
set_option maxRecDepth 100000 in
theorem spec_Recheck.calls (k : Nat) (a0 : Int) (a1 : Int) (A2 : Option Addr) (c2 : Nat) (l2 : List Int) (A3 : Option Addr) (c3 : Nat) (l3 : List Int) (A4 : Option Addr) (c4 : Nat) (l4 : List (List Int)) (r1 : Int) (r2 : Bool) (w : World) (hr2 : Kd.C (Kd.int .u8) w A2 l2.length l2) (hc2 : l2.length ≤ c2) (hr3 : Kd.C (Kd.int .i64) w A3 l3.length l3) (hc3 : l3.length ≤ c3) (hr4 : Kd.C (Kd.slice 5 (Kd.int .u8)) w A4 l4.length l4) (hc4 : l4.length ≤ c4) (h : spec_Recheck.f k a0 a1 l2 l3 l4 = some (r1, r2)) :
  Calls Try.prog 35 #[.int .i64 a0, .int .i64 a1, .slice A2 l2.length c2, .slice A3 l3.length c3, .slice A4 l4.length c4] w fun e w' => e = .returned (.tuple #[.int .i64 r1, .bool r2]) ∧ Below w.heap.size w w' := by
 have HR2 := Aside0.mk hr2
 have HC2 := Aside0.mk hc2
 clear hr2 hc2
 have HR3 := Aside0.mk hr3
 have HC3 := Aside0.mk hc3
 clear hr3 hc3
 have HR4 := Aside0.mk hr4
 have HC4 := Aside0.mk hc4
 clear hr4 hc4
 have HB := Aside0.mk (Below.refl w.heap.size w)
 have H : ((spec_Encode.f k a0 a1 l2).bind fun bt187 => (if bt187.2 = true then ((spec_l5At.f k a1 l3 l4).bind fun t191 => (spec_Recheck.j0 k l3 l4 bt187.1 (!t191))) else (spec_Recheck.j0 k l3 l4 bt187.1 true))) = some (r1, r2) := h
 clear h
 replace H := Option.bind_eq_some_iff.mp H
 obtain ⟨⟨t187, t188⟩, A60, H⟩ := H
 (try dsimp -simprocs only at H)
 have A6 := Aside0.mk A60
 clear A60
 have HC7 := Aside0.mk H
 clear H
 go_enter Try.func35, Try.ntmps35
 go_upto_region 2 with (first | (go_at_call 27; (with_reducible refine (spec_Encode.calls k a0 a1 _ _ l2 t187 t188 _ ?side1 ?side2 A6.out).mono ?_); (case side1 => exact cv (HR2.out)); (case side2 => exact HC2.out); rintro e w8 ⟨v189, rfl, ho0, hb⟩; have HO190 := Aside0.mk (Kd.S_lower ho0 (below_size (bt))); replace HB := Aside0.mk (below_step (bt) hb); (try clear hb); (try clear hb2); (try clear hk); (try clear hi); (try clear ho0)))
 repeat (go_quiet (first | (go_at_call 27; (with_reducible refine (spec_Encode.calls k a0 a1 _ _ l2 t187 t188 _ ?side1 ?side2 A6.out).mono ?_); (case side1 => exact cv (HR2.out)); (case side2 => exact HC2.out); rintro e w8 ⟨v189, rfl, ho0, hb⟩; have HO190 := Aside0.mk (Kd.S_lower ho0 (below_size (bt))); replace HB := Aside0.mk (below_step (bt) hb); (try clear hb); (try clear hb2); (try clear hk); (try clear hi); (try clear ho0))); go_upto_region 2 with (first | (go_at_call 27; (with_reducible refine (spec_Encode.calls k a0 a1 _ _ l2 t187 t188 _ ?side1 ?side2 A6.out).mono ?_); (case side1 => exact cv (HR2.out)); (case side2 => exact HC2.out); rintro e w8 ⟨v189, rfl, ho0, hb⟩; have HO190 := Aside0.mk (Kd.S_lower ho0 (below_size (bt))); replace HB := Aside0.mk (below_step (bt) hb); (try clear hb); (try clear hb2); (try clear hk); (try clear hi); (try clear ho0))))
 (try simp only [Act.put, List.setIfInBounds_toArray, List.set_cons_zero, List.set_cons_succ])
 go_cut [30] (fun v30 wc => ∃ (kq : Nat) (x30_6 : Bool), v30 = .bool x30_6 ∧ Aside0 (spec_Recheck.j0 kq l3 l4 t187 x30_6 = some (r1, r2)) ∧ Aside0 (kq ≤ k) ∧ Aside0 (Kd.S (Kd.slice 5 (Kd.int .u8)) 24 wc w.heap.size (fun _ => True) v189 t187) ∧ Aside0 (Below w.heap.size w wc))
 case first =>
  have H := HC7.out
  clear HC7
  by_cases c9 : t188 = true
  ·subst c9
   rw [if_pos rfl] at H
   replace H := Option.bind_eq_some_iff.mp H
   obtain ⟨t191, A100, H⟩ := H
   (try dsimp -simprocs only at H)
   have A10 := Aside0.mk A100
   clear A100
   have H' := Aside0.mk H
   clear H
   go_wp2_with (first | (go_at_call 70; (with_reducible refine (spec_l5At.calls k a1 _ _ l3 _ _ l4 t191 _ ?side1 ?side2 ?side3 ?side4 A10.out).mono ?_); (case side1 => exact cv ((Kd.C_below HR3.out HB.out))); (case side2 => exact HC3.out); (case side3 => exact cv ((Kd.C_below HR4.out HB.out))); (case side4 => exact HC4.out); rintro e w' ⟨rfl, ⟨nd, rfl⟩⟩; (try first | exact ⟨rfl, _, World.drewN_drewN _ _ _⟩ | exact ⟨rfl, _, Eq.trans (World.drewN_drewN _ _ _) (congrArg (World.drewN _) (Nat.add_assoc _ _ _))⟩)))
   repeat (go_quiet (first | (go_at_call 70; (with_reducible refine (spec_l5At.calls k a1 _ _ l3 _ _ l4 t191 _ ?side1 ?side2 ?side3 ?side4 A10.out).mono ?_); (case side1 => exact cv ((Kd.C_below HR3.out HB.out))); (case side2 => exact HC3.out); (case side3 => exact cv ((Kd.C_below HR4.out HB.out))); (case side4 => exact HC4.out); rintro e w' ⟨rfl, ⟨nd, rfl⟩⟩; (try first | exact ⟨rfl, _, World.drewN_drewN _ _ _⟩ | exact ⟨rfl, _, Eq.trans (World.drewN_drewN _ _ _) (congrArg (World.drewN _) (Nat.add_assoc _ _ _))⟩))); try go_wp2_with (first | (go_at_call 70; (with_reducible refine (spec_l5At.calls k a1 _ _ l3 _ _ l4 t191 _ ?side1 ?side2 ?side3 ?side4 A10.out).mono ?_); (case side1 => exact cv ((Kd.C_below HR3.out HB.out))); (case side2 => exact HC3.out); (case side3 => exact cv ((Kd.C_below HR4.out HB.out))); (case side4 => exact HC4.out); rintro e w' ⟨rfl, ⟨nd, rfl⟩⟩; (try first | exact ⟨rfl, _, World.drewN_drewN _ _ _⟩ | exact ⟨rfl, _, Eq.trans (World.drewN_drewN _ _ _) (congrArg (World.drewN _) (Nat.add_assoc _ _ _))⟩))))
   go_meet
   case rel => exact ⟨_, (!t191), (by first | rfl | (simp; done) | (simp [*]; done)), H', ⟨by first | omega | exact Nat.le_refl _⟩, ⟨mv HO190.out⟩, ⟨bt⟩⟩
  ·replace c9 := Bool.eq_false_iff.mpr c9
   subst c9
   rw [if_neg (show ¬ (false = true) by decide)] at H
   have H' := Aside0.mk H
   clear H
   go_wp2
   repeat (go_quiet (fail); try go_wp2)
   go_meet
   case rel => exact ⟨_, (true), (by first | rfl | (simp; done) | (simp [*]; done)), H', ⟨by first | omega | exact Nat.le_refl _⟩, ⟨mv HO190.out⟩, ⟨bt⟩⟩
 case rest =>
  clear HC7
  try clear c2
  try clear p2
  try clear c3
  try clear c4
  try clear c9
  obtain ⟨kq, x30_6, rfl, HA, HJ6, HO_12, HB⟩ := hcut
  cases kq with
  | zero => exact absurd HA.out (by simp [spec_Recheck.j0])
  | succ kj6 =>
   have H := HA.out
   clear HA
   simp only [spec_Recheck.j0] at H
   by_cases c11 : x30_6 = true
   ·subst c11
    rw [if_pos rfl] at H
    simp only [Option.some.injEq, Prod.mk.injEq] at H
    obtain ⟨rfl, rfl⟩ := H
    go_wp2
    repeat (go_quiet (fail); try go_wp2)
    go_ret2
    exact ⟨by first | rfl | (simp [errW_none, errW_some] <;> rfl) | (simp [*, errW_none, errW_some] <;> rfl), bt⟩
   ·replace c11 := Bool.eq_false_iff.mpr c11
    subst c11
    rw [if_neg (show ¬ (false = true) by decide)] at H
    have H' := Aside0.mk H
    clear H
    go_wp2
    repeat (go_quiet (fail); try go_wp2)
    go_loopg [14] kj6 (fun kq v14 w' => ∃ (x14_2 : Int), v14 = .int .i64 x14_2 ∧ Aside0 (spec_Recheck.l0 kq l3 l4 t187 x14_2 = some (r1, r2)) ∧ Aside0 (kq ≤ kj6) ∧ Aside0 (Kd.S (Kd.slice 5 (Kd.int .u8)) 24 w' w.heap.size (fun _ => True) v189 t187) ∧ Aside0 (Below w.heap.size w w'))
    case atStart => exact ⟨(0), (by first | rfl | (simp; done) | (simp [*]; done)), H', ⟨Nat.le_refl _⟩, ⟨mv HO_12.out⟩, ⟨bt⟩⟩
    case round =>
     clear H'
     try clear c1
     try clear c2
     try clear p2
     try clear c3
     try clear c4
     try clear c9
     try clear c11
     try clear p2
     obtain ⟨x14_2, rfl, HA, HK2, HO_12, HB⟩ := hrel
     cases gk with
     | zero => exact absurd HA.out (by simp [spec_Recheck.l0])
     | succ k2 =>
      have H := HA.out
      clear HA
      simp only [spec_Recheck.l0] at H
      by_cases c12 : x14_2 < (l3.length : Int)
      ·rw [if_pos c12] at H
       have c12b0 : decide (x14_2 < (l3.length : Int)) = true := decide_eq_true c12
       clear c12
       by_cases c13 : 0 ≤ x14_2
       ·rw [if_pos c13] at H
        have c13b0 : decide (0 ≤ x14_2) = true := decide_eq_true c13
        clear c13
        by_cases c14 : x14_2 < (l4.length : Int)
        ·rw [if_pos c14] at H
         have c14b0 : decide (x14_2 < (l4.length : Int)) = true := decide_eq_true c14
         clear c14
         by_cases c15 : 0 ≤ (rd l3 x14_2)
         ·rw [if_pos c15] at H
          have c15b0 : decide (0 ≤ (rd l3 x14_2)) = true := decide_eq_true c15
          clear c15
          by_cases c16 : (rd l3 x14_2) < (t187.length : Int)
          ·rw [if_pos c16] at H
           have c16b0 : decide ((rd l3 x14_2) < (t187.length : Int)) = true := decide_eq_true c16
           clear c16
           replace H := Option.bind_eq_some_iff.mp H
           obtain ⟨t195, A170, H⟩ := H
           (try dsimp -simprocs only at H)
           have A17 := Aside0.mk A170
           clear A170
           by_cases c18 : t195 = true
           ·subst c18
            rw [if_pos rfl] at H
            have H' := Aside0.mk H
            clear H
            have p192 : 0 ≤ (x14_2 : Int) := of_decide_eq_true asm
            have q192 : x14_2 < (l4.length : Int) := of_decide_eq_true asm
            obtain ⟨ad192, A192_0, c192_0, e192, hx192_0, hl192_0, hi192_0⟩ := at_L1 HR4.out x14_2 p192 q192
            cases e192
            replace hx192_0 := (HB.out.cell (World.block_lt_of_cell? w _ hx192_0)).trans hx192_0
            have HR192_0 := Aside0.mk hi192_0
            have HC192_0 := Aside0.mk hl192_0
            clear hi192_0 hl192_0
            replace p192 := eq_true p192
            replace q192 := eq_true q192
            have p193 : 0 ≤ (x14_2 : Int) := of_decide_eq_true asm
            have q193 : x14_2 < (l3.length : Int) := of_decide_eq_true asm
            obtain ⟨ad193, e193, hx193_0⟩ := Kd.at_int HR3.out x14_2 p193 q193
            cases e193
            replace hx193_0 := (HB.out.cell (World.block_lt_of_cell? w _ hx193_0)).trans hx193_0
            replace p193 := eq_true p193
            replace q193 := eq_true q193
            obtain ⟨Ao19, co19, eo19⟩ := Kd.S_slice HO_12.out
            subst eo19
            have p194 : 0 ≤ ((rd l3 x14_2) : Int) := of_decide_eq_true asm
            have q194 : (rd l3 x14_2) < (t187.length : Int) := of_decide_eq_true asm
            obtain ⟨ad194, A194_0, c194_0, e194, hx194_0, hl194_0, hi194_0⟩ := at_L1 (Kd.S_reads' HO_12.out).2.2 (rd l3 x14_2) p194 q194
            cases e194
            obtain ⟨ce194, hce194, hMe194, hcc194⟩ := Kd.S_get HO_12.out [] (rd l3 x14_2) p194 (by first | exact q194 | exact of_decide_eq_true asm | (have e_ := (Kd.S_reads' HO_12.out).1; omega))
            obtain ⟨ve194_0, rfl, ge194_0⟩ := hMe194
            have hv194_0 := hcc194 0 _ rfl
            rw [Nat.add_zero, show ((Kd.slice 5 (Kd.int .u8))).sz = 1 from rfl, Nat.mul_one] at hv194_0
            replace hv194_0 := Option.some.inj (hv194_0.symm.trans hx194_0)
            rw [hv194_0] at ge194_0
            have HL194_0 := Aside0.mk (show Kd.R (Kd.int .u8) 5 _ _ _ _ (rd_L1 t187 (rd l3 x14_2)) from ge194_0)
            clear hv194_0 ge194_0
            clear hcc194 hce194
            have HR194_0 := Aside0.mk hi194_0
            have HC194_0 := Aside0.mk hl194_0
            clear hi194_0 hl194_0
            replace p194 := eq_true p194
            replace q194 := eq_true q194
            go_wp2_with (first | (go_at_call 71; (with_reducible refine (spec_l1Same.calls _ _ (rd_L1 l4 x14_2) _ _ (rd_L1 t187 (rd l3 x14_2)) true _ ?side1 ?side2 ?side3 ?side4 A17.out).mono ?_); (case side1 => exact cv ((Kd.C_below HR192_0.out HB.out))); (case side2 => exact HC192_0.out); (case side3 => repeat (first | exact (by repeat (first | (with_reducible exact HR194_0.out) | (with_reducible refine Kd.C_alloc ?_ _) | (with_reducible refine Kd.C_drewN ?_ _) | (with_reducible refine Kd.C_drew ?_) | exact HR194_0.out)) | (with_reducible refine Kd.C_alloc ?_ _) | (with_reducible refine Kd.C_drewN ?_ _) | (with_reducible refine Kd.C_drew ?_))); (case side4 => exact HC194_0.out); rintro e w' ⟨rfl, ⟨nd, rfl⟩⟩; (try first | exact ⟨rfl, _, World.drewN_drewN _ _ _⟩ | exact ⟨rfl, _, Eq.trans (World.drewN_drewN _ _ _) (congrArg (World.drewN _) (Nat.add_assoc _ _ _))⟩)))
            repeat (go_quiet (first | (go_at_call 71; (with_reducible refine (spec_l1Same.calls _ _ (rd_L1 l4 x14_2) _ _ (rd_L1 t187 (rd l3 x14_2)) true _ ?side1 ?side2 ?side3 ?side4 A17.out).mono ?_); (case side1 => exact cv ((Kd.C_below HR192_0.out HB.out))); (case side2 => exact HC192_0.out); (case side3 => repeat (first | exact (by repeat (first | (with_reducible exact HR194_0.out) | (with_reducible refine Kd.C_alloc ?_ _) | (with_reducible refine Kd.C_drewN ?_ _) | (with_reducible refine Kd.C_drew ?_) | exact HR194_0.out)) | (with_reducible refine Kd.C_alloc ?_ _) | (with_reducible refine Kd.C_drewN ?_ _) | (with_reducible refine Kd.C_drew ?_))); (case side4 => exact HC194_0.out); rintro e w' ⟨rfl, ⟨nd, rfl⟩⟩; (try first | exact ⟨rfl, _, World.drewN_drewN _ _ _⟩ | exact ⟨rfl, _, Eq.trans (World.drewN_drewN _ _ _) (congrArg (World.drewN _) (Nat.add_assoc _ _ _))⟩))); try go_wp2_with (first | (go_at_call 71; (with_reducible refine (spec_l1Same.calls _ _ (rd_L1 l4 x14_2) _ _ (rd_L1 t187 (rd l3 x14_2)) true _ ?side1 ?side2 ?side3 ?side4 A17.out).mono ?_); (case side1 => exact cv ((Kd.C_below HR192_0.out HB.out))); (case side2 => exact HC192_0.out); (case side3 => repeat (first | exact (by repeat (first | (with_reducible exact HR194_0.out) | (with_reducible refine Kd.C_alloc ?_ _) | (with_reducible refine Kd.C_drewN ?_ _) | (with_reducible refine Kd.C_drew ?_) | exact HR194_0.out)) | (with_reducible refine Kd.C_alloc ?_ _) | (with_reducible refine Kd.C_drewN ?_ _) | (with_reducible refine Kd.C_drew ?_))); (case side4 => exact HC194_0.out); rintro e w' ⟨rfl, ⟨nd, rfl⟩⟩; (try first | exact ⟨rfl, _, World.drewN_drewN _ _ _⟩ | exact ⟨rfl, _, Eq.trans (World.drewN_drewN _ _ _) (congrArg (World.drewN _) (Nat.add_assoc _ _ _))⟩))))
            go_roundg k2
            case measure => have := HJ6.out; have := HK2.out; omega
            case rel => exact ⟨(wrap64 (x14_2 + 1)), (by first | rfl | (simp; done) | (simp [*]; done)), H', ⟨by have := HJ6.out; have := HK2.out; omega⟩, ⟨mv HO_12.out⟩, ⟨bt⟩⟩
           ·replace c18 := Bool.eq_false_iff.mpr c18
            subst c18
            rw [if_neg (show ¬ (false = true) by decide)] at H
            simp only [Option.some.injEq, Prod.mk.injEq] at H
            obtain ⟨rfl, rfl⟩ := H
            have p192 : 0 ≤ (x14_2 : Int) := of_decide_eq_true asm
            have q192 : x14_2 < (l4.length : Int) := of_decide_eq_true asm
            obtain ⟨ad192, A192_0, c192_0, e192, hx192_0, hl192_0, hi192_0⟩ := at_L1 HR4.out x14_2 p192 q192
            cases e192
            replace hx192_0 := (HB.out.cell (World.block_lt_of_cell? w _ hx192_0)).trans hx192_0
            have HR192_0 := Aside0.mk hi192_0
            have HC192_0 := Aside0.mk hl192_0
            clear hi192_0 hl192_0
            replace p192 := eq_true p192
            replace q192 := eq_true q192
            have p193 : 0 ≤ (x14_2 : Int) := of_decide_eq_true asm
            have q193 : x14_2 < (l3.length : Int) := of_decide_eq_true asm
            obtain ⟨ad193, e193, hx193_0⟩ := Kd.at_int HR3.out x14_2 p193 q193
            cases e193
            replace hx193_0 := (HB.out.cell (World.block_lt_of_cell? w _ hx193_0)).trans hx193_0
            replace p193 := eq_true p193
            replace q193 := eq_true q193
            obtain ⟨Ao20, co20, eo20⟩ := Kd.S_slice HO_12.out
            subst eo20
            have p194 : 0 ≤ ((rd l3 x14_2) : Int) := of_decide_eq_true asm
            have q194 : (rd l3 x14_2) < (t187.length : Int) := of_decide_eq_true asm
            obtain ⟨ad194, A194_0, c194_0, e194, hx194_0, hl194_0, hi194_0⟩ := at_L1 (Kd.S_reads' HO_12.out).2.2 (rd l3 x14_2) p194 q194
            cases e194
            obtain ⟨ce194, hce194, hMe194, hcc194⟩ := Kd.S_get HO_12.out [] (rd l3 x14_2) p194 (by first | exact q194 | exact of_decide_eq_true asm | (have e_ := (Kd.S_reads' HO_12.out).1; omega))
            obtain ⟨ve194_0, rfl, ge194_0⟩ := hMe194
            have hv194_0 := hcc194 0 _ rfl
            rw [Nat.add_zero, show ((Kd.slice 5 (Kd.int .u8))).sz = 1 from rfl, Nat.mul_one] at hv194_0
            replace hv194_0 := Option.some.inj (hv194_0.symm.trans hx194_0)
            rw [hv194_0] at ge194_0
            have HL194_0 := Aside0.mk (show Kd.R (Kd.int .u8) 5 _ _ _ _ (rd_L1 t187 (rd l3 x14_2)) from ge194_0)
            clear hv194_0 ge194_0
            clear hcc194 hce194
            have HR194_0 := Aside0.mk hi194_0
            have HC194_0 := Aside0.mk hl194_0
            clear hi194_0 hl194_0
            replace p194 := eq_true p194
            replace q194 := eq_true q194
            go_wp2_with (first | (go_at_call 71; (with_reducible refine (spec_l1Same.calls _ _ (rd_L1 l4 x14_2) _ _ (rd_L1 t187 (rd l3 x14_2)) false _ ?side1 ?side2 ?side3 ?side4 A17.out).mono ?_); (case side1 => exact cv ((Kd.C_below HR192_0.out HB.out))); (case side2 => exact HC192_0.out); (case side3 => repeat (first | exact (by repeat (first | (with_reducible exact HR194_0.out) | (with_reducible refine Kd.C_alloc ?_ _) | (with_reducible refine Kd.C_drewN ?_ _) | (with_reducible refine Kd.C_drew ?_) | exact HR194_0.out)) | (with_reducible refine Kd.C_alloc ?_ _) | (with_reducible refine Kd.C_drewN ?_ _) | (with_reducible refine Kd.C_drew ?_))); (case side4 => exact HC194_0.out); rintro e w' ⟨rfl, ⟨nd, rfl⟩⟩; (try first | exact ⟨rfl, _, World.drewN_drewN _ _ _⟩ | exact ⟨rfl, _, Eq.trans (World.drewN_drewN _ _ _) (congrArg (World.drewN _) (Nat.add_assoc _ _ _))⟩)))
            repeat (go_quiet (first | (go_at_call 71; (with_reducible refine (spec_l1Same.calls _ _ (rd_L1 l4 x14_2) _ _ (rd_L1 t187 (rd l3 x14_2)) false _ ?side1 ?side2 ?side3 ?side4 A17.out).mono ?_); (case side1 => exact cv ((Kd.C_below HR192_0.out HB.out))); (case side2 => exact HC192_0.out); (case side3 => repeat (first | exact (by repeat (first | (with_reducible exact HR194_0.out) | (with_reducible refine Kd.C_alloc ?_ _) | (with_reducible refine Kd.C_drewN ?_ _) | (with_reducible refine Kd.C_drew ?_) | exact HR194_0.out)) | (with_reducible refine Kd.C_alloc ?_ _) | (with_reducible refine Kd.C_drewN ?_ _) | (with_reducible refine Kd.C_drew ?_))); (case side4 => exact HC194_0.out); rintro e w' ⟨rfl, ⟨nd, rfl⟩⟩; (try first | exact ⟨rfl, _, World.drewN_drewN _ _ _⟩ | exact ⟨rfl, _, Eq.trans (World.drewN_drewN _ _ _) (congrArg (World.drewN _) (Nat.add_assoc _ _ _))⟩))); try go_wp2_with (first | (go_at_call 71; (with_reducible refine (spec_l1Same.calls _ _ (rd_L1 l4 x14_2) _ _ (rd_L1 t187 (rd l3 x14_2)) false _ ?side1 ?side2 ?side3 ?side4 A17.out).mono ?_); (case side1 => exact cv ((Kd.C_below HR192_0.out HB.out))); (case side2 => exact HC192_0.out); (case side3 => repeat (first | exact (by repeat (first | (with_reducible exact HR194_0.out) | (with_reducible refine Kd.C_alloc ?_ _) | (with_reducible refine Kd.C_drewN ?_ _) | (with_reducible refine Kd.C_drew ?_) | exact HR194_0.out)) | (with_reducible refine Kd.C_alloc ?_ _) | (with_reducible refine Kd.C_drewN ?_ _) | (with_reducible refine Kd.C_drew ?_))); (case side4 => exact HC194_0.out); rintro e w' ⟨rfl, ⟨nd, rfl⟩⟩; (try first | exact ⟨rfl, _, World.drewN_drewN _ _ _⟩ | exact ⟨rfl, _, Eq.trans (World.drewN_drewN _ _ _) (congrArg (World.drewN _) (Nat.add_assoc _ _ _))⟩))))
            go_ret2
            exact ⟨by first | rfl | (simp [errW_none, errW_some] <;> rfl) | (simp [*, errW_none, errW_some] <;> rfl), bt⟩
          ·rw [if_neg c16] at H
           exact absurd H (by simp)
         ·rw [if_neg c15] at H
          exact absurd H (by simp)
        ·rw [if_neg c14] at H
         exact absurd H (by simp)
       ·rw [if_neg c13] at H
        exact absurd H (by simp)
      ·rw [if_neg c12] at H
       have c12b0 : decide (x14_2 < (l3.length : Int)) = false := decide_eq_false c12
       clear c12
       simp only [Option.some.injEq, Prod.mk.injEq] at H
       obtain ⟨rfl, rfl⟩ := H
       go_wp2
       repeat (go_quiet (fail); try go_wp2)
       go_ret2
       exact ⟨by first | rfl | (simp [errW_none, errW_some] <;> rfl) | (simp [*, errW_none, errW_some] <;> rfl), bt⟩

/-! ### impl_in: function 53 -/
def impl_in.f (a0 : Int) (a1 : Int) (a2 : Int) : Option (Bool) := if a0 ≥ a1 then (some (decide (a0 ≤ a2))) else (some false)
set_option maxHeartbeats 8000000 in
set_option maxRecDepth 100000 in
theorem impl_in.calls (a0 : Int) (a1 : Int) (a2 : Int) (r : Bool) (w : World) (h : impl_in.f a0 a1 a2 = some r) :
  Calls Try.prog 53 #[.int .i64 a0, .int .i64 a1, .int .i64 a2] w fun e w' => e = .returned (.bool r) ∧ Drawn0 w w' := by
 have H : (if a0 ≥ a1 then (some (decide (a0 ≤ a2))) else (some false)) = some r := h
 clear h
 by_cases c4 : a0 ≥ a1
 ·rw [if_pos c4] at H
  have c4b0 : decide (a1 ≤ a0) = true := decide_eq_true c4
  clear c4
  obtain rfl := Option.some.inj H
  go_enter Try.func53, Try.ntmps53
  go_wp2
  go_ret
  exact ⟨by first | rfl | (simp; done) | (simp [*]; done), by repeat (first | exact Drawn0.refl _ | apply Drawn0.step)⟩
 ·rw [if_neg c4] at H
  have c4b0 : decide (a1 ≤ a0) = false := decide_eq_false c4
  clear c4
  obtain rfl := Option.some.inj H
  go_enter Try.func53, Try.ntmps53
  go_wp2
  go_ret
  exact ⟨by first | rfl | (simp; done) | (simp [*]; done), by repeat (first | exact Drawn0.refl _ | apply Drawn0.step)⟩

/-! ### impl_Long: function 85 -/
def impl_Long.f (a0 : Int) (a1 : Int) : Option (Int) := (impl_in.f a0 1 8).bind fun t196 => (if t196 = true then ((impl_in.f a1 0 120).bind fun t197 => (if t197 = true then (if a0 = 0 then (none) else (some (mx (wrap64 (Int.tdiv (wrap64 ((wrap64 (a1 + a0)) - 1)) a0)) 1))) else (some (-1)))) else (some (-1)))
set_option maxHeartbeats 8000000 in
set_option maxRecDepth 100000 in
theorem impl_Long.calls (a0 : Int) (a1 : Int) (r : Int) (w : World) (h : impl_Long.f a0 a1 = some r) :
  Calls Try.prog 85 #[.int .i64 a0, .int .i64 a1] w fun e w' => e = .returned (.int .i64 r) ∧ Below w.heap.size w w' := by
 have HB := Aside0.mk (Below.refl w.heap.size w)
 have H : ((impl_in.f a0 1 8).bind fun t196 => (if t196 = true then ((impl_in.f a1 0 120).bind fun t197 => (if t197 = true then (if a0 = 0 then (none) else (some (mx (wrap64 (Int.tdiv (wrap64 ((wrap64 (a1 + a0)) - 1)) a0)) 1))) else (some (-1)))) else (some (-1)))) = some r := h
 clear h
 replace H := Option.bind_eq_some_iff.mp H
 obtain ⟨t196, A30, H⟩ := H
 (try dsimp -simprocs only at H)
 have A3 := Aside0.mk A30
 clear A30
 by_cases c4 : t196 = true
 ·subst c4
  rw [if_pos rfl] at H
  replace H := Option.bind_eq_some_iff.mp H
  obtain ⟨t197, A50, H⟩ := H
  (try dsimp -simprocs only at H)
  have A5 := Aside0.mk A50
  clear A50
  by_cases c6 : t197 = true
  ·subst c6
   rw [if_pos rfl] at H
   by_cases c7 : a0 = 0
   ·rw [if_pos c7] at H
    exact absurd H (by simp)
   ·rw [if_neg c7] at H
    have c7b0 : (a0 == 0) = false := beq_eq_false_iff_ne.mpr c7
    have c7b1 : (a0 != 0) = true := bne_iff_ne.mpr c7
    obtain ⟨ji8, hji8⟩ : ∃ j_ : Int, (mx (wrap64 (Int.tdiv (wrap64 ((wrap64 (a1 + a0)) - 1)) a0)) 1) = j_ := ⟨_, rfl⟩
    replace H : (some ji8) = some r := by first | (rw [hji8] at H; exact H) | (simp only [hji8] at H ⊢; exact H)
    (try rw [hji8] at A3)
    (try rw [hji8] at A5)
    (try (have hji8l : 1 ≤ ji8 := by (rw [← hji8]; unfold mx; (repeat' split) <;> omega)))
    (try (have hji8m : 0 ≤ ji8 := by omega))
    have hji8_ : (if (wrap64 (Int.tdiv (wrap64 ((wrap64 (a1 + a0)) - 1)) a0)) < 1 then 1 else (wrap64 (Int.tdiv (wrap64 ((wrap64 (a1 + a0)) - 1)) a0))) = ji8 := hji8
    obtain rfl := Option.some.inj H
    go_enter Try.func85, Try.ntmps85
    go_wp2_with (first | ((with_reducible refine gate_callee (f := 53) rfl ?_); refine goesL_ (some 6) rfl rfl Try.func53 (by kernel_rfl) rfl #[.int .i64 a0, .int .i64 1, .int .i64 8] rfl av ?_; (with_reducible refine (impl_in.calls a0 1 8 true _ A3.out).mono ?_); rintro e w' ⟨rfl, ⟨nd, rfl⟩⟩; refine ⟨_, rfl, ?_⟩) | (go_at_call 53; (with_reducible refine (impl_in.calls a1 0 120 true _ A5.out).mono ?_); rintro e w' ⟨rfl, ⟨nd, rfl⟩⟩))
    go_ret
    exact ⟨by first | rfl | (simp [errW_none, errW_some] <;> rfl) | (simp only [← hji8]; first | rfl | (simp [errW_none, errW_some] <;> rfl)) | (simp [*, errW_none, errW_some] <;> rfl), bt⟩
  ·replace c6 := Bool.eq_false_iff.mpr c6
   subst c6
   rw [if_neg (show ¬ (false = true) by decide)] at H
   obtain rfl := Option.some.inj H
   go_enter Try.func85, Try.ntmps85
   go_wp2_with (first | ((with_reducible refine gate_callee (f := 53) rfl ?_); refine goesL_ (some 6) rfl rfl Try.func53 (by kernel_rfl) rfl #[.int .i64 a0, .int .i64 1, .int .i64 8] rfl av ?_; (with_reducible refine (impl_in.calls a0 1 8 true _ A3.out).mono ?_); rintro e w' ⟨rfl, ⟨nd, rfl⟩⟩; refine ⟨_, rfl, ?_⟩) | (go_at_call 53; (with_reducible refine (impl_in.calls a1 0 120 false _ A5.out).mono ?_); rintro e w' ⟨rfl, ⟨nd, rfl⟩⟩))
   go_ret
   exact ⟨by first | rfl | (simp [errW_none, errW_some] <;> rfl) | (simp [*, errW_none, errW_some] <;> rfl), bt⟩
 ·replace c4 := Bool.eq_false_iff.mpr c4
  subst c4
  rw [if_neg (show ¬ (false = true) by decide)] at H
  obtain rfl := Option.some.inj H
  go_enter Try.func85, Try.ntmps85
  go_wp2_with (first | ((with_reducible refine gate_callee (f := 53) rfl ?_); refine goesL_ (some 6) rfl rfl Try.func53 (by kernel_rfl) rfl #[.int .i64 a0, .int .i64 1, .int .i64 8] rfl av ?_; (with_reducible refine (impl_in.calls a0 1 8 false _ A3.out).mono ?_); rintro e w' ⟨rfl, ⟨nd, rfl⟩⟩; refine ⟨_, rfl, ?_⟩))
  go_ret
  exact ⟨by first | rfl | (simp [errW_none, errW_some] <;> rfl) | (simp [*, errW_none, errW_some] <;> rfl), bt⟩

/-! ### impl_codeOk: function 63 -/
def impl_codeOk.f (a0 : Int) (a1 : Int) (a2 : Int) : Option (Bool) := (impl_Long.f a0 a2).bind fun t198 => (if t198 > 0 then ((impl_in.f a1 a0 8).bind fun t199 => (some t199)) else (some false))
set_option maxHeartbeats 8000000 in
set_option maxRecDepth 100000 in
theorem impl_codeOk.calls (a0 : Int) (a1 : Int) (a2 : Int) (r : Bool) (w : World) (h : impl_codeOk.f a0 a1 a2 = some r) :
  Calls Try.prog 63 #[.int .i64 a0, .int .i64 a1, .int .i64 a2] w fun e w' => e = .returned (.bool r) ∧ Below w.heap.size w w' := by
 have HB := Aside0.mk (Below.refl w.heap.size w)
 have H : ((impl_Long.f a0 a2).bind fun t198 => (if t198 > 0 then ((impl_in.f a1 a0 8).bind fun t199 => (some t199)) else (some false))) = some r := h
 clear h
 replace H := Option.bind_eq_some_iff.mp H
 obtain ⟨t198, A40, H⟩ := H
 (try dsimp -simprocs only at H)
 have A4 := Aside0.mk A40
 clear A40
 by_cases c5 : t198 > 0
 ·rw [if_pos c5] at H
  have c5b0 : decide (0 < t198) = true := decide_eq_true c5
  clear c5
  replace H := Option.bind_eq_some_iff.mp H
  obtain ⟨t199, A60, H⟩ := H
  (try dsimp -simprocs only at H)
  have A6 := Aside0.mk A60
  clear A60
  obtain rfl := Option.some.inj H
  go_enter Try.func63, Try.ntmps63
  go_wp2_with (first | ((with_reducible refine gate_callee (f := 85) rfl ?_); refine goesL_ (some 9) rfl rfl Try.func85 (by kernel_rfl) rfl #[.int .i64 a0, .int .i64 a2] rfl av ?_; (with_reducible refine (impl_Long.calls a0 a2 t198 _ A4.out).mono ?_); rintro e w7 ⟨rfl, hb⟩; refine ⟨_, rfl, ?_⟩; replace HB := Aside0.mk (below_step (bt) hb); (try clear hb); (try clear hb2); (try clear hk); (try clear hi)) | (go_at_call 53; (with_reducible refine (impl_in.calls a1 a0 8 t199 _ A6.out).mono ?_); rintro e w' ⟨rfl, ⟨nd, rfl⟩⟩))
  go_ret
  exact ⟨by first | rfl | (simp [errW_none, errW_some] <;> rfl) | (simp [*, errW_none, errW_some] <;> rfl), bt⟩
 ·rw [if_neg c5] at H
  have c5b0 : decide (0 < t198) = false := decide_eq_false c5
  clear c5
  obtain rfl := Option.some.inj H
  go_enter Try.func63, Try.ntmps63
  go_wp2_with (first | ((with_reducible refine gate_callee (f := 85) rfl ?_); refine goesL_ (some 9) rfl rfl Try.func85 (by kernel_rfl) rfl #[.int .i64 a0, .int .i64 a2] rfl av ?_; (with_reducible refine (impl_Long.calls a0 a2 t198 _ A4.out).mono ?_); rintro e w8 ⟨rfl, hb⟩; refine ⟨_, rfl, ?_⟩; replace HB := Aside0.mk (below_step (bt) hb); (try clear hb); (try clear hb2); (try clear hk); (try clear hi)))
  go_ret
  exact ⟨by first | rfl | (simp [errW_none, errW_some] <;> rfl) | (simp [*, errW_none, errW_some] <;> rfl), bt⟩

/-! ### bytes_Clone: function 46 -/
def bytes_Clone.f (l0 : List Int) : Option (List Int) := if l0.length < 140737488355328 then some l0 else none
set_option maxHeartbeats 4000000 in
set_option maxRecDepth 100000 in
theorem bytes_Clone.calls (A0 : Option Addr) (c0 : Nat) (l0 : List Int) (r : List Int) (w : World) (hr0 : Kd.C (Kd.int .u8) w A0 l0.length l0) (hc0 : l0.length ≤ c0) (h : bytes_Clone.f l0 = some r) :
  Calls Try.prog 46 #[.slice A0 l0.length c0] w fun e w' => ∃ v0_ : Value, e = .returned (v0_) ∧ Kd.R (Kd.int .u8) 5 w' w.heap.size (fun _ => True) v0_ r ∧ Below w.heap.size w w' := by
 unfold bytes_Clone.f at h
 by_cases hl : l0.length < 140737488355328
 ·rw [if_pos hl] at h
  obtain rfl := Option.some.inj h
  have HR0 := Aside0.mk hr0
  have LM := Aside0.mk hl
  have hq := fun W : World => Go.Lib.run_eql_slice_nil (P := Try.prog) W 24 5 A0 l0.length c0 0 0 Try.underlying24
  clear hr0 h hl
  cases A0 with
  | none =>
   have hz : l0 = [] := by
    obtain ⟨_, _, h3⟩ := HR0.out
    cases l0 with
    | nil => rfl
    | cons x l =>
     obtain ⟨ad, e, _⟩ := h3 (by simp)
     cases e
   have HZ := Aside0.mk hz
   clear hz
   have hq1 := hq
   simp only [Option.isNone_none] at hq1
   clear hq
   go_enter Try.func46, Try.ntmps46
   go_wp2
   go_ret
   exact ⟨_, rfl, by rw [HZ.out]; exact Kd.R_nil _ _ _ _ _, Below.refl _ _⟩
  | some ad =>
   have hq1 := hq
   simp only [Option.isNone_some] at hq1
   clear hq
   have HB := Aside0.mk (Below.refl w.heap.size w)
   go_enter Try.func46, Try.ntmps46
   go_wp2_with (first | ((with_reducible refine gate_dst (N := 5) rfl ?_); refine Kd.R_lit (Kd.int .u8) _ 5 ?hg (N := 5) ?hd (xs := ([] : List Int)) (inner := []) (ok := fun _ => True) (okp := fun _ => True) ?hr ?hp (fun _ hk => hk) trivial (Below.refl _ _) (Nat.le_refl _) (by simp) ?_; (case hd => rfl); (case hg => rfl); (case hr => first | (go_simp; done) | (go_simp; rfl)); (case hp => exact (Reps.none _ _)); intro v166 w3 ho4 hb hg_ hnew_; clear hg_ hnew_; have HO167 := Aside0.mk (Kd.R_lower ho4 (below_size (bt))); replace HB := Aside0.mk (below_step (bt) hb); clear hb ho4) | ((with_reducible refine gate_builtin (b := .append) (xs := #[.tmp 5, .tmp 6]) rfl ?_); at_builtin; refine Kd.R_append_rows (Kd.int .u8) (w0 := w) w.heap.size rfl (.tmp 5) (.tmp 6) 24 5 (.int .u8 0) 1 rfl Try.underlying24 info5 rfl (by decide) (by omega) v166 [] l0 _ _ _ (fun _ => True) (fun _ => False) rfl rfl ?aO ?aR (fun _ _ h => h) (fun _ h => h.elim) ?aF ?aB ?aS ?aL ?_; (case aR => exact (Kd.C_below HR0.out HB.out)); (case aB => exact HB.out); (case aF => exact (fun _ _ => trivial)); (case aO => exact HO167.out); (case aS => exact (below_size HB.out)); (case aL => have := LM.out; simp; omega); intro v169 w5 ho hb hg hat; replace HB := Aside0.mk (hb); have HO170 := Aside0.mk (ho); clear HO167; clear ho hb hg hat))
   go_ret
   exact ⟨_, rfl, HO170.out, HB.out⟩
 ·rw [if_neg hl] at h
  cases h

end Go.Proofs.Ythaoloacbbohlaa.PFnExactRecheck
