-- Written by a program of this workplace (wip/mp.py) out of the translation.
import Derived.Test.YtchjajbkaiefdaaPFnExactFirstLiarx0
import Derived.Test.YtchjajbkaiefdaaPFnExactFirstLiarx1
import Derived.Test.YtchjajbkaiefdaaPFnExactFirstLiarx2
import Derived.Test.YtchjajbkaiefdaaPFnExactFirstLiarx3
namespace Go.Proofs.Ytchjajbkaiefdaa.PFnExactFirstLiar
open Go.RowKit Go.Proofs.YtchjajbkaiefdaaW.PrintWords Go.Proofs.YtchjajbkaiefdaaW.PrintLast Go.Proofs.YtchjajbkaiefdaaW.PrintMore Go.Proofs.Ytchjajbkaiefdaa.Slim
attribute [local go_sem] max2_int min2_int max_two min_two max_three min_three max_four min_four   -- for this text's walks alone
set_option linter.unusedVariables false
set_option linter.unusedSimpArgs false

/-! ### spec_RootFrom: function 114 -/
mutual
def spec_RootFrom.j0 : Nat → Int → Int → Int → List Int → List Int → Bool → Option (Int)
 | 0, _, _, _, _, _, _ => none
 | k + 1, x0, x1, x2, x3, x4, x34 => if x34 = true then (some (-1)) else ((spec_LeafOf.f k x0 x3).bind fun t262 => (spec_RootFrom.l0 k x0 x1 x2 x4 t262 0 x1))
def spec_RootFrom.l0 : Nat → Int → Int → Int → List Int → Int → Int → Int → Option (Int)
 | 0, _, _, _, _, _, _, _ => none
 | k + 1, x0, x1, x2, x4, x11, x12, x13 => if x13 > 1 then (if (wrap64 ((wrap64 (x2 + 1)) - (wrap64 (2 * (Int.tmod x2 2))))) < x13 then (if x12 = (x4.length : Int) then (spec_RootFrom.j2 k x0 x1 x2 x4 x11 x12 x13 (wrap64 ((wrap64 (x2 + 1)) - (wrap64 (2 * (Int.tmod x2 2))))) true) else (if 0 ≤ x12 then (if x12 < (x4.length : Int) then ((spec_l2Digest.f x0 (rd x4 x12)).bind fun t264 => (spec_RootFrom.j2 k x0 x1 x2 x4 x11 x12 x13 (wrap64 ((wrap64 (x2 + 1)) - (wrap64 (2 * (Int.tmod x2 2))))) (!t264))) else (none)) else (none))) else (spec_RootFrom.l0 k x0 x1 (wrap64 (Int.tdiv x2 2)) x4 x11 x12 (wrap64 (Int.tdiv (wrap64 (x13 + 1)) 2)))) else (if x12 = (x4.length : Int) then ((spec_l2Top.f k x1 x11).bind fun t269 => ((spec_Digest.f k x0 t269).bind fun t272 => (some t272))) else (some (-1)))
def spec_RootFrom.j2 : Nat → Int → Int → Int → List Int → Int → Int → Int → Int → Bool → Option (Int)
 | 0, _, _, _, _, _, _, _, _, _ => none
 | k + 1, x0, x1, x2, x4, x11, x12, x13, x14, x65 => if x65 = true then (some (-1)) else (if x14 > x2 then (if 0 ≤ x12 then (if x12 < (x4.length : Int) then ((spec_NodeOf.f k x0 x11 (rd x4 x12)).bind fun t266 => (spec_RootFrom.l0 k x0 x1 (wrap64 (Int.tdiv x2 2)) x4 t266 (wrap64 (x12 + 1)) (wrap64 (Int.tdiv (wrap64 (x13 + 1)) 2)))) else (none)) else (none)) else (if 0 ≤ x12 then (if x12 < (x4.length : Int) then ((spec_NodeOf.f k x0 (rd x4 x12) x11).bind fun t268 => (spec_RootFrom.l0 k x0 x1 (wrap64 (Int.tdiv x2 2)) x4 t268 (wrap64 (x12 + 1)) (wrap64 (Int.tdiv (wrap64 (x13 + 1)) 2)))) else (none)) else (none)))
end
def spec_RootFrom.f (k : Nat) (a0 : Int) (a1 : Int) (a2 : Int) (l3 : List Int) (l4 : List Int) : Option (Int) := (spec_l1In.f a0 2 60).bind fun t259 => (if t259 = true then ((spec_l1In.f a1 1 16).bind fun t260 => (if t260 = true then ((spec_l1In.f a2 0 (wrap64 (a1 - 1))).bind fun t261 => (if t261 = true then (spec_RootFrom.j0 k a0 a1 a2 l3 l4 (decide ((l3.length : Int) ≥ 4000))) else (spec_RootFrom.j0 k a0 a1 a2 l3 l4 true))) else (spec_RootFrom.j0 k a0 a1 a2 l3 l4 true))) else (spec_RootFrom.j0 k a0 a1 a2 l3 l4 true))
set_option maxHeartbeats 8000000 in
set_option maxRecDepth 100000 in
theorem spec_RootFrom.calls (k : Nat) (a0 : Int) (a1 : Int) (a2 : Int) (A3 : Option Addr) (c3 : Nat) (l3 : List Int) (A4 : Option Addr) (c4 : Nat) (l4 : List Int) (r : Int) (w : World) (hr3 : Kd.C (Kd.int .u8) w A3 l3.length l3) (hc3 : l3.length ≤ c3) (hr4 : Kd.C (Kd.int .i64) w A4 l4.length l4) (hc4 : l4.length ≤ c4) (h : spec_RootFrom.f k a0 a1 a2 l3 l4 = some r) :
  Calls Try.prog 114 #[.int .i64 a0, .int .i64 a1, .int .i64 a2, .slice A3 l3.length c3, .slice A4 l4.length c4] w fun e w' => e = .returned (.int .i64 r) ∧ Below w.heap.size w w' := by
 have HR3 := Aside0.mk hr3
 have HC3 := Aside0.mk hc3
 clear hr3 hc3
 have HR4 := Aside0.mk hr4
 have HC4 := Aside0.mk hc4
 clear hr4 hc4
 have HB := Aside0.mk (Below.refl w.heap.size w)
 have H : ((spec_l1In.f a0 2 60).bind fun t259 => (if t259 = true then ((spec_l1In.f a1 1 16).bind fun t260 => (if t260 = true then ((spec_l1In.f a2 0 (wrap64 (a1 - 1))).bind fun t261 => (if t261 = true then (spec_RootFrom.j0 k a0 a1 a2 l3 l4 (decide ((l3.length : Int) ≥ 4000))) else (spec_RootFrom.j0 k a0 a1 a2 l3 l4 true))) else (spec_RootFrom.j0 k a0 a1 a2 l3 l4 true))) else (spec_RootFrom.j0 k a0 a1 a2 l3 l4 true))) = some r := h
 clear h
 have HC6 := Aside0.mk H
 clear H
 go_enter Try.func114, Try.ntmps114
 go_upto_region 1 with (fail)
 go_cut [34] (fun v34 wc => ∃ (kq : Nat) (x34_5 : Bool), v34 = .bool x34_5 ∧ Aside0 (spec_RootFrom.j0 kq a0 a1 a2 l3 l4 x34_5 = some r) ∧ Aside0 (kq ≤ k) ∧ Aside0 (Below w.heap.size w wc))
 case first =>
  have H := HC6.out
  clear HC6
  replace H := Option.bind_eq_some_iff.mp H
  obtain ⟨t259, A70, H⟩ := H
  (try dsimp -simprocs only at H)
  have A7 := Aside0.mk A70
  clear A70
  by_cases c8 : t259 = true
  ·subst c8
   rw [if_pos rfl] at H
   replace H := Option.bind_eq_some_iff.mp H
   obtain ⟨t260, A90, H⟩ := H
   (try dsimp -simprocs only at H)
   have A9 := Aside0.mk A90
   clear A90
   by_cases c10 : t260 = true
   ·subst c10
    rw [if_pos rfl] at H
    replace H := Option.bind_eq_some_iff.mp H
    obtain ⟨t261, A110, H⟩ := H
    (try dsimp -simprocs only at H)
    have A11 := Aside0.mk A110
    clear A110
    by_cases c12 : t261 = true
    ·subst c12
     rw [if_pos rfl] at H
     have H' := Aside0.mk H
     clear H
     go_wp2_with (first | ((with_reducible refine gate_callee (f := 97) rfl ?_); refine goesL_ (some 16) rfl rfl Try.func97 (by kernel_rfl) rfl #[.int .i64 a0, .int .i64 2, .int .i64 60] rfl av ?_; (with_reducible refine (spec_l1In.calls a0 2 60 true _ A7.out).mono ?_); rintro e w' ⟨rfl, ⟨nd, rfl⟩⟩; refine ⟨_, rfl, ?_⟩) | (go_at_call 97; (with_reducible refine (spec_l1In.calls a1 1 16 true _ A9.out).mono ?_); rintro e w' ⟨rfl, ⟨nd, rfl⟩⟩) | (go_at_call 97; (with_reducible refine (spec_l1In.calls a2 0 (wrap64 (a1 - 1)) true _ A11.out).mono ?_); rintro e w' ⟨rfl, ⟨nd, rfl⟩⟩))
     go_meet
     case rel => exact ⟨_, (decide ((l3.length : Int) ≥ 4000)), (by first | rfl | (simp; done) | (simp [*]; done)), H', ⟨by first | omega | exact Nat.le_refl _⟩, ⟨bt⟩⟩
    ·replace c12 := Bool.eq_false_iff.mpr c12
     subst c12
     rw [if_neg (show ¬ (false = true) by decide)] at H
     have H' := Aside0.mk H
     clear H
     go_wp2_with (first | ((with_reducible refine gate_callee (f := 97) rfl ?_); refine goesL_ (some 16) rfl rfl Try.func97 (by kernel_rfl) rfl #[.int .i64 a0, .int .i64 2, .int .i64 60] rfl av ?_; (with_reducible refine (spec_l1In.calls a0 2 60 true _ A7.out).mono ?_); rintro e w' ⟨rfl, ⟨nd, rfl⟩⟩; refine ⟨_, rfl, ?_⟩) | (go_at_call 97; (with_reducible refine (spec_l1In.calls a1 1 16 true _ A9.out).mono ?_); rintro e w' ⟨rfl, ⟨nd, rfl⟩⟩) | (go_at_call 97; (with_reducible refine (spec_l1In.calls a2 0 (wrap64 (a1 - 1)) false _ A11.out).mono ?_); rintro e w' ⟨rfl, ⟨nd, rfl⟩⟩))
     go_meet
     case rel => exact ⟨_, (true), (by first | rfl | (simp; done) | (simp [*]; done)), H', ⟨by first | omega | exact Nat.le_refl _⟩, ⟨bt⟩⟩
   ·replace c10 := Bool.eq_false_iff.mpr c10
    subst c10
    rw [if_neg (show ¬ (false = true) by decide)] at H
    have H' := Aside0.mk H
    clear H
    go_wp2_with (first | ((with_reducible refine gate_callee (f := 97) rfl ?_); refine goesL_ (some 16) rfl rfl Try.func97 (by kernel_rfl) rfl #[.int .i64 a0, .int .i64 2, .int .i64 60] rfl av ?_; (with_reducible refine (spec_l1In.calls a0 2 60 true _ A7.out).mono ?_); rintro e w' ⟨rfl, ⟨nd, rfl⟩⟩; refine ⟨_, rfl, ?_⟩) | (go_at_call 97; (with_reducible refine (spec_l1In.calls a1 1 16 false _ A9.out).mono ?_); rintro e w' ⟨rfl, ⟨nd, rfl⟩⟩))
    go_meet
    case rel => exact ⟨_, (true), (by first | rfl | (simp; done) | (simp [*]; done)), H', ⟨by first | omega | exact Nat.le_refl _⟩, ⟨bt⟩⟩
  ·replace c8 := Bool.eq_false_iff.mpr c8
   subst c8
   rw [if_neg (show ¬ (false = true) by decide)] at H
   have H' := Aside0.mk H
   clear H
   go_wp2_with (first | ((with_reducible refine gate_callee (f := 97) rfl ?_); refine goesL_ (some 16) rfl rfl Try.func97 (by kernel_rfl) rfl #[.int .i64 a0, .int .i64 2, .int .i64 60] rfl av ?_; (with_reducible refine (spec_l1In.calls a0 2 60 false _ A7.out).mono ?_); rintro e w' ⟨rfl, ⟨nd, rfl⟩⟩; refine ⟨_, rfl, ?_⟩))
   go_meet
   case rel => exact ⟨_, (true), (by first | rfl | (simp; done) | (simp [*]; done)), H', ⟨by first | omega | exact Nat.le_refl _⟩, ⟨bt⟩⟩
 case rest =>
  clear HC6
  try clear c1
  try clear p2
  try clear c3
  try clear c4
  try clear p6
  try clear c8
  try clear c9
  try clear c10
  try clear c11
  try clear c12
  obtain ⟨kq, x34_5, rfl, HA, HJ5, HB⟩ := hcut
  cases kq with
  | zero => exact absurd HA.out (by simp [spec_RootFrom.j0])
  | succ kj5 =>
   have H := HA.out
   clear HA
   simp only [spec_RootFrom.j0] at H
   by_cases c13 : x34_5 = true
   ·subst c13
    rw [if_pos rfl] at H
    obtain rfl := Option.some.inj H
    go_wp2
    go_ret
    exact ⟨by first | rfl | (simp [errW_none, errW_some] <;> rfl) | (simp [*, errW_none, errW_some] <;> rfl), bt⟩
   ·replace c13 := Bool.eq_false_iff.mpr c13
    subst c13
    rw [if_neg (show ¬ (false = true) by decide)] at H
    replace H := Option.bind_eq_some_iff.mp H
    obtain ⟨t262, A140, H⟩ := H
    (try dsimp -simprocs only at H)
    have A14 := Aside0.mk A140
    clear A140
    have H' := Aside0.mk H
    clear H
    go_wp2_with (first | ((with_reducible refine gate_callee (f := 117) rfl ?_); refine goesL_ (some 37) rfl rfl Try.func117 (by kernel_rfl) rfl #[.int .i64 a0, .slice A3 l3.length c3] rfl av ?_; (with_reducible refine (spec_LeafOf.calls kj5 a0 _ _ l3 t262 _ ?side1 ?side2 A14.out).mono ?_); (case side1 => exact cv ((Kd.C_below HR3.out HB.out))); (case side2 => exact HC3.out); rintro e w15 ⟨rfl, hb⟩; refine ⟨_, rfl, ?_⟩; replace HB := Aside0.mk (below_step (bt) hb); (try clear hb); (try clear hb2); (try clear hk); (try clear hi)))
    go_loopg [2, 11, 12, 13] kj5 (fun kq v2 v11 v12 v13 w' => ∃ (x2_2 : Int) (x11_2 : Int) (x12_2 : Int) (x13_2 : Int), v2 = .int .i64 x2_2 ∧ v11 = .int .i64 x11_2 ∧ v12 = .int .i64 x12_2 ∧ v13 = .int .i64 x13_2 ∧ Aside0 (spec_RootFrom.l0 kq a0 a1 x2_2 l4 x11_2 x12_2 x13_2 = some r) ∧ Aside0 (kq ≤ kj5) ∧ Aside0 (Below w.heap.size w w'))
    case atStart => exact ⟨(a2), (t262), (0), (a1), (by first | rfl | (simp; done) | (simp [*]; done)), (by first | rfl | (simp; done) | (simp [*]; done)), (by first | rfl | (simp; done) | (simp [*]; done)), (by first | rfl | (simp; done) | (simp [*]; done)), H', ⟨Nat.le_refl _⟩, ⟨bt⟩⟩
    case round =>
     clear H'
     try clear c1
     try clear p2
     try clear c3
     try clear c4
     try clear p6
     try clear c8
     try clear c9
     try clear c10
     try clear c11
     try clear c12
     try clear c13
     try clear p2
     try clear p6
     obtain ⟨x2_2, x11_2, x12_2, x13_2, rfl, rfl, rfl, rfl, HA, HK2, HB⟩ := hrel
     cases gk with
     | zero => exact absurd HA.out (by simp [spec_RootFrom.l0])
     | succ k2 =>
      have H := HA.out
      clear HA
      simp only [spec_RootFrom.l0] at H
      by_cases c16 : x13_2 > 1
      ·rw [if_pos c16] at H
       have c16b0 : decide (1 < x13_2) = true := decide_eq_true c16
       clear c16
       by_cases c17 : (wrap64 ((wrap64 (x2_2 + 1)) - (wrap64 (2 * (Int.tmod x2_2 2))))) < x13_2
       ·rw [if_pos c17] at H
        have c17b0 : decide ((wrap64 ((wrap64 (x2_2 + 1)) - (wrap64 (2 * (Int.tmod x2_2 2))))) < x13_2) = true := decide_eq_true c17
        clear c17
        have HC18 := Aside0.mk H
        clear H
        go_upto_region 10 with (fail)
        go_cut [65] (fun v65 wc => ∃ (kq : Nat) (x65_17 : Bool), v65 = .bool x65_17 ∧ Aside0 (spec_RootFrom.j2 kq a0 a1 x2_2 l4 x11_2 x12_2 x13_2 (wrap64 ((wrap64 (x2_2 + 1)) - (wrap64 (2 * (Int.tmod x2_2 2))))) x65_17 = some r) ∧ Aside0 (kq ≤ k2) ∧ Aside0 (Below w.heap.size w wc))
        case first =>
         have H := HC18.out
         clear HC18
         by_cases c19 : x12_2 = (l4.length : Int)
         ·rw [if_pos c19] at H
          have c19b0 : (x12_2 == (l4.length : Int)) = true := beq_iff_eq.mpr c19
          have c19b1 : (x12_2 != (l4.length : Int)) = false := bne_eq_false_iff_eq.mpr c19
          clear c19
          (first | rw [c19b0] | (simp only [i64_w, i32_w]; rw [c19b0]) | skip)
          have H' := Aside0.mk H
          clear H
          go_wp2
          go_meet
          case rel => exact ⟨_, (true), (by first | rfl | (simp; done) | (simp [*]; done)), H', ⟨by have := HJ5.out; have := HK2.out; first | omega | exact Nat.le_refl _⟩, ⟨bt⟩⟩
         ·rw [if_neg c19] at H
          have c19b0 : (x12_2 == (l4.length : Int)) = false := beq_eq_false_iff_ne.mpr c19
          have c19b1 : (x12_2 != (l4.length : Int)) = true := bne_iff_ne.mpr c19
          (first | rw [c19b0] | (simp only [i64_w, i32_w]; rw [c19b0]) | skip)
          by_cases c20 : 0 ≤ x12_2
          ·rw [if_pos c20] at H
           have c20b0 : decide (0 ≤ x12_2) = true := decide_eq_true c20
           clear c20
           by_cases c21 : x12_2 < (l4.length : Int)
           ·rw [if_pos c21] at H
            have c21b0 : decide (x12_2 < (l4.length : Int)) = true := decide_eq_true c21
            clear c21
            replace H := Option.bind_eq_some_iff.mp H
            obtain ⟨t264, A220, H⟩ := H
            (try dsimp -simprocs only at H)
            have A22 := Aside0.mk A220
            clear A220
            have H' := Aside0.mk H
            clear H
            have p263 : 0 ≤ (x12_2 : Int) := of_decide_eq_true asm
            have q263 : x12_2 < (l4.length : Int) := of_decide_eq_true asm
            obtain ⟨ad263, e263, hx263_0⟩ := Kd.at_int HR4.out x12_2 p263 q263
            cases e263
            replace hx263_0 := (HB.out.cell (World.block_lt_of_cell? w _ hx263_0)).trans hx263_0
            replace p263 := eq_true p263
            replace q263 := eq_true q263
            go_wp2_with (first | (go_at_call 139; (with_reducible refine (spec_l2Digest.calls a0 (rd l4 x12_2) t264 _ A22.out).mono ?_); rintro e w' ⟨rfl, ⟨nd, rfl⟩⟩))
            go_meet
            case rel => exact ⟨_, (!t264), (by first | rfl | (simp; done) | (simp [*]; done)), H', ⟨by have := HJ5.out; have := HK2.out; first | omega | exact Nat.le_refl _⟩, ⟨bt⟩⟩
           ·rw [if_neg c21] at H
            exact absurd H (by simp)
          ·rw [if_neg c20] at H
           exact absurd H (by simp)
        case rest =>
         clear HC18
         try clear c1
         try clear c2
         try clear p2
         try clear q2
         try clear hx2
         try clear c3
         try clear c4
         try clear p6
         try clear c8
         try clear c9
         try clear c10
         try clear c11
         try clear c12
         try clear c13
         try clear c16
         try clear c16b0
         try clear c17
         try clear c17b0
         try clear c19
         try clear c19b0
         try clear c19b1
         try clear c20
         try clear c20b0
         try clear c21
         try clear c21b0
         try clear hx263_0
         try clear p2
         try clear p263
         try clear p6
         try clear q263
         obtain ⟨kq, x65_17, rfl, HA, HJ17, HB⟩ := hcut
         cases kq with
         | zero => exact absurd HA.out (by simp [spec_RootFrom.j2])
         | succ kj17 =>
          have H := HA.out
          clear HA
          simp only [spec_RootFrom.j2] at H
          by_cases c23 : x65_17 = true
          ·subst c23
           rw [if_pos rfl] at H
           obtain rfl := Option.some.inj H
           go_wp2
           go_ret
           exact ⟨by first | rfl | (simp [errW_none, errW_some] <;> rfl) | (simp [*, errW_none, errW_some] <;> rfl), bt⟩
          ·replace c23 := Bool.eq_false_iff.mpr c23
           subst c23
           rw [if_neg (show ¬ (false = true) by decide)] at H
           by_cases c24 : (wrap64 ((wrap64 (x2_2 + 1)) - (wrap64 (2 * (Int.tmod x2_2 2))))) > x2_2
           ·rw [if_pos c24] at H
            have c24b0 : decide (x2_2 < (wrap64 ((wrap64 (x2_2 + 1)) - (wrap64 (2 * (Int.tmod x2_2 2)))))) = true := decide_eq_true c24
            clear c24
            by_cases c25 : 0 ≤ x12_2
            ·rw [if_pos c25] at H
             have c25b0 : decide (0 ≤ x12_2) = true := decide_eq_true c25
             clear c25
             by_cases c26 : x12_2 < (l4.length : Int)
             ·rw [if_pos c26] at H
              have c26b0 : decide (x12_2 < (l4.length : Int)) = true := decide_eq_true c26
              clear c26
              replace H := Option.bind_eq_some_iff.mp H
              obtain ⟨t266, A270, H⟩ := H
              (try dsimp -simprocs only at H)
              have A27 := Aside0.mk A270
              clear A270
              have H' := Aside0.mk H
              clear H
              have p265 : 0 ≤ (x12_2 : Int) := of_decide_eq_true asm
              have q265 : x12_2 < (l4.length : Int) := of_decide_eq_true asm
              obtain ⟨ad265, e265, hx265_0⟩ := Kd.at_int HR4.out x12_2 p265 q265
              cases e265
              replace hx265_0 := (HB.out.cell (World.block_lt_of_cell? w _ hx265_0)).trans hx265_0
              replace p265 := eq_true p265
              replace q265 := eq_true q265
              go_wp2_with (first | ((with_reducible refine gate_callee (f := 135) rfl ?_); refine goesL_ (some 75) rfl rfl Try.func135 (by kernel_rfl) rfl #[.int .i64 a0, .int .i64 x11_2, .int .i64 (rd l4 x12_2)] rfl av ?_; (with_reducible refine (spec_NodeOf.calls kj17 a0 x11_2 (rd l4 x12_2) t266 _ A27.out).mono ?_); rintro e w28 ⟨rfl, hb⟩; refine ⟨_, rfl, ?_⟩; replace HB := Aside0.mk (below_step (bt) hb); (try clear hb); (try clear hb2); (try clear hk); (try clear hi)))
              go_roundg kj17
              case measure => have := HJ5.out; have := HK2.out; have := HJ17.out; omega
              case rel => exact ⟨(wrap64 (Int.tdiv x2_2 2)), (t266), (wrap64 (x12_2 + 1)), (wrap64 (Int.tdiv (wrap64 (x13_2 + 1)) 2)), (by first | rfl | (simp; done) | (simp [*]; done)), (by first | rfl | (simp; done) | (simp [*]; done)), (by first | rfl | (simp; done) | (simp [*]; done)), (by first | rfl | (simp; done) | (simp [*]; done)), H', ⟨by have := HJ5.out; have := HK2.out; have := HJ17.out; omega⟩, ⟨bt⟩⟩
             ·rw [if_neg c26] at H
              exact absurd H (by simp)
            ·rw [if_neg c25] at H
             exact absurd H (by simp)
           ·rw [if_neg c24] at H
            have c24b0 : decide (x2_2 < (wrap64 ((wrap64 (x2_2 + 1)) - (wrap64 (2 * (Int.tmod x2_2 2)))))) = false := decide_eq_false c24
            clear c24
            by_cases c29 : 0 ≤ x12_2
            ·rw [if_pos c29] at H
             have c29b0 : decide (0 ≤ x12_2) = true := decide_eq_true c29
             clear c29
             by_cases c30 : x12_2 < (l4.length : Int)
             ·rw [if_pos c30] at H
              have c30b0 : decide (x12_2 < (l4.length : Int)) = true := decide_eq_true c30
              clear c30
              replace H := Option.bind_eq_some_iff.mp H
              obtain ⟨t268, A310, H⟩ := H
              (try dsimp -simprocs only at H)
              have A31 := Aside0.mk A310
              clear A310
              have H' := Aside0.mk H
              clear H
              have p267 : 0 ≤ (x12_2 : Int) := of_decide_eq_true asm
              have q267 : x12_2 < (l4.length : Int) := of_decide_eq_true asm
              obtain ⟨ad267, e267, hx267_0⟩ := Kd.at_int HR4.out x12_2 p267 q267
              cases e267
              replace hx267_0 := (HB.out.cell (World.block_lt_of_cell? w _ hx267_0)).trans hx267_0
              replace p267 := eq_true p267
              replace q267 := eq_true q267
              go_wp2_with (first | ((with_reducible refine gate_callee (f := 135) rfl ?_); refine goesL_ (some 82) rfl rfl Try.func135 (by kernel_rfl) rfl #[.int .i64 a0, .int .i64 (rd l4 x12_2), .int .i64 x11_2] rfl av ?_; (with_reducible refine (spec_NodeOf.calls kj17 a0 (rd l4 x12_2) x11_2 t268 _ A31.out).mono ?_); rintro e w32 ⟨rfl, hb⟩; refine ⟨_, rfl, ?_⟩; replace HB := Aside0.mk (below_step (bt) hb); (try clear hb); (try clear hb2); (try clear hk); (try clear hi)))
              go_roundg kj17
              case measure => have := HJ5.out; have := HK2.out; have := HJ17.out; omega
              case rel => exact ⟨(wrap64 (Int.tdiv x2_2 2)), (t268), (wrap64 (x12_2 + 1)), (wrap64 (Int.tdiv (wrap64 (x13_2 + 1)) 2)), (by first | rfl | (simp; done) | (simp [*]; done)), (by first | rfl | (simp; done) | (simp [*]; done)), (by first | rfl | (simp; done) | (simp [*]; done)), (by first | rfl | (simp; done) | (simp [*]; done)), H', ⟨by have := HJ5.out; have := HK2.out; have := HJ17.out; omega⟩, ⟨bt⟩⟩
             ·rw [if_neg c30] at H
              exact absurd H (by simp)
            ·rw [if_neg c29] at H
             exact absurd H (by simp)
       ·rw [if_neg c17] at H
        have c17b0 : decide ((wrap64 ((wrap64 (x2_2 + 1)) - (wrap64 (2 * (Int.tmod x2_2 2))))) < x13_2) = false := decide_eq_false c17
        clear c17
        have H' := Aside0.mk H
        clear H
        go_wp2
        go_roundg k2
        case measure => have := HJ5.out; have := HK2.out; omega
        case rel => exact ⟨(wrap64 (Int.tdiv x2_2 2)), (x11_2), (x12_2), (wrap64 (Int.tdiv (wrap64 (x13_2 + 1)) 2)), (by first | rfl | (simp; done) | (simp [*]; done)), (by first | rfl | (simp; done) | (simp [*]; done)), (by first | rfl | (simp; done) | (simp [*]; done)), (by first | rfl | (simp; done) | (simp [*]; done)), H', ⟨by have := HJ5.out; have := HK2.out; omega⟩, ⟨bt⟩⟩
      ·rw [if_neg c16] at H
       have c16b0 : decide (1 < x13_2) = false := decide_eq_false c16
       clear c16
       by_cases c33 : x12_2 = (l4.length : Int)
       ·rw [if_pos c33] at H
        have c33b0 : (x12_2 == (l4.length : Int)) = true := beq_iff_eq.mpr c33
        have c33b1 : (x12_2 != (l4.length : Int)) = false := bne_eq_false_iff_eq.mpr c33
        clear c33
        replace H := Option.bind_eq_some_iff.mp H
        obtain ⟨t269, A340, H⟩ := H
        (try dsimp -simprocs only at H)
        have A34 := Aside0.mk A340
        clear A340
        replace H := Option.bind_eq_some_iff.mp H
        obtain ⟨t272, A350, H⟩ := H
        (try dsimp -simprocs only at H)
        have A35 := Aside0.mk A350
        clear A350
        obtain rfl := Option.some.inj H
        go_wp2_with (first | ((with_reducible refine gate_callee (f := 113) rfl ?_); refine goesL_ (some 94) rfl rfl Try.func113 (by kernel_rfl) rfl #[.int .i64 a1, .int .i64 x11_2] rfl av ?_; (with_reducible refine (spec_l2Top.calls k2 a1 x11_2 t269 _ A34.out).mono ?_); rintro e w36 ⟨v270, rfl, ho0, hb⟩; refine ⟨_, rfl, ?_⟩; have HO271 := Aside0.mk (Kd.R_lower ho0 (below_size (bt))); replace HB := Aside0.mk (below_step (bt) hb); (try clear hb); (try clear hb2); (try clear hk); (try clear hi); (try clear ho0); obtain ⟨Ao37, co37, eo37⟩ := Kd.R_slice HO271.out; subst eo37) | ((with_reducible refine gate_callee (f := 112) rfl ?_); refine goesL_ (some 95) rfl rfl Try.func112 (by kernel_rfl) rfl #[.int .i64 a0, .slice Ao37 t269.length co37] rfl av ?_; (with_reducible refine (spec_Digest.calls k2 a0 _ _ t269 t272 _ ?side1 ?side2 A35.out).mono ?_); (case side1 => exact cv ((Kd.R_reads' HO271.out).2.2)); (case side2 => exact (Kd.R_reads' HO271.out).2.1); rintro e w38 ⟨rfl, hb⟩; refine ⟨_, rfl, ?_⟩; replace HO271 := Aside0.mk (Kd.R_below (mv HO271.out) hb); replace HB := Aside0.mk (below_step (bt) hb); (try clear hb); (try clear hb2); (try clear hk); (try clear hi)))
        go_ret
        exact ⟨by first | rfl | (simp [errW_none, errW_some] <;> rfl) | (simp [*, errW_none, errW_some] <;> rfl), bt⟩
       ·rw [if_neg c33] at H
        have c33b0 : (x12_2 == (l4.length : Int)) = false := beq_eq_false_iff_ne.mpr c33
        have c33b1 : (x12_2 != (l4.length : Int)) = true := bne_iff_ne.mpr c33
        obtain rfl := Option.some.inj H
        go_wp2
        go_ret
        exact ⟨by first | rfl | (simp [errW_none, errW_some] <;> rfl) | (simp [*, errW_none, errW_some] <;> rfl), bt⟩

/-! ### spec_l3Paths: function 115 -/
def spec_l3Paths.l0 : Nat → List Int → List Int → Int → Option (Bool)
 | 0, _, _, _ => none
 | k + 1, x0, x1, x5 => if x5 < (x0.length : Int) then (if 0 ≤ x5 then (if x5 < (x1.length : Int) then (if (rd x0 x5) = (rd x1 x5) then (spec_l3Paths.l0 k x0 x1 (wrap64 (x5 + 1))) else (some false)) else (none)) else (none)) else (some true)
def spec_l3Paths.f (k : Nat) (l0 : List Int) (l1 : List Int) : Option (Bool) := if (l0.length : Int) = (l1.length : Int) then (spec_l3Paths.l0 k l0 l1 0) else (some false)
set_option maxHeartbeats 8000000 in
set_option maxRecDepth 100000 in
theorem spec_l3Paths.calls (k : Nat) (A0 : Option Addr) (c0 : Nat) (l0 : List Int) (A1 : Option Addr) (c1 : Nat) (l1 : List Int) (r : Bool) (w : World) (hr0 : Kd.C (Kd.int .i64) w A0 l0.length l0) (hc0 : l0.length ≤ c0) (hr1 : Kd.C (Kd.int .i64) w A1 l1.length l1) (hc1 : l1.length ≤ c1) (h : spec_l3Paths.f k l0 l1 = some r) :
  Calls Try.prog 115 #[.slice A0 l0.length c0, .slice A1 l1.length c1] w fun e w' => e = .returned (.bool r) ∧ Drawn0 w w' := by
 have HR0 := Aside0.mk hr0
 have HC0 := Aside0.mk hc0
 clear hr0 hc0
 have HR1 := Aside0.mk hr1
 have HC1 := Aside0.mk hc1
 clear hr1 hc1
 have H : (if (l0.length : Int) = (l1.length : Int) then (spec_l3Paths.l0 k l0 l1 0) else (some false)) = some r := h
 clear h
 by_cases c3 : (l0.length : Int) = (l1.length : Int)
 ·rw [if_pos c3] at H
  have c3b0 : ((l0.length : Int) == (l1.length : Int)) = true := beq_iff_eq.mpr c3
  have c3b1 : ((l0.length : Int) != (l1.length : Int)) = false := bne_eq_false_iff_eq.mpr c3
  have c3b2 : (l0.length == l1.length) = true := by first | simpa using c3 | (simp at c3 ⊢; omega)
  clear c3
  have H' := Aside0.mk H
  clear H
  go_enter Try.func115, Try.ntmps115
  go_wp2
  go_loopg [5] k (fun kq v5 w' => ∃ (x5_1 : Int), v5 = .int .i64 x5_1 ∧ Aside0 (spec_l3Paths.l0 kq l0 l1 x5_1 = some r) ∧ Aside0 (kq ≤ k) ∧ Drawn0 w w')
  case atStart => exact ⟨(0), (by first | rfl | (simp; done) | (simp [*]; done)), H', ⟨Nat.le_refl _⟩, by repeat (first | exact Drawn0.refl _ | apply Drawn0.step)⟩
  case round =>
   clear H'
   try clear c1
   try clear p2
   try clear c3
   try clear c3b0
   try clear c3b1
   try clear c3b2
   obtain ⟨x5_1, rfl, HA, HK1, ⟨m1, rfl⟩⟩ := hrel
   cases gk with
   | zero => exact absurd HA.out (by simp [spec_l3Paths.l0])
   | succ k1 =>
    have H := HA.out
    clear HA
    simp only [spec_l3Paths.l0] at H
    by_cases c4 : x5_1 < (l0.length : Int)
    ·rw [if_pos c4] at H
     have c4b0 : decide (x5_1 < (l0.length : Int)) = true := decide_eq_true c4
     clear c4
     by_cases c5 : 0 ≤ x5_1
     ·rw [if_pos c5] at H
      have c5b0 : decide (0 ≤ x5_1) = true := decide_eq_true c5
      clear c5
      by_cases c6 : x5_1 < (l1.length : Int)
      ·rw [if_pos c6] at H
       have c6b0 : decide (x5_1 < (l1.length : Int)) = true := decide_eq_true c6
       clear c6
       by_cases c7 : (rd l0 x5_1) = (rd l1 x5_1)
       ·rw [if_pos c7] at H
        have c7b0 : ((rd l0 x5_1) == (rd l1 x5_1)) = true := beq_iff_eq.mpr c7
        have c7b1 : ((rd l0 x5_1) != (rd l1 x5_1)) = false := bne_eq_false_iff_eq.mpr c7
        clear c7
        have H' := Aside0.mk H
        clear H
        have p273 : 0 ≤ (x5_1 : Int) := of_decide_eq_true asm
        have q273 : x5_1 < (l0.length : Int) := of_decide_eq_true asm
        obtain ⟨ad273, e273, hx273_0⟩ := Kd.at_int HR0.out x5_1 p273 q273
        cases e273
        replace p273 := eq_true p273
        replace q273 := eq_true q273
        have p274 : 0 ≤ (x5_1 : Int) := of_decide_eq_true asm
        have q274 : x5_1 < (l1.length : Int) := of_decide_eq_true asm
        obtain ⟨ad274, e274, hx274_0⟩ := Kd.at_int HR1.out x5_1 p274 q274
        cases e274
        replace p274 := eq_true p274
        replace q274 := eq_true q274
        go_wp2
        repeat (go_quiet (fail); try go_wp2)
        go_roundg k1
        case measure => have := HK1.out; omega
        case rel => exact ⟨(wrap64 (x5_1 + 1)), (by first | rfl | (simp; done) | (simp [*]; done)), H', ⟨by have := HK1.out; omega⟩, by repeat (first | exact Drawn0.refl _ | apply Drawn0.step)⟩
       ·rw [if_neg c7] at H
        have c7b0 : ((rd l0 x5_1) == (rd l1 x5_1)) = false := beq_eq_false_iff_ne.mpr c7
        have c7b1 : ((rd l0 x5_1) != (rd l1 x5_1)) = true := bne_iff_ne.mpr c7
        obtain rfl := Option.some.inj H
        have p273 : 0 ≤ (x5_1 : Int) := of_decide_eq_true asm
        have q273 : x5_1 < (l0.length : Int) := of_decide_eq_true asm
        obtain ⟨ad273, e273, hx273_0⟩ := Kd.at_int HR0.out x5_1 p273 q273
        cases e273
        replace p273 := eq_true p273
        replace q273 := eq_true q273
        have p274 : 0 ≤ (x5_1 : Int) := of_decide_eq_true asm
        have q274 : x5_1 < (l1.length : Int) := of_decide_eq_true asm
        obtain ⟨ad274, e274, hx274_0⟩ := Kd.at_int HR1.out x5_1 p274 q274
        cases e274
        replace p274 := eq_true p274
        replace q274 := eq_true q274
        go_wp2
        repeat (go_quiet (fail); try go_wp2)
        go_ret
        exact ⟨by first | rfl | (simp; done) | (simp [*]; done), by repeat (first | exact Drawn0.refl _ | apply Drawn0.step)⟩
      ·rw [if_neg c6] at H
       exact absurd H (by simp)
     ·rw [if_neg c5] at H
      exact absurd H (by simp)
    ·rw [if_neg c4] at H
     have c4b0 : decide (x5_1 < (l0.length : Int)) = false := decide_eq_false c4
     clear c4
     obtain rfl := Option.some.inj H
     go_wp2
     go_ret
     exact ⟨by first | rfl | (simp; done) | (simp [*]; done), by repeat (first | exact Drawn0.refl _ | apply Drawn0.step)⟩
 ·rw [if_neg c3] at H
  have c3b0 : ((l0.length : Int) == (l1.length : Int)) = false := beq_eq_false_iff_ne.mpr c3
  have c3b1 : ((l0.length : Int) != (l1.length : Int)) = true := bne_iff_ne.mpr c3
  have c3b2 : (l0.length == l1.length) = false := by first | simpa using c3 | (simp at c3 ⊢; omega)
  obtain rfl := Option.some.inj H
  go_enter Try.func115, Try.ntmps115
  go_wp2
  go_ret
  exact ⟨by first | rfl | (simp; done) | (simp [*]; done), by repeat (first | exact Drawn0.refl _ | apply Drawn0.step)⟩

end Go.Proofs.Ytchjajbkaiefdaa.PFnExactFirstLiar
