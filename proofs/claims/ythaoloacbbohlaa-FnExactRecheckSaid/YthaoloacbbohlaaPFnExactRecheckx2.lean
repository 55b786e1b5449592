-- Written by a program of this workplace (wip/mp.py) out of the translation.
import Derived.Test.YthaoloacbbohlaaPFnExactRecheckx0
import Derived.Test.YthaoloacbbohlaaPFnExactRecheckx1
namespace Go.Proofs.Ythaoloacbbohlaa.PFnExactRecheck
open Go.RowKit Go.Proofs.YthaoloacbbohlaaW.PrintWords Go.Proofs.YthaoloacbbohlaaW.PrintLast Go.Proofs.YthaoloacbbohlaaW.PrintMore Go.Proofs.Ythaoloacbbohlaa.Slim
attribute [local go_sem] max2_int min2_int max_two min_two max_three min_three max_four min_four   -- for this text's walks alone
set_option linter.unusedVariables false
set_option linter.unusedSimpArgs false

/-! ### spec_Long: function 61 -/
def spec_Long.f (a0 : Int) (a1 : Int) : Option (Int) := (spec_l1In.f a0 1 8).bind fun t124 => (if t124 = true then ((spec_l1In.f a1 0 120).bind fun t125 => (if t125 = true then (if a0 = 0 then (none) else ((spec_l1Max.f 1 (wrap64 (Int.tdiv (wrap64 ((wrap64 (a1 + a0)) - 1)) a0))).bind fun t126 => (some t126))) else (some (-1)))) else (some (-1)))
set_option maxHeartbeats 8000000 in
set_option maxRecDepth 100000 in
theorem spec_Long.calls (a0 : Int) (a1 : Int) (r : Int) (w : World) (h : spec_Long.f a0 a1 = some r) :
  Calls Try.prog 61 #[.int .i64 a0, .int .i64 a1] w fun e w' => e = .returned (.int .i64 r) ∧ Drawn0 w w' := by
 have H : ((spec_l1In.f a0 1 8).bind fun t124 => (if t124 = true then ((spec_l1In.f a1 0 120).bind fun t125 => (if t125 = true then (if a0 = 0 then (none) else ((spec_l1Max.f 1 (wrap64 (Int.tdiv (wrap64 ((wrap64 (a1 + a0)) - 1)) a0))).bind fun t126 => (some t126))) else (some (-1)))) else (some (-1)))) = some r := h
 clear h
 replace H := Option.bind_eq_some_iff.mp H
 obtain ⟨t124, A30, H⟩ := H
 (try dsimp -simprocs only at H)
 have A3 := Aside0.mk A30
 clear A30
 by_cases c4 : t124 = true
 ·subst c4
  rw [if_pos rfl] at H
  replace H := Option.bind_eq_some_iff.mp H
  obtain ⟨t125, A50, H⟩ := H
  (try dsimp -simprocs only at H)
  have A5 := Aside0.mk A50
  clear A50
  by_cases c6 : t125 = true
  ·subst c6
   rw [if_pos rfl] at H
   by_cases c7 : a0 = 0
   ·rw [if_pos c7] at H
    exact absurd H (by simp)
   ·rw [if_neg c7] at H
    have c7b0 : (a0 == 0) = false := beq_eq_false_iff_ne.mpr c7
    have c7b1 : (a0 != 0) = true := bne_iff_ne.mpr c7
    replace H := Option.bind_eq_some_iff.mp H
    obtain ⟨t126, A80, H⟩ := H
    (try dsimp -simprocs only at H)
    have A8 := Aside0.mk A80
    clear A80
    obtain rfl := Option.some.inj H
    go_enter Try.func61, Try.ntmps61
    go_wp2_with (first | ((with_reducible refine gate_callee (f := 47) rfl ?_); refine goesL_ (some 6) rfl rfl Try.func47 (by kernel_rfl) rfl #[.int .i64 a0, .int .i64 1, .int .i64 8] rfl av ?_; (with_reducible refine (spec_l1In.calls a0 1 8 true _ A3.out).mono ?_); rintro e w' ⟨rfl, ⟨nd, rfl⟩⟩; refine ⟨_, rfl, ?_⟩) | (go_at_call 47; (with_reducible refine (spec_l1In.calls a1 0 120 true _ A5.out).mono ?_); rintro e w' ⟨rfl, ⟨nd, rfl⟩⟩) | ((with_reducible refine gate_callee (f := 84) rfl ?_); refine goesL_ (some 19) rfl rfl Try.func84 (by kernel_rfl) rfl #[.int .i64 1, .int .i64 (wrap64 (Int.tdiv (wrap64 ((wrap64 (a1 + a0)) - 1)) a0))] rfl av ?_; (with_reducible refine (spec_l1Max.calls 1 (wrap64 (Int.tdiv (wrap64 ((wrap64 (a1 + a0)) - 1)) a0)) t126 _ A8.out).mono ?_); rintro e w' ⟨rfl, ⟨nd, rfl⟩⟩; refine ⟨_, rfl, ?_⟩))
    go_ret
    exact ⟨by first | rfl | (simp; done) | (simp [*]; done), by repeat (first | exact Drawn0.refl _ | apply Drawn0.step)⟩
  ·replace c6 := Bool.eq_false_iff.mpr c6
   subst c6
   rw [if_neg (show ¬ (false = true) by decide)] at H
   obtain rfl := Option.some.inj H
   go_enter Try.func61, Try.ntmps61
   go_wp2_with (first | ((with_reducible refine gate_callee (f := 47) rfl ?_); refine goesL_ (some 6) rfl rfl Try.func47 (by kernel_rfl) rfl #[.int .i64 a0, .int .i64 1, .int .i64 8] rfl av ?_; (with_reducible refine (spec_l1In.calls a0 1 8 true _ A3.out).mono ?_); rintro e w' ⟨rfl, ⟨nd, rfl⟩⟩; refine ⟨_, rfl, ?_⟩) | (go_at_call 47; (with_reducible refine (spec_l1In.calls a1 0 120 false _ A5.out).mono ?_); rintro e w' ⟨rfl, ⟨nd, rfl⟩⟩))
   go_ret
   exact ⟨by first | rfl | (simp; done) | (simp [*]; done), by repeat (first | exact Drawn0.refl _ | apply Drawn0.step)⟩
 ·replace c4 := Bool.eq_false_iff.mpr c4
  subst c4
  rw [if_neg (show ¬ (false = true) by decide)] at H
  obtain rfl := Option.some.inj H
  go_enter Try.func61, Try.ntmps61
  go_wp2_with (first | ((with_reducible refine gate_callee (f := 47) rfl ?_); refine goesL_ (some 6) rfl rfl Try.func47 (by kernel_rfl) rfl #[.int .i64 a0, .int .i64 1, .int .i64 8] rfl av ?_; (with_reducible refine (spec_l1In.calls a0 1 8 false _ A3.out).mono ?_); rintro e w' ⟨rfl, ⟨nd, rfl⟩⟩; refine ⟨_, rfl, ?_⟩))
  go_ret
  exact ⟨by first | rfl | (simp; done) | (simp [*]; done), by repeat (first | exact Drawn0.refl _ | apply Drawn0.step)⟩

/-! ### spec_l5Column: function 62 -/
def spec_l5Column.l0 : Nat → List (List Int) → Int → List Int → Int → Option (List Int)
 | 0, _, _, _, _ => none
 | k + 1, x0, x1, x5, x6 => if x6 < (x0.length : Int) then (if 0 ≤ x6 then (if 0 ≤ x1 then (if x1 < ((rd_L1 x0 x6).length : Int) then (if x5.length < 140737488355328 then (spec_l5Column.l0 k x0 x1 (x5 ++ [rd (rd_L1 x0 x6) x1]) (wrap64 (x6 + 1))) else (none)) else (none)) else (none)) else (none)) else (some x5)
def spec_l5Column.f (k : Nat) (l0 : List (List Int)) (a1 : Int) : Option (List Int) := spec_l5Column.l0 k l0 a1 (([] : List Int)) 0
set_option maxHeartbeats 8000000 in
set_option maxRecDepth 100000 in
theorem spec_l5Column.calls (k : Nat) (A0 : Option Addr) (c0 : Nat) (l0 : List (List Int)) (a1 : Int) (r : List Int) (w : World) (hr0 : Kd.C (Kd.slice 5 (Kd.int .u8)) w A0 l0.length l0) (hc0 : l0.length ≤ c0) (h : spec_l5Column.f k l0 a1 = some r) :
  Calls Try.prog 62 #[.slice A0 l0.length c0, .int .i64 a1] w fun e w' => ∃ v0_ : Value, e = .returned (v0_) ∧ Kd.R (Kd.int .u8) 5 w' w.heap.size (fun _ => True) v0_ r ∧ Below w.heap.size w w' := by
 have HR0 := Aside0.mk hr0
 have HC0 := Aside0.mk hc0
 clear hr0 hc0
 have HB := Aside0.mk (Below.refl w.heap.size w)
 have H : (spec_l5Column.l0 k l0 a1 (([] : List Int)) 0) = some r := h
 clear h
 obtain ⟨y127, hy127⟩ : ∃ y_ : List Int, y_ = (([] : List Int)) := ⟨_, rfl⟩
 replace H : (spec_l5Column.l0 k l0 a1 y127 0) = some r := by first | (rw [hy127]; exact H) | exact H
 have Ny127 := Aside0.mk hy127
 clear hy127
 have H' := Aside0.mk H
 clear H
 go_enter Try.func62, Try.ntmps62
 go_wp2_with (first | ((with_reducible refine gate_dst (N := 7) rfl ?_); refine Kd.R_lit (Kd.int .u8) _ 5 ?hg (N := 7) ?hd (xs := ([] : List Int)) (inner := []) (ok := fun _ => True) (okp := fun _ => True) ?hr ?hp (fun _ hk => hk) trivial (Below.refl _ _) (Nat.le_refl _) (by simp) ?_; (case hd => rfl); (case hg => rfl); (case hr => first | (go_simp; done) | (go_simp; rfl)); (case hp => exact (Reps.none _ _)); intro v128 w3 ho4 hb hg_ hnew_; clear hg_ hnew_; (first | rw [← Ny127.out] at ho4 | (simp only [Int.reduceToNat] at ho4; rw [← Ny127.out] at ho4)); have HO129 := Aside0.mk (Kd.R_lower ho4 (below_size (bt))); replace HB := Aside0.mk (below_step (bt) hb); clear hb ho4))
 go_loopg [5, 6] k (fun kq v5 v6 w' => ∃ (x5_1 : List Int) (x6_1 : Int), v6 = .int .i64 x6_1 ∧ Aside0 (spec_l5Column.l0 kq l0 a1 x5_1 x6_1 = some r) ∧ Aside0 (kq ≤ k) ∧ Aside0 (Kd.R (Kd.int .u8) 5 w' w.heap.size (fun _ => True) v5 x5_1) ∧ Aside0 (Below w.heap.size w w'))
 case atStart => exact ⟨(y127), (0), (by first | rfl | (simp; done) | (simp [*]; done)), H', ⟨Nat.le_refl _⟩, ⟨mv HO129.out⟩, ⟨bt⟩⟩
 case round =>
  clear H'
  try clear p2
  obtain ⟨x5_1, x6_1, rfl, HA, HK1, HO_5, HB⟩ := hrel
  cases gk with
  | zero => exact absurd HA.out (by simp [spec_l5Column.l0])
  | succ k1 =>
   have H := HA.out
   clear HA
   simp only [spec_l5Column.l0] at H
   by_cases c5 : x6_1 < (l0.length : Int)
   ·rw [if_pos c5] at H
    have c5b0 : decide (x6_1 < (l0.length : Int)) = true := decide_eq_true c5
    clear c5
    by_cases c6 : 0 ≤ x6_1
    ·rw [if_pos c6] at H
     have c6b0 : decide (0 ≤ x6_1) = true := decide_eq_true c6
     clear c6
     by_cases c7 : 0 ≤ a1
     ·rw [if_pos c7] at H
      have c7b0 : decide (0 ≤ a1) = true := decide_eq_true c7
      clear c7
      by_cases c8 : a1 < ((rd_L1 l0 x6_1).length : Int)
      ·rw [if_pos c8] at H
       have c8b0 : decide (a1 < ((rd_L1 l0 x6_1).length : Int)) = true := decide_eq_true c8
       clear c8
       by_cases c9 : x5_1.length < 140737488355328
       ·rw [if_pos c9] at H
        have LMc9 := Aside0.mk c9
        clear c9
        obtain ⟨y132, hy132⟩ : ∃ y_ : List Int, y_ = (x5_1 ++ [rd (rd_L1 l0 x6_1) a1]) := ⟨_, rfl⟩
        replace H : (spec_l5Column.l0 k1 l0 a1 y132 (wrap64 (x6_1 + 1))) = some r := by first | (rw [hy132]; exact H) | exact H
        have Ny132 := Aside0.mk hy132
        clear hy132
        have H' := Aside0.mk H
        clear H
        have p130 : 0 ≤ (x6_1 : Int) := of_decide_eq_true asm
        have q130 : x6_1 < (l0.length : Int) := of_decide_eq_true asm
        obtain ⟨ad130, A130_0, c130_0, e130, hx130_0, hl130_0, hi130_0⟩ := at_L1 HR0.out x6_1 p130 q130
        cases e130
        replace hx130_0 := (HB.out.cell (World.block_lt_of_cell? w _ hx130_0)).trans hx130_0
        have HR130_0 := Aside0.mk hi130_0
        have HC130_0 := Aside0.mk hl130_0
        clear hi130_0 hl130_0
        replace p130 := eq_true p130
        replace q130 := eq_true q130
        have p131 : 0 ≤ (a1 : Int) := of_decide_eq_true asm
        have q131 : a1 < ((rd_L1 l0 x6_1).length : Int) := of_decide_eq_true asm
        obtain ⟨ad131, e131, hx131_0⟩ := Kd.at_int HR130_0.out a1 p131 q131
        cases e131
        replace hx131_0 := (HB.out.cell (World.block_lt_of_cell? w _ hx131_0)).trans hx131_0
        replace p131 := eq_true p131
        replace q131 := eq_true q131
        go_wp2_with (first | ((with_reducible refine gate_builtin (b := .append) (xs := #[.tmp 14, .tmp 22]) rfl ?_); at_builtin; refine Kd.R_append (Kd.int .u8) (w0 := w) w.heap.size rfl (.tmp 14) (.tmp 22) 24 5 (.int .u8 0) 1 rfl Try.underlying24 info5 rfl (by decide) (by omega) u5 x5_1 (rd (rd_L1 l0 x6_1) a1) [.int .u8 (rd (rd_L1 l0 x6_1) a1)] (fun _ => True) (fun _ => False) rfl rfl ?aP (fun _ hk => hk.elim) ?aF ?aO ?aB ?aS ?aL ?_; (case aP => exact rfl); (case aB => exact (bt)); (case aF => exact (fun _ _ => trivial)); (case aO => exact (mv HO_5.out)); (case aS => exact (below_size (bt))); (case aL => have := LMc9.out; omega); intro v133 w10 ho hb hg hat; rw [← Ny132.out] at ho; replace HB := Aside0.mk (hb); have HO134 := Aside0.mk (ho); clear HO_5; clear ho hb hg hat))
        go_roundg k1
        case measure => have := HK1.out; omega
        case rel => exact ⟨(y132), (wrap64 (x6_1 + 1)), (by first | rfl | (simp; done) | (simp [*]; done)), H', ⟨by have := HK1.out; omega⟩, ⟨mv HO134.out⟩, ⟨bt⟩⟩
       ·rw [if_neg c9] at H
        exact absurd H (by simp)
      ·rw [if_neg c8] at H
       exact absurd H (by simp)
     ·rw [if_neg c7] at H
      exact absurd H (by simp)
    ·rw [if_neg c6] at H
     exact absurd H (by simp)
   ·rw [if_neg c5] at H
    have c5b0 : decide (x6_1 < (l0.length : Int)) = false := decide_eq_false c5
    clear c5
    obtain rfl := Option.some.inj H
    go_wp2
    go_ret
    exact ⟨_, by first | rfl | (simp [errW_none, errW_some] <;> rfl) | (simp [*, errW_none, errW_some] <;> rfl), by (with_reducible repeat (first | apply Kd.R_alloc | apply Kd.R_drewN | apply Kd.R_drew)); exact HO_5.out, bt⟩

/-! ### spec_Encode: function 27 -/
mutual
def spec_Encode.l0 : Nat → Int → Int → Int → List Int → List (List Int) → List Int → Int → Option ((List (List Int)) × Bool)
 | 0, _, _, _, _, _, _, _ => none
 | k + 1, x0, x1, x8, x9, x10, x11, x12 => if x12 < x0 then (if 0 ≤ (wrap64 (x12 * x8)) then (if (wrap64 (x12 * x8)) ≤ (wrap64 ((wrap64 (x12 * x8)) + x8)) then (if (wrap64 ((wrap64 (x12 * x8)) + x8)) ≤ (x9.length : Int) then ((spec_l1Bytes.f ((x9.take ((wrap64 ((wrap64 (x12 * x8)) + x8)) : Int).toNat).drop ((wrap64 (x12 * x8)) : Int).toNat)).bind fun t156 => (if x10.length < 5864062014805 then (if x11.length < 140737488355328 then (spec_Encode.l0 k x0 x1 x8 x9 (x10 ++ [t156]) (x11 ++ [(x12) % 256]) (wrap64 (x12 + 1))) else (none)) else (none))) else (none)) else (none)) else (none)) else (spec_Encode.l1 k x0 x1 x8 x10 x11 x0)
def spec_Encode.l1 : Nat → Int → Int → Int → List (List Int) → List Int → Int → Option ((List (List Int)) × Bool)
 | 0, _, _, _, _, _, _ => none
 | k + 1, x0, x1, x8, x10, x11, x13 => if x13 < x1 then (spec_Encode.l2 k x0 x1 x8 x10 x11 x13 (([] : List Int)) 0) else (some (x10, true))
def spec_Encode.l2 : Nat → Int → Int → Int → List (List Int) → List Int → Int → List Int → Int → Option ((List (List Int)) × Bool)
 | 0, _, _, _, _, _, _, _, _ => none
 | k + 1, x0, x1, x8, x10, x11, x13, x14, x15 => if x15 < x8 then (if 0 ≤ x0 then (if x0 ≤ (x10.length : Int) then ((spec_l5Column.f k (x10.take (x0 : Int).toNat) x15).bind fun t172 => ((spec_GfLagrange.f k x11 t172 ((x13) % 256)).bind fun bt175 => (if x14.length < 140737488355328 then (spec_Encode.l2 k x0 x1 x8 x10 x11 x13 (x14 ++ [bt175.1]) (wrap64 (x15 + 1))) else (none)))) else (none)) else (none)) else (if x10.length < 5864062014805 then (spec_Encode.l1 k x0 x1 x8 (x10 ++ [x14]) x11 (wrap64 (x13 + 1))) else (none))
end
def spec_Encode.f (k : Nat) (a0 : Int) (a1 : Int) (l2 : List Int) : Option ((List (List Int)) × Bool) := (spec_l5Numbers.f a0 a1 (l2.length : Int)).bind fun t135 => (if t135 = true then ((spec_Long.f a0 (l2.length : Int)).bind fun t139 => ((spec_l1Bytes.f l2).bind fun t140 => (if 0 ≤ (wrap64 ((wrap64 (a0 * t139)) - (l2.length : Int))) then (if t140.length + (wrap64 ((wrap64 (a0 * t139)) - (l2.length : Int)) : Int).toNat < 140737488355328 then (spec_Encode.l0 k a0 a1 t139 (t140 ++ List.replicate (wrap64 ((wrap64 (a0 * t139)) - (l2.length : Int)) : Int).toNat 0) (([] : List (List Int))) (([] : List Int)) 0) else (none)) else (none)))) else (some ((([] : List (List Int))), false)))
set_option maxHeartbeats 8000000 in
set_option maxRecDepth 100000 in
theorem spec_Encode.calls (k : Nat) (a0 : Int) (a1 : Int) (A2 : Option Addr) (c2 : Nat) (l2 : List Int) (r1 : List (List Int)) (r2 : Bool) (w : World) (hr2 : Kd.C (Kd.int .u8) w A2 l2.length l2) (hc2 : l2.length ≤ c2) (h : spec_Encode.f k a0 a1 l2 = some (r1, r2)) :
  Calls Try.prog 27 #[.int .i64 a0, .int .i64 a1, .slice A2 l2.length c2] w fun e w' => ∃ v0_ : Value, e = .returned (.tuple #[v0_, .bool r2]) ∧ Kd.S (Kd.slice 5 (Kd.int .u8)) 24 w' w.heap.size (fun _ => True) v0_ r1 ∧ Below w.heap.size w w' := by
 have HR2 := Aside0.mk hr2
 have HC2 := Aside0.mk hc2
 clear hr2 hc2
 have HB := Aside0.mk (Below.refl w.heap.size w)
 have H : ((spec_l5Numbers.f a0 a1 (l2.length : Int)).bind fun t135 => (if t135 = true then ((spec_Long.f a0 (l2.length : Int)).bind fun t139 => ((spec_l1Bytes.f l2).bind fun t140 => (if 0 ≤ (wrap64 ((wrap64 (a0 * t139)) - (l2.length : Int))) then (if t140.length + (wrap64 ((wrap64 (a0 * t139)) - (l2.length : Int)) : Int).toNat < 140737488355328 then (spec_Encode.l0 k a0 a1 t139 (t140 ++ List.replicate (wrap64 ((wrap64 (a0 * t139)) - (l2.length : Int)) : Int).toNat 0) (([] : List (List Int))) (([] : List Int)) 0) else (none)) else (none)))) else (some ((([] : List (List Int))), false)))) = some (r1, r2) := h
 clear h
 replace H := Option.bind_eq_some_iff.mp H
 obtain ⟨t135, A40, H⟩ := H
 (try dsimp -simprocs only at H)
 have A4 := Aside0.mk A40
 clear A40
 by_cases c5 : t135 = true
 ·subst c5
  rw [if_pos rfl] at H
  replace H := Option.bind_eq_some_iff.mp H
  obtain ⟨t139, A60, H⟩ := H
  (try dsimp -simprocs only at H)
  have A6 := Aside0.mk A60
  clear A60
  replace H := Option.bind_eq_some_iff.mp H
  obtain ⟨t140, A70, H⟩ := H
  (try dsimp -simprocs only at H)
  have A7 := Aside0.mk A70
  clear A70
  obtain ⟨ji8, hji8⟩ : ∃ j_ : Int, (wrap64 ((wrap64 (a0 * t139)) - (l2.length : Int))) = j_ := ⟨_, rfl⟩
  replace H : (if 0 ≤ (ji8) then (if t140.length + (ji8 : Int).toNat < 140737488355328 then (spec_Encode.l0 k a0 a1 t139 (t140 ++ List.replicate (ji8 : Int).toNat 0) (([] : List (List Int))) (([] : List Int)) 0) else (none)) else (none)) = some (r1, r2) := by first | (rw [hji8] at H; exact H) | (simp only [hji8] at H ⊢; exact H)
  (try rw [hji8] at A4)
  (try rw [hji8] at A6)
  (try rw [hji8] at A7)
  have hji8w : (IntKind.i64.wrap ((wrap64 (a0 * t139)) - (l2.length : Int))) = ji8 := (i64_w _).trans hji8
  by_cases c9 : 0 ≤ (ji8)
  ·rw [if_pos c9] at H
   have c9b0 := eq_true c9
   have c9b1 : decide (0 ≤ (ji8)) = true := decide_eq_true c9
   clear c9
   by_cases c10 : t140.length + (ji8 : Int).toNat < 140737488355328
   ·rw [if_pos c10] at H
    have LMc10 := Aside0.mk c10
    clear c10
    obtain ⟨y143, hy143⟩ : ∃ y_ : List Int, y_ = (t140 ++ List.replicate (ji8 : Int).toNat 0) := ⟨_, rfl⟩
    replace H : (spec_Encode.l0 k a0 a1 t139 y143 (([] : List (List Int))) (([] : List Int)) 0) = some (r1, r2) := by first | (rw [hy143]; exact H) | exact H
    have Ny143 := Aside0.mk hy143
    clear hy143
    obtain ⟨y146, hy146⟩ : ∃ y_ : List (List Int), y_ = (([] : List (List Int))) := ⟨_, rfl⟩
    replace H : (spec_Encode.l0 k a0 a1 t139 y143 y146 (([] : List Int)) 0) = some (r1, r2) := by first | (rw [hy146]; exact H) | exact H
    have Ny146 := Aside0.mk hy146
    clear hy146
    obtain ⟨y149, hy149⟩ : ∃ y_ : List Int, y_ = (([] : List Int)) := ⟨_, rfl⟩
    replace H : (spec_Encode.l0 k a0 a1 t139 y143 y146 y149 0) = some (r1, r2) := by first | (rw [hy149]; exact H) | exact H
    have Ny149 := Aside0.mk hy149
    clear hy149
    have H' := Aside0.mk H
    clear H
    go_enter Try.func27, Try.ntmps27
    go_wp2_with (first | ((with_reducible refine gate_callee (f := 60) rfl ?_); refine goesL_ (some 22) rfl rfl Try.func60 (by kernel_rfl) rfl #[.int .i64 a0, .int .i64 a1, .int .i64 (l2.length : Int)] rfl av ?_; (with_reducible refine (spec_l5Numbers.calls a0 a1 (l2.length : Int) true _ A4.out).mono ?_); rintro e w' ⟨rfl, ⟨nd, rfl⟩⟩; refine ⟨_, rfl, ?_⟩) | ((with_reducible refine gate_callee (f := 61) rfl ?_); refine goesL_ (some 28) rfl rfl Try.func61 (by kernel_rfl) rfl #[.int .i64 a0, .int .i64 (l2.length : Int)] rfl av ?_; (with_reducible refine (spec_Long.calls a0 (l2.length : Int) t139 _ A6.out).mono ?_); rintro e w' ⟨rfl, ⟨nd, rfl⟩⟩; refine ⟨_, rfl, ?_⟩) | ((with_reducible refine gate_callee (f := 45) rfl ?_); refine goesL_ (some 30) rfl rfl Try.func45 (by kernel_rfl) rfl #[.slice A2 l2.length c2] rfl av ?_; (with_reducible refine (spec_l1Bytes.calls _ _ l2 t140 _ ?side1 ?side2 A7.out).mono ?_); (case side1 => exact cv (HR2.out)); (case side2 => exact HC2.out); rintro e w11 ⟨v141, rfl, ho0, hb⟩; refine ⟨_, rfl, ?_⟩; have HO142 := Aside0.mk (Kd.R_lower ho0 (below_size (bt))); replace HB := Aside0.mk (below_step (bt) hb); (try clear hb); (try clear hb2); (try clear hk); (try clear hi); (try clear ho0)) | (at_builtin; refine Kd.R_append_zeros (Kd.int .u8) (w0 := w) w.heap.size rfl (.tmp 30) (.tmp 36) 24 3 5 (.int .u8 0) 1 rfl Try.underlying24 Try.underlying3 info5 rfl (by decide) (by omega) v141 t140 0 (ji8 : Int) (fun _ => True) rfl rfl rfl ?aF ?aO (of_decide_eq_true asm) ?aB ?aS ?aL ?_; (case aB => exact (bt)); (case aF => exact (fun _ _ => trivial)); (case aO => exact (mv HO142.out)); (case aS => exact (below_size (bt))); (case aL => have := LMc10.out; omega); intro v144 w12 ho hb hg hat; rw [← Ny143.out] at ho; replace HB := Aside0.mk (hb); have HO145 := Aside0.mk (ho); clear HO142; clear ho hb hg hat) | ((with_reducible refine gate_dst (N := 38) rfl ?_); refine Kd.S_lit (Kd.slice 5 (Kd.int .u8)) _ 24 ?hg (N := 38) ?hd (xs := ([] : List (List Int))) (inner := []) (ok := fun _ => True) (okp := fun _ => True) ?hr ?hp (fun _ hk => hk) trivial (Below.refl _ _) (Nat.le_refl _) (by simp) ?_; (case hd => rfl); (case hg => rfl); (case hr => first | (go_simp; done) | (go_simp; rfl)); (case hp => exact (Reps.none _ _)); intro v147 w13 ho14 hb hg_ hnew_; clear hg_ hnew_; (first | rw [← Ny146.out] at ho14 | (simp only [Int.reduceToNat] at ho14; rw [← Ny146.out] at ho14)); have HO148 := Aside0.mk (Kd.S_lower (Kd.S_new' ho14 (Kd.R_lt (mv HO145.out))) (below_size (bt))); replace HO145 := Aside0.mk (Kd.R_below (mv HO145.out) hb); replace HB := Aside0.mk (below_step (bt) hb); clear hb ho14) | ((with_reducible refine gate_dst (N := 39) rfl ?_); refine Kd.R_lit (Kd.int .u8) _ 5 ?hg (N := 39) ?hd (xs := ([] : List Int)) (inner := []) (ok := fun _ => True) (okp := fun _ => True) ?hr ?hp (fun _ hk => hk) trivial (Below.refl _ _) (Nat.le_refl _) (by simp) ?_; (case hd => rfl); (case hg => rfl); (case hr => first | (go_simp; done) | (go_simp; rfl)); (case hp => exact (Reps.none _ _)); intro v150 w15 ho16 hb hg_ hnew_; clear hg_ hnew_; (first | rw [← Ny149.out] at ho16 | (simp only [Int.reduceToNat] at ho16; rw [← Ny149.out] at ho16)); replace HO148 := Aside0.mk (Kd.S_elder' (mv HO148.out) (Kd.R_base ho16) hb); have HO151 := Aside0.mk (Kd.R_lower (Kd.R_new' ho16 (Kd.R_lt (mv HO145.out))) (below_size (bt))); replace HO145 := Aside0.mk (Kd.R_elder' (mv HO145.out) (Kd.R_base ho16) hb); replace HB := Aside0.mk (below_step (bt) hb); clear hb ho16))
    go_loopg [10, 11, 12] k (fun kq v10 v11 v12 w' => ∃ (x10_1 : List (List Int)) (x11_1 : List Int) (x12_1 : Int), v12 = .int .i64 x12_1 ∧ Aside0 (spec_Encode.l0 kq a0 a1 t139 y143 x10_1 x11_1 x12_1 = some (r1, r2)) ∧ Aside0 (kq ≤ k) ∧ Aside0 (Kd.R (Kd.int .u8) 5 w' w.heap.size (fun k_ => some k_ ≠ (v11 : Value).ownBlock) v144 y143) ∧ Aside0 (Kd.S (Kd.slice 5 (Kd.int .u8)) 24 w' w.heap.size (fun k_ => some k_ ≠ (v144 : Value).ownBlock ∧ some k_ ≠ (v11 : Value).ownBlock) v10 x10_1) ∧ Aside0 (Kd.R (Kd.int .u8) 5 w' w.heap.size (fun k_ => some k_ ≠ (v144 : Value).ownBlock) v11 x11_1) ∧ Aside0 (Below w.heap.size w w'))
    case atStart => exact ⟨(y146), (y149), (0), (by first | rfl | (simp; done) | (simp [*]; done)), H', ⟨Nat.le_refl _⟩, ⟨by (with_reducible repeat (first | apply Kd.R_alloc | apply Kd.R_drewN | apply Kd.R_drew)); exact Kd.R_mono HO145.out (fun _ hk => hk.2)⟩, ⟨by (with_reducible repeat (first | apply Kd.S_alloc | apply Kd.S_drewN | apply Kd.S_drew)); exact Kd.S_mono HO148.out (fun _ hk => ⟨hk.1.2, hk.2⟩)⟩, ⟨by (with_reducible repeat (first | apply Kd.R_alloc | apply Kd.R_drewN | apply Kd.R_drew)); exact Kd.R_mono HO151.out (fun _ hk => hk.2)⟩, ⟨bt⟩⟩
    case round =>
     clear H'
     try clear c1
     try clear c2
     try clear p2
     try clear c4
     try clear c5
     try clear c6
     try clear p6
     try clear c9
     try clear c9b0
     try clear c9b1
     try clear c10
     obtain ⟨x10_1, x11_1, x12_1, rfl, HA, HK1, HO_9, HO_10, HO_11, HB⟩ := hrel
     cases gk with
     | zero => exact absurd HA.out (by simp [spec_Encode.l0])
     | succ k1 =>
      have H := HA.out
      clear HA
      simp only [spec_Encode.l0] at H
      by_cases c17 : x12_1 < a0
      ·rw [if_pos c17] at H
       have c17b0 : decide (x12_1 < a0) = true := decide_eq_true c17
       clear c17
       obtain ⟨ji18, hji18⟩ : ∃ j_ : Int, (wrap64 (x12_1 * t139)) = j_ := ⟨_, rfl⟩
       replace H : (if 0 ≤ (ji18) then (if (ji18) ≤ (wrap64 ((ji18) + t139)) then (if (wrap64 ((ji18) + t139)) ≤ (y143.length : Int) then ((spec_l1Bytes.f ((y143.take ((wrap64 ((ji18) + t139)) : Int).toNat).drop ((ji18) : Int).toNat)).bind fun t156 => (if x10_1.length < 5864062014805 then (if x11_1.length < 140737488355328 then (spec_Encode.l0 k1 a0 a1 t139 y143 (x10_1 ++ [t156]) (x11_1 ++ [(x12_1) % 256]) (wrap64 (x12_1 + 1))) else (none)) else (none))) else (none)) else (none)) else (none)) = some (r1, r2) := by first | (rw [hji18] at H; exact H) | (simp only [hji18] at H ⊢; exact H)
       have hji18w : (IntKind.i64.wrap (x12_1 * t139)) = ji18 := (i64_w _).trans hji18
       by_cases c19 : 0 ≤ (ji18)
       ·rw [if_pos c19] at H
        have c19b0 := eq_true c19
        have c19b1 : decide (0 ≤ (ji18)) = true := decide_eq_true c19
        clear c19
        by_cases c20 : (ji18) ≤ (wrap64 ((ji18) + t139))
        ·rw [if_pos c20] at H
         have c20b0 := eq_true c20
         have c20b1 : decide ((ji18) ≤ (wrap64 ((ji18) + t139))) = true := decide_eq_true c20
         by_cases c21 : (wrap64 ((ji18) + t139)) ≤ (y143.length : Int)
         ·rw [if_pos c21] at H
          have c21b0 := eq_true c21
          have c21b1 : decide ((wrap64 ((ji18) + t139)) ≤ (y143.length : Int)) = true := decide_eq_true c21
          obtain ⟨y152, hy152⟩ : ∃ y_ : List Int, y_ = ((y143.take ((wrap64 ((ji18) + t139)) : Int).toNat).drop ((ji18) : Int).toNat) := ⟨_, rfl⟩
          replace H : ((spec_l1Bytes.f y152).bind fun t156 => (if x10_1.length < 5864062014805 then (if x11_1.length < 140737488355328 then (spec_Encode.l0 k1 a0 a1 t139 y143 (x10_1 ++ [t156]) (x11_1 ++ [(x12_1) % 256]) (wrap64 (x12_1 + 1))) else (none)) else (none))) = some (r1, r2) := by first | (rw [hy152]; exact H) | exact H
          have Ny152 := Aside0.mk hy152
          clear hy152
          replace H := Option.bind_eq_some_iff.mp H
          obtain ⟨t156, A220, H⟩ := H
          (try dsimp -simprocs only at H)
          have A22 := Aside0.mk A220
          clear A220
          by_cases c23 : x10_1.length < 5864062014805
          ·rw [if_pos c23] at H
           have LMc23 := Aside0.mk c23
           clear c23
           obtain ⟨y159, hy159⟩ : ∃ y_ : List (List Int), y_ = (x10_1 ++ [t156]) := ⟨_, rfl⟩
           replace H : (if x11_1.length < 140737488355328 then (spec_Encode.l0 k1 a0 a1 t139 y143 y159 (x11_1 ++ [(x12_1) % 256]) (wrap64 (x12_1 + 1))) else (none)) = some (r1, r2) := by first | (rw [hy159]; exact H) | exact H
           have Ny159 := Aside0.mk hy159
           clear hy159
           by_cases c24 : x11_1.length < 140737488355328
           ·rw [if_pos c24] at H
            have LMc24 := Aside0.mk c24
            clear c24
            obtain ⟨y162, hy162⟩ : ∃ y_ : List Int, y_ = (x11_1 ++ [(x12_1) % 256]) := ⟨_, rfl⟩
            replace H : (spec_Encode.l0 k1 a0 a1 t139 y143 y159 y162 (wrap64 (x12_1 + 1))) = some (r1, r2) := by first | (rw [hy162]; exact H) | exact H
            have Ny162 := Aside0.mk hy162
            clear hy162
            have H' := Aside0.mk H
            clear H
            obtain ⟨Ao26, co26, eo26⟩ := Kd.R_slice HO_9.out
            subst eo26
            have q25 : ((wrap64 ((ji18) + t139)) : Int) ≤ ((y143.length : Int) : Int) := of_decide_eq_true asm
            obtain ⟨i025, hi025, _, hsz25, _⟩ := info_parts info5
            have hroom25 : y143.length ≤ co26 := (Kd.R_reads' HO_9.out).2.1
            have hC25 : Kd.C (Kd.int .u8) _ Ao26 y143.length y143 := (Kd.R_reads' HO_9.out).2.2
            have ql25 : ((ji18) : Int) ≤ ((wrap64 ((ji18) + t139)) : Int) := of_decide_eq_true asm
            have q025 : (0 : Int) ≤ ((ji18) : Int) := of_decide_eq_true asm
            have hcut25 := cut_mid (P := Try.prog) 24 5 .i64 .i64 Try.underlying24 hi025 1 hsz25 Ao26 y143.length co26 (ji18) (wrap64 ((ji18) + t139)) q025 ql25 q25 hroom25
            have hr25 := Kd.C_mid (lo := ((ji18) : Int).toNat) (hi := ((wrap64 ((ji18) + t139)) : Int).toNat) (c := co26) hC25 (by omega) (by omega) hroom25
            obtain ⟨A25, hA25⟩ : ∃ A1, A1 = (if co26 = ((ji18) : Int).toNat then Ao26 else (Ao26 : Option Addr).map (·.add (((ji18) : Int).toNat * 1))) := ⟨_, rfl⟩
            obtain ⟨c25, hc25⟩ : ∃ c1, c1 = co26 - ((ji18) : Int).toNat := ⟨_, rfl⟩
            have hy25 : y152.length = ((wrap64 ((ji18) + t139)) : Int).toNat - ((ji18) : Int).toNat := (by rw [Ny152.out, List.length_drop, List.length_take] <;> omega)
            rw [show ((y143).take ((wrap64 ((ji18) + t139)) : Int).toNat).drop ((ji18) : Int).toNat = y152 from Ny152.out.symm] at hr25
            replace hr25 : Kd.C (Kd.int .u8) _ A25 y152.length y152 := (by rw [hA25]; exact hr25)
            rw [← hy25, ← hA25, ← hc25] at hcut25
            have HR155 := Aside0.mk hr25
            have HC155 := Aside0.mk (show y152.length ≤ c25 from by rw [hy25, hc25]; exact Nat.sub_le_sub_right (Nat.le_trans (by omega) hroom25) _)
            clear hr25 hC25 hroom25 hi025 hsz25 hc25
            have KY25 := Aside0.mk hy25
            have KA25 := Aside0.mk hA25
            clear hy25 hA25
            have KL25 := Aside0.mk (show ((wrap64 ((ji18) + t139)) : Int).toNat ≤ y143.length from by omega)
            have KM25 := Aside0.mk (show ((ji18) : Int).toNat ≤ ((wrap64 ((ji18) + t139)) : Int).toNat from by omega)
            replace q25 := eq_true q25
            go_wp2_with (first | ((with_reducible refine gate_callee (f := 45) rfl ?_); refine goesL_ (some 56) rfl rfl Try.func45 (by kernel_rfl) rfl #[.slice A25 y152.length c25] rfl av ?_; (with_reducible refine (spec_l1Bytes.calls _ _ y152 t156 _ ?side1 ?side2 A22.out).mono ?_); (case side1 => repeat (first | exact (by repeat (first | (with_reducible exact HR155.out) | (with_reducible refine Kd.C_alloc ?_ _) | (with_reducible refine Kd.C_drewN ?_ _) | (with_reducible refine Kd.C_drew ?_) | exact HR155.out)) | (with_reducible refine Kd.C_alloc ?_ _) | (with_reducible refine Kd.C_drewN ?_ _) | (with_reducible refine Kd.C_drew ?_))); (case side2 => exact HC155.out); rintro e w27 ⟨v157, rfl, ho0, hb⟩; refine ⟨_, rfl, ?_⟩; replace HO_10 := Aside0.mk (Kd.S_elder' (mv HO_10.out) (Kd.R_base ho0) hb); have HO158 := Aside0.mk (Kd.R_lower (Kd.R_new' (Kd.R_new' ho0 (Kd.R_lt (mv HO_9.out))) (Kd.R_lt (mv HO_11.out))) (below_size (bt))); replace HO_9 := Aside0.mk (Kd.R_elder' (mv HO_9.out) (Kd.R_base ho0) hb); replace HO_11 := Aside0.mk (Kd.R_elder' (mv HO_11.out) (Kd.R_base ho0) hb); replace HR155 := Aside0.mk (Kd.C_below (by repeat (first | (with_reducible exact HR155.out) | (with_reducible refine Kd.C_alloc ?_ _) | (with_reducible refine Kd.C_drewN ?_ _) | (with_reducible refine Kd.C_drew ?_) | exact HR155.out)) hb); replace HB := Aside0.mk (below_step (bt) hb); (try clear hb); (try clear hb2); (try clear hk); (try clear hi); (try clear ho0); obtain ⟨Ao29, co29, eo29⟩ := Kd.R_slice HO158.out; subst eo29) | ((with_reducible refine gate_builtin (b := .append) (xs := #[.tmp 45, .tmp 57]) rfl ?_); at_builtin; refine Kd.S_append (Kd.slice 5 (Kd.int .u8)) (w0 := w) w.heap.size rfl (.tmp 45) (.tmp 57) 22 24 (.slice none 0 0) 24 rfl Try.underlying22 info24 rfl (by decide) (by omega) u10 x10_1 t156 [.slice Ao29 t156.length co29] (fun k_ => some k_ ≠ (.slice Ao26 y143.length co26 : Value).ownBlock ∧ some k_ ≠ (u11 : Value).ownBlock) (fun k_ => some k_ = (.slice Ao29 t156.length co29 : Value).ownBlock) rfl rfl ?aP (fun k_ hk_ => ((Kd.R_mono (ok' := fun k_ => ((fun k_ => some k_ ≠ (.slice Ao26 y143.length co26 : Value).ownBlock ∧ some k_ ≠ (u11 : Value).ownBlock)) k_ ∧ some k_ ≠ (u10 : Value).ownBlock) (Kd.R_apart' (HO158.out) (Kd.S_typed HO_10.out) (by decide)) (fun k_ hk => ⟨⟨hk.1.1.2, hk.1.2⟩, hk.2⟩))).1 k_ hk_.symm) ?aF ?aO ?aB ?aS ?aL ?_; (case aP => exact Kd.M_row (Kd.R_mono (Kd.R_tight rfl (Kd.R_mono (ok' := fun k_ => ((fun k_ => some k_ ≠ (.slice Ao26 y143.length co26 : Value).ownBlock ∧ some k_ ≠ (u11 : Value).ownBlock)) k_ ∧ some k_ ≠ (u10 : Value).ownBlock) (Kd.R_apart' (HO158.out) (Kd.S_typed HO_10.out) (by decide)) (fun k_ hk => ⟨⟨hk.1.1.2, hk.1.2⟩, hk.2⟩))) (fun _ h_ => h_))); (case aB => exact (bt)); (case aF => exact (fun k_ hk => ⟨Kd.fresh' (Kd.R_lt (mv HO_9.out)) k_ hk, Kd.fresh' (Kd.R_lt (mv HO_11.out)) k_ hk⟩)); (case aO => exact (by (with_reducible repeat (first | apply Kd.S_alloc | apply Kd.S_drewN | apply Kd.S_drew)); exact Kd.S_mono HO_10.out (fun k_ hk => ⟨⟨hk.1.1, hk.1.2⟩, fun e_ => hk.2 e_⟩))); (case aS => exact (below_size (bt))); (case aL => have := LMc23.out; omega); intro v160 w28 ho hb hg hat; rw [← Ny159.out] at ho; replace HO_11 := Aside0.mk (Kd.R_over' (mv HO_11.out) (Kd.S_typed (mv HO_10.out)) (by decide) hg); replace HB := Aside0.mk (hb); replace HR155 := Aside0.mk ((show Kd.C (Kd.int .u8) w28 A25 y152.length y152 from by rw [Ny152.out, KA25.out]; exact Kd.C_mid (lo := ((ji18) : Int).toNat) (hi := ((wrap64 ((ji18) + t139)) : Int).toNat) (c := co26) ((Kd.R_reads' (Kd.R_over' (mv HO_9.out) (Kd.S_typed (mv HO_10.out)) (by decide) hg)).2.2) KM25.out KL25.out ((Kd.R_reads' (Kd.R_over' (mv HO_9.out) (Kd.S_typed (mv HO_10.out)) (by decide) hg)).2.1))); replace HO_9 := Aside0.mk (Kd.R_over' (mv HO_9.out) (Kd.S_typed (mv HO_10.out)) (by decide) hg); have HO161 := Aside0.mk (ho); clear HO_10 HO158; clear ho hb hg hat) | ((with_reducible refine gate_builtin (b := .append) (xs := #[.tmp 59, .tmp 62]) rfl ?_); at_builtin; refine Kd.R_append (Kd.int .u8) (w0 := w) w.heap.size rfl (.tmp 59) (.tmp 62) 24 5 (.int .u8 0) 1 rfl Try.underlying24 info5 rfl (by decide) (by omega) u11 x11_1 ((x12_1) % 256) [.int .u8 ((x12_1) % 256)] (fun k_ => some k_ ≠ (.slice Ao26 y143.length co26 : Value).ownBlock) (fun _ => False) rfl rfl ?aP (fun _ hk => hk.elim) ?aF ?aO ?aB ?aS ?aL ?_; (case aP => exact rfl); (case aB => exact (bt)); (case aF => exact (fun k_ hk => Kd.fresh' (Kd.R_lt (mv HO_9.out)) k_ hk)); (case aO => exact (by (with_reducible repeat (first | apply Kd.R_alloc | apply Kd.R_drewN | apply Kd.R_drew)); exact Kd.R_mono HO_11.out (fun _ hk => hk.1))); (case aS => exact (below_size (bt))); (case aL => have := LMc24.out; omega); intro v163 w30 ho hb hg hat; rw [← Ny162.out] at ho; replace HO161 := Aside0.mk (Kd.S_after (ok := (fun k_ => some k_ ≠ (.slice Ao26 y143.length co26 : Value).ownBlock)) (mv HO161.out) hg hat); replace HB := Aside0.mk (hb); replace HR155 := Aside0.mk ((show Kd.C (Kd.int .u8) w30 A25 y152.length y152 from by rw [Ny152.out, KA25.out]; exact Kd.C_mid (lo := ((ji18) : Int).toNat) (hi := ((wrap64 ((ji18) + t139)) : Int).toNat) (c := co26) ((Kd.R_reads' (Kd.R_after (ok := (fun _ => True)) (by (with_reducible repeat (first | apply Kd.R_alloc | apply Kd.R_drewN | apply Kd.R_drew)); exact Kd.R_mono HO_9.out (fun _ hk => ⟨trivial, hk.1⟩)) hg hat)).2.2) KM25.out KL25.out ((Kd.R_reads' (Kd.R_after (ok := (fun _ => True)) (by (with_reducible repeat (first | apply Kd.R_alloc | apply Kd.R_drewN | apply Kd.R_drew)); exact Kd.R_mono HO_9.out (fun _ hk => ⟨trivial, hk.1⟩)) hg hat)).2.1))); replace HO_9 := Aside0.mk (Kd.R_after (ok := (fun _ => True)) (by (with_reducible repeat (first | apply Kd.R_alloc | apply Kd.R_drewN | apply Kd.R_drew)); exact Kd.R_mono HO_9.out (fun _ hk => ⟨trivial, hk.1⟩)) hg hat); have HO164 := Aside0.mk (ho); clear HO_11; clear ho hb hg hat))
            go_roundg k1
            case measure => have := HK1.out; omega
            case rel => exact ⟨(y159), (y162), (wrap64 (x12_1 + 1)), (by first | rfl | (simp; done) | (simp [*]; done)), H', ⟨by have := HK1.out; omega⟩, ⟨by (with_reducible repeat (first | apply Kd.R_alloc | apply Kd.R_drewN | apply Kd.R_drew)); exact Kd.R_mono HO_9.out (fun _ hk => hk.2)⟩, ⟨mv HO161.out⟩, ⟨mv HO164.out⟩, ⟨bt⟩⟩
           ·rw [if_neg c24] at H
            exact absurd H (by simp)
          ·rw [if_neg c23] at H
           exact absurd H (by simp)
         ·rw [if_neg c21] at H
          exact absurd H (by simp)
        ·rw [if_neg c20] at H
         exact absurd H (by simp)
       ·rw [if_neg c19] at H
        exact absurd H (by simp)
      ·rw [if_neg c17] at H
       have c17b0 : decide (x12_1 < a0) = false := decide_eq_false c17
       clear c17
       have H' := Aside0.mk H
       clear H
       go_wp2
       go_loopg [10, 13] k1 (fun kq v10 v13 w' => ∃ (x10_2 : List (List Int)) (x13_2 : Int), v13 = .int .i64 x13_2 ∧ Aside0 (spec_Encode.l1 kq a0 a1 t139 x10_2 x11_1 x13_2 = some (r1, r2)) ∧ Aside0 (kq ≤ k1) ∧ Aside0 (Kd.S (Kd.slice 5 (Kd.int .u8)) 24 w' w.heap.size (fun k_ => some k_ ≠ (u11 : Value).ownBlock) v10 x10_2) ∧ Aside0 (Kd.R (Kd.int .u8) 5 w' w.heap.size (fun _ => True) u11 x11_1) ∧ Aside0 (Below w.heap.size w w'))
       case atStart => exact ⟨(x10_1), (a0), (by first | rfl | (simp; done) | (simp [*]; done)), H', ⟨Nat.le_refl _⟩, ⟨by (with_reducible repeat (first | apply Kd.S_alloc | apply Kd.S_drewN | apply Kd.S_drew)); exact Kd.S_mono HO_10.out (fun _ hk => hk.2)⟩, ⟨by (with_reducible repeat (first | apply Kd.R_alloc | apply Kd.R_drewN | apply Kd.R_drew)); exact Kd.R_mono HO_11.out (fun _ hk => trivial)⟩, ⟨bt⟩⟩
       case round =>
        clear H'
        try clear c1
        try clear c2
        try clear p2
        try clear q2
        try clear c4
        try clear c5
        try clear c6
        try clear p6
        try clear c9
        try clear c9b0
        try clear c9b1
        try clear c10
        try clear c17
        try clear c17b0
        try clear c19
        try clear c19b0
        try clear c19b1
        try clear c20
        try clear c20b0
        try clear c20b1
        try clear c21
        try clear c21b0
        try clear c21b1
        try clear c23
        try clear c24
        try clear c25
        try clear q25
        try clear c27
        try clear p2
        try clear p6
        try clear q025
        try clear q25
        obtain ⟨x10_2, x13_2, rfl, HA, HK2, HO_10, HO_11, HB⟩ := hrel
        cases gk with
        | zero => exact absurd HA.out (by simp [spec_Encode.l1])
        | succ k2 =>
         have H := HA.out
         clear HA
         simp only [spec_Encode.l1] at H
         by_cases c31 : x13_2 < a1
         ·rw [if_pos c31] at H
          have c31b0 : decide (x13_2 < a1) = true := decide_eq_true c31
          clear c31
          obtain ⟨y165, hy165⟩ : ∃ y_ : List Int, y_ = (([] : List Int)) := ⟨_, rfl⟩
          replace H : (spec_Encode.l2 k2 a0 a1 t139 x10_2 x11_1 x13_2 y165 0) = some (r1, r2) := by first | (rw [hy165]; exact H) | exact H
          have Ny165 := Aside0.mk hy165
          clear hy165
          have H' := Aside0.mk H
          clear H
          go_wp2_with (first | ((with_reducible refine gate_dst (N := 70) rfl ?_); refine Kd.R_lit (Kd.int .u8) _ 5 ?hg (N := 70) ?hd (xs := ([] : List Int)) (inner := []) (ok := fun _ => True) (okp := fun _ => True) ?hr ?hp (fun _ hk => hk) trivial (Below.refl _ _) (Nat.le_refl _) (by simp) ?_; (case hd => rfl); (case hg => rfl); (case hr => first | (go_simp; done) | (go_simp; rfl)); (case hp => exact (Reps.none _ _)); intro v166 w32 ho33 hb hg_ hnew_; clear hg_ hnew_; (first | rw [← Ny165.out] at ho33 | (simp only [Int.reduceToNat] at ho33; rw [← Ny165.out] at ho33)); replace HO_10 := Aside0.mk (Kd.S_elder' (mv HO_10.out) (Kd.R_base ho33) hb); have HO167 := Aside0.mk (Kd.R_lower (Kd.R_new' ho33 (Kd.R_lt (mv HO_11.out))) (below_size (bt))); replace HO_11 := Aside0.mk (Kd.R_elder' (mv HO_11.out) (Kd.R_base ho33) hb); replace HB := Aside0.mk (below_step (bt) hb); clear hb ho33))
          go_loopg [14, 15] k2 (fun kq v14 v15 w' => ∃ (x14_3 : List Int) (x15_3 : Int), v15 = .int .i64 x15_3 ∧ Aside0 (spec_Encode.l2 kq a0 a1 t139 x10_2 x11_1 x13_2 x14_3 x15_3 = some (r1, r2)) ∧ Aside0 (kq ≤ k2) ∧ Aside0 (Kd.S (Kd.slice 5 (Kd.int .u8)) 24 w' w.heap.size (fun k_ => some k_ ≠ (u11 : Value).ownBlock ∧ some k_ ≠ (v14 : Value).ownBlock) u10 x10_2) ∧ Aside0 (Kd.R (Kd.int .u8) 5 w' w.heap.size (fun k_ => some k_ ≠ (v14 : Value).ownBlock) u11 x11_1) ∧ Aside0 (Kd.R (Kd.int .u8) 5 w' w.heap.size (fun k_ => some k_ ≠ (u11 : Value).ownBlock) v14 x14_3) ∧ Aside0 (Below w.heap.size w w'))
          case atStart => exact ⟨(y165), (0), (by first | rfl | (simp; done) | (simp [*]; done)), H', ⟨Nat.le_refl _⟩, ⟨mv HO_10.out⟩, ⟨by (with_reducible repeat (first | apply Kd.R_alloc | apply Kd.R_drewN | apply Kd.R_drew)); exact Kd.R_mono HO_11.out (fun _ hk => hk.2)⟩, ⟨by (with_reducible repeat (first | apply Kd.R_alloc | apply Kd.R_drewN | apply Kd.R_drew)); exact Kd.R_mono HO167.out (fun _ hk => hk.2)⟩, ⟨bt⟩⟩
          case round =>
           clear H'
           try clear c1
           try clear c2
           try clear p2
           try clear q2
           try clear c3
           try clear c4
           try clear c5
           try clear c6
           try clear p6
           try clear c9
           try clear c9b0
           try clear c9b1
           try clear c10
           try clear c17
           try clear c17b0
           try clear c19
           try clear c19b0
           try clear c19b1
           try clear c20
           try clear c20b0
           try clear c20b1
           try clear c21
           try clear c21b0
           try clear c21b1
           try clear c23
           try clear c24
           try clear c25
           try clear q25
           try clear c27
           try clear c31
           try clear c31b0
           try clear p2
           try clear p6
           try clear q025
           try clear q2
           try clear q25
           obtain ⟨x14_3, x15_3, rfl, HA, HK3, HO_10, HO_11, HO_14, HB⟩ := hrel
           cases gk with
           | zero => exact absurd HA.out (by simp [spec_Encode.l2])
           | succ k3 =>
            have H := HA.out
            clear HA
            simp only [spec_Encode.l2] at H
            by_cases c34 : x15_3 < t139
            ·rw [if_pos c34] at H
             have c34b0 : decide (x15_3 < t139) = true := decide_eq_true c34
             clear c34
             by_cases c35 : 0 ≤ a0
             ·rw [if_pos c35] at H
              have c35b0 := eq_true c35
              have c35b1 : decide (0 ≤ a0) = true := decide_eq_true c35
              clear c35
              by_cases c36 : a0 ≤ (x10_2.length : Int)
              ·rw [if_pos c36] at H
               have c36b0 := eq_true c36
               have c36b1 : decide (a0 ≤ (x10_2.length : Int)) = true := decide_eq_true c36
               clear c36
               obtain ⟨y168, hy168⟩ : ∃ y_ : List (List Int), y_ = (x10_2.take (a0 : Int).toNat) := ⟨_, rfl⟩
               replace H : ((spec_l5Column.f k3 y168 x15_3).bind fun t172 => ((spec_GfLagrange.f k3 x11_1 t172 ((x13_2) % 256)).bind fun bt175 => (if x14_3.length < 140737488355328 then (spec_Encode.l2 k3 a0 a1 t139 x10_2 x11_1 x13_2 (x14_3 ++ [bt175.1]) (wrap64 (x15_3 + 1))) else (none)))) = some (r1, r2) := by first | (rw [hy168]; exact H) | exact H
               have Ny168 := Aside0.mk hy168
               clear hy168
               replace H := Option.bind_eq_some_iff.mp H
               obtain ⟨t172, A370, H⟩ := H
               (try dsimp -simprocs only at H)
               have A37 := Aside0.mk A370
               clear A370
               replace H := Option.bind_eq_some_iff.mp H
               obtain ⟨⟨t175, t176⟩, A380, H⟩ := H
               (try dsimp -simprocs only at H)
               have A38 := Aside0.mk A380
               clear A380
               by_cases c39 : x14_3.length < 140737488355328
               ·rw [if_pos c39] at H
                have LMc39 := Aside0.mk c39
                clear c39
                obtain ⟨y177, hy177⟩ : ∃ y_ : List Int, y_ = (x14_3 ++ [t175]) := ⟨_, rfl⟩
                replace H : (spec_Encode.l2 k3 a0 a1 t139 x10_2 x11_1 x13_2 y177 (wrap64 (x15_3 + 1))) = some (r1, r2) := by first | (rw [hy177]; exact H) | exact H
                have Ny177 := Aside0.mk hy177
                clear hy177
                have H' := Aside0.mk H
                clear H
                obtain ⟨Ao41, co41, eo41⟩ := Kd.S_slice HO_10.out
                subst eo41
                have q40 : (a0 : Int) ≤ ((x10_2.length : Int) : Int) := of_decide_eq_true asm
                obtain ⟨i040, hi040, _, hsz40, _⟩ := info_parts info24
                have hroom40 : x10_2.length ≤ co41 := (Kd.S_reads' HO_10.out).2.1
                have hC40 : Kd.C (Kd.slice 5 (Kd.int .u8)) _ Ao41 x10_2.length x10_2 := (Kd.S_reads' HO_10.out).2.2
                have hcut40 := cut_to (P := Try.prog) 22 24 .i64 Try.underlying22 hi040 Ao41 x10_2.length co41 a0 (of_decide_eq_true asm) q40 hroom40
                have hr40 := Kd.C_take (m := (a0 : Int).toNat) hC40 (by omega)
                have hy40 : y168.length = (a0 : Int).toNat := (by rw [Ny168.out, List.length_take]; omega)
                rw [← Ny168.out] at hr40
                rw [← hy40] at hcut40
                have HR171 := Aside0.mk hr40
                have HC171 := Aside0.mk (show y168.length ≤ co41 from by omega)
                clear hr40 hC40 hroom40 hi040 hsz40
                have KY40 := Aside0.mk hy40
                clear hy40
                have KL40 := Aside0.mk (show (a0 : Int).toNat ≤ x10_2.length from by omega)
                replace q40 := eq_true q40
                go_wp2_with (first | ((with_reducible refine gate_callee (f := 62) rfl ?_); refine goesL_ (some 82) rfl rfl Try.func62 (by kernel_rfl) rfl #[.slice Ao41 y168.length co41, .int .i64 x15_3] rfl av ?_; (with_reducible refine (spec_l5Column.calls k3 _ _ y168 x15_3 t172 _ ?side1 ?side2 A37.out).mono ?_); (case side1 => repeat (first | exact (by repeat (first | (with_reducible exact HR171.out) | (with_reducible refine Kd.C_alloc ?_ _) | (with_reducible refine Kd.C_drewN ?_ _) | (with_reducible refine Kd.C_drew ?_) | exact HR171.out)) | (with_reducible refine Kd.C_alloc ?_ _) | (with_reducible refine Kd.C_drewN ?_ _) | (with_reducible refine Kd.C_drew ?_))); (case side2 => exact HC171.out); rintro e w42 ⟨v173, rfl, ho0, hb⟩; refine ⟨_, rfl, ?_⟩; replace HO_10 := Aside0.mk (Kd.S_elder' (mv HO_10.out) (Kd.R_base ho0) hb); have HO174 := Aside0.mk (Kd.R_lower (Kd.R_new' (Kd.R_new' ho0 (Kd.R_lt (mv HO_11.out))) (Kd.R_lt (mv HO_14.out))) (below_size (bt))); replace HO_11 := Aside0.mk (Kd.R_elder' (mv HO_11.out) (Kd.R_base ho0) hb); replace HO_14 := Aside0.mk (Kd.R_elder' (mv HO_14.out) (Kd.R_base ho0) hb); replace HR171 := Aside0.mk (Kd.C_below (by repeat (first | (with_reducible exact HR171.out) | (with_reducible refine Kd.C_alloc ?_ _) | (with_reducible refine Kd.C_drewN ?_ _) | (with_reducible refine Kd.C_drew ?_) | exact HR171.out)) hb); replace HB := Aside0.mk (below_step (bt) hb); (try clear hb); (try clear hb2); (try clear hk); (try clear hi); (try clear ho0); obtain ⟨Ao43, co43, eo43⟩ := Kd.R_slice HO_11.out; subst eo43; obtain ⟨Ao44, co44, eo44⟩ := Kd.R_slice HO174.out; subst eo44) | ((with_reducible refine gate_callee (f := 42) rfl ?_); refine goesL_ (some 85) rfl rfl Try.func42 (by kernel_rfl) rfl #[.slice Ao43 x11_1.length co43, .slice Ao44 t172.length co44, .int .u8 ((x13_2) % 256)] rfl av ?_; (with_reducible refine (spec_GfLagrange.calls k3 _ _ x11_1 _ _ t172 ((x13_2) % 256) t175 t176 _ ?side1 ?side2 ?side3 ?side4 A38.out).mono ?_); (case side1 => exact cv ((Kd.R_reads' HO_11.out).2.2)); (case side2 => exact (Kd.R_reads' HO_11.out).2.1); (case side3 => exact cv ((Kd.R_reads' HO174.out).2.2)); (case side4 => exact (Kd.R_reads' HO174.out).2.1); rintro e w' ⟨rfl, ⟨nd, rfl⟩⟩; refine ⟨_, rfl, ?_⟩) | ((with_reducible refine gate_builtin (b := .append) (xs := #[.tmp 88, .tmp 90]) rfl ?_); at_builtin; refine Kd.R_append (Kd.int .u8) (w0 := w) w.heap.size rfl (.tmp 88) (.tmp 90) 24 5 (.int .u8 0) 1 rfl Try.underlying24 info5 rfl (by decide) (by omega) u14 x14_3 t175 [.int .u8 t175] (fun k_ => some k_ ≠ (.slice Ao43 x11_1.length co43 : Value).ownBlock ∧ some k_ ≠ (.slice Ao44 t172.length co44 : Value).ownBlock) (fun _ => False) rfl rfl ?aP (fun _ hk => hk.elim) ?aF ?aO ?aB ?aS ?aL ?_; (case aP => exact rfl); (case aB => exact (bt)); (case aF => exact (fun k_ hk => ⟨Kd.fresh' (Kd.R_lt (mv HO_11.out)) k_ hk, Kd.fresh' (Kd.R_lt (mv HO174.out)) k_ hk⟩)); (case aO => exact (mv HO_14.out)); (case aS => exact (below_size (bt))); (case aL => have := LMc39.out; omega); intro v178 w45 ho hb hg hat; rw [← Ny177.out] at ho; replace HO_11 := Aside0.mk (Kd.R_after (ok := (fun k_ => some k_ ≠ (.slice Ao44 t172.length co44 : Value).ownBlock)) (by (with_reducible repeat (first | apply Kd.R_alloc | apply Kd.R_drewN | apply Kd.R_drew)); exact Kd.R_mono HO_11.out (fun _ hk => ⟨hk.2, hk.1⟩)) hg hat); replace HO174 := Aside0.mk (Kd.R_after (ok := (fun k_ => some k_ ≠ (.slice Ao43 x11_1.length co43 : Value).ownBlock)) (by (with_reducible repeat (first | apply Kd.R_alloc | apply Kd.R_drewN | apply Kd.R_drew)); exact Kd.R_mono HO174.out (fun _ hk => ⟨hk.1.2, hk.2⟩)) hg hat); replace HB := Aside0.mk (hb); replace HR171 := Aside0.mk ((show Kd.C (Kd.slice 5 (Kd.int .u8)) w45 Ao41 y168.length y168 from by rw [Ny168.out]; exact Kd.C_take (m := (a0 : Int).toNat) ((Kd.S_reads' (Kd.S_after (ok := (fun k_ => some k_ ≠ (.slice Ao43 x11_1.length co43 : Value).ownBlock ∧ some k_ ≠ (.slice Ao44 t172.length co44 : Value).ownBlock)) (by (with_reducible repeat (first | apply Kd.S_alloc | apply Kd.S_drewN | apply Kd.S_drew)); exact Kd.S_mono HO_10.out (fun _ hk => ⟨⟨hk.1.1, hk.2⟩, hk.1.2⟩)) hg hat)).2.2) KL40.out)); replace HO_10 := Aside0.mk (Kd.S_after (ok := (fun k_ => some k_ ≠ (.slice Ao43 x11_1.length co43 : Value).ownBlock ∧ some k_ ≠ (.slice Ao44 t172.length co44 : Value).ownBlock)) (by (with_reducible repeat (first | apply Kd.S_alloc | apply Kd.S_drewN | apply Kd.S_drew)); exact Kd.S_mono HO_10.out (fun _ hk => ⟨⟨hk.1.1, hk.2⟩, hk.1.2⟩)) hg hat); have HO179 := Aside0.mk (ho); clear HO_14; clear ho hb hg hat))
                go_roundg k3
                case measure => have := HK1.out; have := HK2.out; have := HK3.out; omega
                case rel => exact ⟨(y177), (wrap64 (x15_3 + 1)), (by first | rfl | (simp; done) | (simp [*]; done)), H', ⟨by have := HK1.out; have := HK2.out; have := HK3.out; omega⟩, ⟨by (with_reducible repeat (first | apply Kd.S_alloc | apply Kd.S_drewN | apply Kd.S_drew)); exact Kd.S_mono HO_10.out (fun _ hk => ⟨hk.1.1, hk.2⟩)⟩, ⟨by (with_reducible repeat (first | apply Kd.R_alloc | apply Kd.R_drewN | apply Kd.R_drew)); exact Kd.R_mono HO_11.out (fun _ hk => hk.2)⟩, ⟨by (with_reducible repeat (first | apply Kd.R_alloc | apply Kd.R_drewN | apply Kd.R_drew)); exact Kd.R_mono HO179.out (fun _ hk => hk.1)⟩, ⟨bt⟩⟩
               ·rw [if_neg c39] at H
                exact absurd H (by simp)
              ·rw [if_neg c36] at H
               exact absurd H (by simp)
             ·rw [if_neg c35] at H
              exact absurd H (by simp)
            ·rw [if_neg c34] at H
             have c34b0 : decide (x15_3 < t139) = false := decide_eq_false c34
             clear c34
             by_cases c46 : x10_2.length < 5864062014805
             ·rw [if_pos c46] at H
              have LMc46 := Aside0.mk c46
              clear c46
              obtain ⟨y180, hy180⟩ : ∃ y_ : List (List Int), y_ = (x10_2 ++ [x14_3]) := ⟨_, rfl⟩
              replace H : (spec_Encode.l1 k3 a0 a1 t139 y180 x11_1 (wrap64 (x13_2 + 1))) = some (r1, r2) := by first | (rw [hy180]; exact H) | exact H
              have Ny180 := Aside0.mk hy180
              clear hy180
              have H' := Aside0.mk H
              clear H
              obtain ⟨Ao48, co48, eo48⟩ := Kd.R_slice HO_14.out
              subst eo48
              go_wp2_with (first | ((with_reducible refine gate_builtin (b := .append) (xs := #[.tmp 92, .tmp 94]) rfl ?_); at_builtin; refine Kd.S_append (Kd.slice 5 (Kd.int .u8)) (w0 := w) w.heap.size rfl (.tmp 92) (.tmp 94) 22 24 (.slice none 0 0) 24 rfl Try.underlying22 info24 rfl (by decide) (by omega) u10 x10_2 x14_3 [.slice Ao48 x14_3.length co48] (fun k_ => some k_ ≠ (u11 : Value).ownBlock) (fun k_ => some k_ = (.slice Ao48 x14_3.length co48 : Value).ownBlock) rfl rfl ?aP (fun k_ hk_ => ((Kd.R_mono (ok' := fun k_ => ((fun k_ => some k_ ≠ (u11 : Value).ownBlock)) k_ ∧ some k_ ≠ (u10 : Value).ownBlock) (Kd.R_apart' (HO_14.out) (Kd.S_typed HO_10.out) (by decide)) (fun k_ hk => ⟨hk.1, hk.2⟩))).1 k_ hk_.symm) ?aF ?aO ?aB ?aS ?aL ?_; (case aP => exact Kd.M_row (Kd.R_mono (Kd.R_tight rfl (Kd.R_mono (ok' := fun k_ => ((fun k_ => some k_ ≠ (u11 : Value).ownBlock)) k_ ∧ some k_ ≠ (u10 : Value).ownBlock) (Kd.R_apart' (HO_14.out) (Kd.S_typed HO_10.out) (by decide)) (fun k_ hk => ⟨hk.1, hk.2⟩))) (fun _ h_ => h_))); (case aB => exact (bt)); (case aF => exact (fun k_ hk => Kd.fresh' (Kd.R_lt (mv HO_11.out)) k_ hk)); (case aO => exact (by (with_reducible repeat (first | apply Kd.S_alloc | apply Kd.S_drewN | apply Kd.S_drew)); exact Kd.S_mono HO_10.out (fun k_ hk => ⟨hk.1, fun e_ => hk.2 e_⟩))); (case aS => exact (below_size (bt))); (case aL => have := LMc46.out; omega); intro v181 w47 ho hb hg hat; rw [← Ny180.out] at ho; replace HO_11 := Aside0.mk (Kd.R_over' (mv HO_11.out) (Kd.S_typed (mv HO_10.out)) (by decide) hg); replace HB := Aside0.mk (hb); have HO182 := Aside0.mk (ho); clear HO_10 HO_14; clear ho hb hg hat))
              go_roundg k3
              case measure => have := HK1.out; have := HK2.out; have := HK3.out; omega
              case rel => exact ⟨(y180), (wrap64 (x13_2 + 1)), (by first | rfl | (simp; done) | (simp [*]; done)), H', ⟨by have := HK1.out; have := HK2.out; have := HK3.out; omega⟩, ⟨mv HO182.out⟩, ⟨by (with_reducible repeat (first | apply Kd.R_alloc | apply Kd.R_drewN | apply Kd.R_drew)); exact Kd.R_mono HO_11.out (fun _ hk => trivial)⟩, ⟨bt⟩⟩
             ·rw [if_neg c46] at H
              exact absurd H (by simp)
         ·rw [if_neg c31] at H
          have c31b0 : decide (x13_2 < a1) = false := decide_eq_false c31
          clear c31
          simp only [Option.some.injEq, Prod.mk.injEq] at H
          obtain ⟨rfl, rfl⟩ := H
          go_wp2
          go_ret2
          exact ⟨_, by first | rfl | (simp [errW_none, errW_some] <;> rfl) | (simp only [← hji8]; first | rfl | (simp [errW_none, errW_some] <;> rfl)) | (simp [*, errW_none, errW_some] <;> rfl), by (with_reducible repeat (first | apply Kd.S_alloc | apply Kd.S_drewN | apply Kd.S_drew)); exact Kd.S_mono HO_10.out (fun _ hk => trivial), bt⟩
   ·rw [if_neg c10] at H
    exact absurd H (by simp)
  ·rw [if_neg c9] at H
   exact absurd H (by simp)
 ·replace c5 := Bool.eq_false_iff.mpr c5
  subst c5
  rw [if_neg (show ¬ (false = true) by decide)] at H
  obtain ⟨y136, hy136⟩ : ∃ y_ : List (List Int), y_ = (([] : List (List Int))) := ⟨_, rfl⟩
  replace H : (some (y136, false)) = some (r1, r2) := by first | (rw [hy136]; exact H) | exact H
  have Ny136 := Aside0.mk hy136
  clear hy136
  simp only [Option.some.injEq, Prod.mk.injEq] at H
  obtain ⟨rfl, rfl⟩ := H
  go_enter Try.func27, Try.ntmps27
  go_wp2_with (first | ((with_reducible refine gate_callee (f := 60) rfl ?_); refine goesL_ (some 22) rfl rfl Try.func60 (by kernel_rfl) rfl #[.int .i64 a0, .int .i64 a1, .int .i64 (l2.length : Int)] rfl av ?_; (with_reducible refine (spec_l5Numbers.calls a0 a1 (l2.length : Int) false _ A4.out).mono ?_); rintro e w' ⟨rfl, ⟨nd, rfl⟩⟩; refine ⟨_, rfl, ?_⟩) | ((with_reducible refine gate_dst (N := 24) rfl ?_); refine Kd.S_lit (Kd.slice 5 (Kd.int .u8)) _ 24 ?hg (N := 24) ?hd (xs := ([] : List (List Int))) (inner := []) (ok := fun _ => True) (okp := fun _ => True) ?hr ?hp (fun _ hk => hk) trivial (Below.refl _ _) (Nat.le_refl _) (by simp) ?_; (case hd => rfl); (case hg => rfl); (case hr => first | (go_simp; done) | (go_simp; rfl)); (case hp => exact (Reps.none _ _)); intro v137 w49 ho50 hb hg_ hnew_; clear hg_ hnew_; (first | rw [← Ny136.out] at ho50 | (simp only [Int.reduceToNat] at ho50; rw [← Ny136.out] at ho50)); have HO138 := Aside0.mk (Kd.S_lower ho50 (below_size (bt))); replace HB := Aside0.mk (below_step (bt) hb); clear hb ho50))
  go_ret2
  exact ⟨_, by first | rfl | (simp [errW_none, errW_some] <;> rfl) | (simp [*, errW_none, errW_some] <;> rfl), by (with_reducible repeat (first | apply Kd.S_alloc | apply Kd.S_drewN | apply Kd.S_drew)); exact HO138.out, bt⟩

end Go.Proofs.Ythaoloacbbohlaa.PFnExactRecheck
