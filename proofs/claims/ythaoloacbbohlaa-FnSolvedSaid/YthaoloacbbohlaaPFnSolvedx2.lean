-- Written by a program of this workplace (wip/mp.py) out of the translation.
import Derived.Test.YthaoloacbbohlaaPFnSolvedx0
import Derived.Test.YthaoloacbbohlaaPFnSolvedx1
namespace Go.Proofs.Ythaoloacbbohlaa.PFnSolved
open Go.RowKit Go.Proofs.YthaoloacbbohlaaW.PrintWords Go.Proofs.YthaoloacbbohlaaW.PrintLast Go.Proofs.YthaoloacbbohlaaW.PrintMore Go.Proofs.Ythaoloacbbohlaa.Slim
attribute [local go_sem] max2_int min2_int max_two min_two max_three min_three max_four min_four   -- for this text's walks alone
set_option linter.unusedVariables false
set_option linter.unusedSimpArgs false

/-! ### spec_GfSolve: function 25 -/
mutual
def spec_GfSolve.j0 : Nat → List (List Int) → List Int → Int → Bool → Option (List Int × Bool)
 | 0, _, _, _, _ => none
 | k + 1, x0, x1, x6, x28 => if x28 = true then (some ((([] : List Int)), false)) else (spec_GfSolve.l0 k x0 x1 x6 (([] : List (List Int))) 0)
def spec_GfSolve.l0 : Nat → List (List Int) → List Int → Int → List (List Int) → Int → Option (List Int × Bool)
 | 0, _, _, _, _, _ => none
 | k + 1, x0, x1, x6, x7, x8 => if x8 < x6 then (if 0 ≤ x8 then (if x8 < (x0.length : Int) then (if ((rd_L2 x0 x8).length : Int) = x6 then ((spec_l1Bytes.f (rd_L2 x0 x8)).bind fun t127 => (if x8 < (x1.length : Int) then ((some (([rd x1 x8] : List Int) : List Int)).bind fun y131 => (if t127.length + y131.length < 140737488355328 then ((some (([(t127 ++ y131)] : List (List Int)) : List (List Int))).bind fun y137 => (if x7.length + y137.length < 5864062014805 then (spec_GfSolve.l0 k x0 x1 x6 (x7 ++ y137) (wrap64 (x8 + 1))) else (none))) else (none))) else (none))) else (some ((([] : List Int)), false))) else (none)) else (none)) else (Mat.tailF (spec_GfMul.f k) (spec_GfInv.f k) (spec_GfAxpy.f k) x6 x7)
end
def spec_GfSolve.f (k : Nat) (l0 : List (List Int)) (l1 : List Int) : Option (List Int × Bool) := (spec_l1In.f (l0.length : Int) 1 12).bind fun t118 => (if t118 = true then (spec_GfSolve.j0 k l0 l1 (l0.length : Int) ((l1.length : Int) != (l0.length : Int))) else (spec_GfSolve.j0 k l0 l1 (l0.length : Int) true))
def spec_GfSolve.T10 : Bool × List (List Nat × List Nat) := (true, [([], []), ([], []), ([], []), ([1, 2], [1, 2]), ([3], [3]), ([4], [4]), ([], []), ([], []), ([6, 7], [6, 7]), ([8], [8]), ([9], [9]), ([5, 10, 5], [5, 10]), ([11], [11]), ([0, 12, 11], [0, 12]), ([13, 13, 0, 1, 2, 3, 4, 5, 6, 7, 8, 9, 10, 11, 12, 13], [0, 13])])
def spec_GfSolve.B10 : List Nat := [0, 0, 0, 6, 14, 30, 0, 0, 192, 448, 960, 2046, 4094, 8191, 16383]
theorem spec_GfSolve.tab10 : rtab .any (opsOf Try.f25 10) = spec_GfSolve.T10 := by kernel_rfl
theorem spec_GfSolve.bits10 : waitsOk spec_GfSolve.T10.2 spec_GfSolve.B10 = true := by kernel_rfl
def spec_GfSolve.T31 : Bool × List (List Nat × List Nat) := (true, [([], []), ([], []), ([], []), ([], []), ([2, 3], [2, 3]), ([4], [4]), ([], []), ([], []), ([6, 7], [6, 7]), ([8], [8]), ([], []), ([9, 10], [9, 10]), ([11], [11]), ([], []), ([5, 12, 13], [5, 12, 13]), ([14], [14]), ([15], [15]), ([15], [15]), ([0, 1, 0, 1, 2, 3, 4, 5, 6, 7, 8, 9, 10, 11, 12, 13, 14, 15, 16], [0, 1]), ([18, 16, 14, 0, 1, 2, 3, 4, 5, 6, 7, 8, 9, 10, 11, 12, 13, 14, 15, 16], [16, 18])])
def spec_GfSolve.B31 : List Nat := [0, 0, 0, 0, 12, 28, 0, 0, 192, 448, 0, 1984, 4032, 0, 16380, 32764, 65532, 65532, 131071, 393215]
theorem spec_GfSolve.tab31 : rtab .any (opsOf Try.f25 31) = spec_GfSolve.T31 := by kernel_rfl
theorem spec_GfSolve.bits31 : waitsOk spec_GfSolve.T31.2 spec_GfSolve.B31 = true := by kernel_rfl
set_option maxHeartbeats 8000000 in
set_option maxRecDepth 100000 in
theorem spec_GfSolve.calls (k : Nat) (A0 : Option Addr) (c0 : Nat) (l0 : List (List Int)) (A1 : Option Addr) (c1 : Nat) (l1 : List Int) (r1 : List Int) (r2 : Bool) (w : World) (hr0 : Kd.C (Kd.slice 5 (Kd.int .u8)) w A0 l0.length l0) (hc0 : l0.length ≤ c0) (hr1 : Kd.C (Kd.int .u8) w A1 l1.length l1) (hc1 : l1.length ≤ c1) (h : spec_GfSolve.f k l0 l1 = some (r1, r2)) :
  Calls Try.prog 25 #[.slice A0 l0.length c0, .slice A1 l1.length c1] w fun e w' => ∃ v0_ : Value, e = .returned (.tuple #[v0_, .bool r2]) ∧ Kd.R (Kd.int .u8) 5 w' w.heap.size (fun _ => True) v0_ r1 ∧ Below w.heap.size w w' := by
 have HR0 := Aside0.mk hr0
 have HC0 := Aside0.mk hc0
 clear hr0 hc0
 have HR1 := Aside0.mk hr1
 have HC1 := Aside0.mk hc1
 clear hr1 hc1
 have HB := Aside0.mk (Below.refl w.heap.size w)
 have H : ((spec_l1In.f (l0.length : Int) 1 12).bind fun t118 => (if t118 = true then (spec_GfSolve.j0 k l0 l1 (l0.length : Int) ((l1.length : Int) != (l0.length : Int))) else (spec_GfSolve.j0 k l0 l1 (l0.length : Int) true))) = some (r1, r2) := h
 clear h
 have HC3 := Aside0.mk H
 clear H
 go_enter Try.func25, Try.ntmps25
 go_upto_region 2 with (fail)
 go_cut [28] (fun v28 wc => ∃ (kq : Nat) (x28_2 : Bool), v28 = .bool x28_2 ∧ Aside0 (spec_GfSolve.j0 kq l0 l1 (l0.length : Int) x28_2 = some (r1, r2)) ∧ Aside0 (kq ≤ k) ∧ Aside0 (Below w.heap.size w wc))
 case first =>
  have H := HC3.out
  clear HC3
  replace H := Option.bind_eq_some_iff.mp H
  obtain ⟨t118, A40, H⟩ := H
  (try dsimp -simprocs only at H)
  have A4 := Aside0.mk A40
  clear A40
  by_cases c5 : t118 = true
  ·subst c5
   rw [if_pos rfl] at H
   have H' := Aside0.mk H
   clear H
   go_wp2_with (first | ((with_reducible refine gate_callee (f := 47) rfl ?_); refine goesL_ (some 21) rfl rfl Try.func47 (by kernel_rfl) rfl #[.int .i64 (l0.length : Int), .int .i64 1, .int .i64 12] rfl av ?_; (with_reducible refine (spec_l1In.calls (l0.length : Int) 1 12 true _ A4.out).mono ?_); rintro e w' ⟨rfl, ⟨nd, rfl⟩⟩; refine ⟨_, rfl, ?_⟩))
   go_meet
   case rel => exact ⟨_, (((l1.length : Int) != (l0.length : Int))), (by first | rfl | (simp; done) | (simp [*]; done)), H', ⟨by first | omega | exact Nat.le_refl _⟩, ⟨bt⟩⟩
  ·replace c5 := Bool.eq_false_iff.mpr c5
   subst c5
   rw [if_neg (show ¬ (false = true) by decide)] at H
   have H' := Aside0.mk H
   clear H
   go_wp2_with (first | ((with_reducible refine gate_callee (f := 47) rfl ?_); refine goesL_ (some 21) rfl rfl Try.func47 (by kernel_rfl) rfl #[.int .i64 (l0.length : Int), .int .i64 1, .int .i64 12] rfl av ?_; (with_reducible refine (spec_l1In.calls (l0.length : Int) 1 12 false _ A4.out).mono ?_); rintro e w' ⟨rfl, ⟨nd, rfl⟩⟩; refine ⟨_, rfl, ?_⟩))
   go_meet
   case rel => exact ⟨_, (true), (by first | rfl | (simp; done) | (simp [*]; done)), H', ⟨by first | omega | exact Nat.le_refl _⟩, ⟨bt⟩⟩
 case rest =>
  clear HC3
  try clear c1
  try clear c2
  try clear p2
  try clear c4
  try clear c5
  obtain ⟨kq, x28_2, rfl, HA, HJ2, HB⟩ := hcut
  cases kq with
  | zero => exact absurd HA.out (by simp [spec_GfSolve.j0])
  | succ kj2 =>
   have H := HA.out
   clear HA
   simp only [spec_GfSolve.j0] at H
   by_cases c6 : x28_2 = true
   ·subst c6
    rw [if_pos rfl] at H
    obtain ⟨y119, hy119⟩ : ∃ y_ : List Int, y_ = (([] : List Int)) := ⟨_, rfl⟩
    replace H : (some (y119, false)) = some (r1, r2) := by first | (rw [hy119]; exact H) | exact H
    have Ny119 := Aside0.mk hy119
    clear hy119
    simp only [Option.some.injEq, Prod.mk.injEq] at H
    obtain ⟨rfl, rfl⟩ := H
    go_wp2_with (first | ((with_reducible refine gate_dst (N := 29) rfl ?_); (try (refine gate_guard (by rfl) ?_; dsimp only)); refine Kd.R_lit (Kd.int .u8) _ 5 ?hg (N := 29) ?hd (xs := ([] : List Int)) (inner := []) (ok := fun _ => True) (okp := fun _ => True) ?hr ?hp (fun _ hk => hk) trivial (Below.refl _ _) (Nat.le_refl _) (by simp) ?_; (case hd => rfl); (case hg => rfl); (case hr => first | (go_simp; done) | (go_simp; rfl)); (case hp => exact (Reps.none _ _)); intro v120 w7 ho8 hb hg_ hnew_; clear hg_ hnew_; (first | rw [← Ny119.out] at ho8 | (simp only [Int.reduceToNat] at ho8; rw [← Ny119.out] at ho8)); have HO121 := Aside0.mk (Kd.R_lower ho8 (below_size (bt))); replace HB := Aside0.mk (below_step (bt) hb); clear hb ho8))
    go_ret2
    exact ⟨_, by first | rfl | (simp [errW_none, errW_some] <;> rfl) | (simp [*, errW_none, errW_some] <;> rfl), by (with_reducible repeat (first | apply Kd.R_alloc | apply Kd.R_drewN | apply Kd.R_drew)); exact HO121.out, bt⟩
   ·replace c6 := Bool.eq_false_iff.mpr c6
    subst c6
    rw [if_neg (show ¬ (false = true) by decide)] at H
    obtain ⟨y122, hy122⟩ : ∃ y_ : List (List Int), y_ = (([] : List (List Int))) := ⟨_, rfl⟩
    replace H : (spec_GfSolve.l0 kj2 l0 l1 (l0.length : Int) y122 0) = some (r1, r2) := by first | (rw [hy122]; exact H) | exact H
    have Ny122 := Aside0.mk hy122
    clear hy122
    have H' := Aside0.mk H
    clear H
    go_wp2_with (first | ((with_reducible refine gate_dst (N := 30) rfl ?_); (try (refine gate_guard (by rfl) ?_; dsimp only)); refine Kd.S_lit (Kd.slice 5 (Kd.int .u8)) _ 24 ?hg (N := 30) ?hd (xs := ([] : List (List Int))) (inner := []) (ok := (fun _ => True)) (okp := (fun _ => True)) ?hr ?hp (fun _ hk => hk) trivial (Below.refl _ _) (Nat.le_refl _) (by simp) ?_; (case hd => rfl); (case hg => rfl); (case hr => first | (go_simp; done) | (go_simp; rfl)); (case hp => exact (Reps.none _ _)); intro v123 w9 ho10 hb hg_ hnew_; clear hg_ hnew_; (first | rw [← Ny122.out] at ho10 | (simp only [Int.reduceToNat] at ho10; rw [← Ny122.out] at ho10)); have HO124 := Aside0.mk (Kd.S_lower ho10 (below_size (bt))); replace HB := Aside0.mk (below_step (bt) hb); clear hb ho10))
    go_loopg [7, 8] kj2 (fun kq v7 v8 w' => ∃ (x7_2 : List (List Int)) (x8_2 : Int), v8 = .int .i64 x8_2 ∧ Aside0 (spec_GfSolve.l0 kq l0 l1 (l0.length : Int) x7_2 x8_2 = some (r1, r2)) ∧ Aside0 (kq ≤ kj2) ∧ Aside0 (Kd.S (Kd.slice 5 (Kd.int .u8)) 24 w' w.heap.size (fun _ => True) v7 x7_2) ∧ Aside0 (Below w.heap.size w w'))
    case atStart => exact ⟨(y122), (0), (by first | rfl | (simp; done) | (simp [*]; done)), H', ⟨Nat.le_refl _⟩, ⟨mv HO124.out⟩, ⟨bt⟩⟩
    case round =>
     clear H'
     try clear c1
     try clear c2
     try clear p2
     try clear c4
     try clear c5
     try clear c6
     try clear p2
     obtain ⟨x7_2, x8_2, rfl, HA, HK2, HO_7, HB⟩ := hrel
     cases gk with
     | zero => exact absurd HA.out (by simp [spec_GfSolve.l0])
     | succ k2 =>
      have H := HA.out
      clear HA
      simp only [spec_GfSolve.l0] at H
      by_cases c11 : x8_2 < (l0.length : Int)
      ·rw [if_pos c11] at H
       have c11b0 : decide (x8_2 < (l0.length : Int)) = true := decide_eq_true c11
       clear c11
       by_cases c12 : 0 ≤ x8_2
       ·rw [if_pos c12] at H
        have c12b0 : decide (0 ≤ x8_2) = true := decide_eq_true c12
        clear c12
        by_cases c13 : x8_2 < (l0.length : Int)
        ·rw [if_pos c13] at H
         have c13b0 : decide (x8_2 < (l0.length : Int)) = true := decide_eq_true c13
         clear c13
         by_cases c14 : ((rd_L2 l0 x8_2).length : Int) = (l0.length : Int)
         ·rw [if_pos c14] at H
          have c14b0 : (((rd_L2 l0 x8_2).length : Int) == (l0.length : Int)) = true := beq_iff_eq.mpr c14
          have c14b1 : (((rd_L2 l0 x8_2).length : Int) != (l0.length : Int)) = false := bne_eq_false_iff_eq.mpr c14
          have c14b2 : ((rd_L2 l0 x8_2).length == l0.length) = true := by first | simpa using c14 | (simp at c14 ⊢; omega)
          clear c14
          replace H := Option.bind_eq_some_iff.mp H
          obtain ⟨t127, A150, H⟩ := H
          (try dsimp -simprocs only at H)
          have A15 := Aside0.mk A150
          clear A150
          by_cases c16 : x8_2 < (l1.length : Int)
          ·rw [if_pos c16] at H
           have c16b0 : decide (x8_2 < (l1.length : Int)) = true := decide_eq_true c16
           clear c16
           obtain ⟨y131, hy131⟩ : ∃ y_ : List Int, y_ = (([rd l1 x8_2] : List Int)) := ⟨_, rfl⟩
           replace H : (if t127.length + y131.length < 140737488355328 then ((some (([(t127 ++ y131)] : List (List Int)) : List (List Int))).bind fun y137 => (if x7_2.length + y137.length < 5864062014805 then (spec_GfSolve.l0 k2 l0 l1 (l0.length : Int) (x7_2 ++ y137) (wrap64 (x8_2 + 1))) else (none))) else (none)) = some (r1, r2) := by first | (rw [hy131]; exact H) | exact H
           have Ny131 := Aside0.mk hy131
           clear hy131
           by_cases c17 : t127.length + y131.length < 140737488355328
           ·rw [if_pos c17] at H
            have LMc17 := Aside0.mk c17
            clear c17
            obtain ⟨y134, hy134⟩ : ∃ y_ : List Int, y_ = (t127 ++ y131) := ⟨_, rfl⟩
            replace H : ((some (([y134] : List (List Int)) : List (List Int))).bind fun y137 => (if x7_2.length + y137.length < 5864062014805 then (spec_GfSolve.l0 k2 l0 l1 (l0.length : Int) (x7_2 ++ y137) (wrap64 (x8_2 + 1))) else (none))) = some (r1, r2) := by first | (rw [hy134]; exact H) | exact H
            have Ny134 := Aside0.mk hy134
            clear hy134
            obtain ⟨y137, hy137⟩ : ∃ y_ : List (List Int), y_ = (([y134] : List (List Int))) := ⟨_, rfl⟩
            replace H : (if x7_2.length + y137.length < 5864062014805 then (spec_GfSolve.l0 k2 l0 l1 (l0.length : Int) (x7_2 ++ y137) (wrap64 (x8_2 + 1))) else (none)) = some (r1, r2) := by first | (rw [hy137]; exact H) | exact H
            have Ny137 := Aside0.mk hy137
            clear hy137
            by_cases c18 : x7_2.length + y137.length < 5864062014805
            ·rw [if_pos c18] at H
             have LMc18 := Aside0.mk c18
             clear c18
             obtain ⟨y140, hy140⟩ : ∃ y_ : List (List Int), y_ = (x7_2 ++ y137) := ⟨_, rfl⟩
             replace H : (spec_GfSolve.l0 k2 l0 l1 (l0.length : Int) y140 (wrap64 (x8_2 + 1))) = some (r1, r2) := by first | (rw [hy140]; exact H) | exact H
             have Ny140 := Aside0.mk hy140
             clear hy140
             have H' := Aside0.mk H
             clear H
             have p125 : 0 ≤ (x8_2 : Int) := of_decide_eq_true asm
             have q125 : x8_2 < (l0.length : Int) := of_decide_eq_true asm
             obtain ⟨ad125, A125_0, c125_0, e125, hx125_0, hl125_0, hi125_0⟩ := at_L2 HR0.out x8_2 p125 q125
             cases e125
             replace hx125_0 := (HB.out.cell (World.block_lt_of_cell? w _ hx125_0)).trans hx125_0
             have HR125_0 := Aside0.mk hi125_0
             have HC125_0 := Aside0.mk hl125_0
             clear hi125_0 hl125_0
             replace p125 := eq_true p125
             replace q125 := eq_true q125
             obtain ⟨Ao19, co19, eo19⟩ := Kd.S_slice HO_7.out
             subst eo19
             try go_wp2
             have n0_ := Aside0.mk (Kd.S_drew HO_7.out)
             have n1_ := Aside0.mk (below_drew1 HB.out)
             clear HO_7
             clear HB
             have HO_7 := n0_
             have HB := n1_
             clear n0_ n1_
             have p126 : 0 ≤ (x8_2 : Int) := of_decide_eq_true asm
             have q126 : x8_2 < (l0.length : Int) := of_decide_eq_true asm
             obtain ⟨ad126, A126_0, c126_0, e126, hx126_0, hl126_0, hi126_0⟩ := at_L2 HR0.out x8_2 p126 q126
             have hw126_0 := hx126_0
             obtain rfl : ad125 = ad126 := (by injection e126)
             replace hx126_0 := (HB.out.cell (World.block_lt_of_cell? w _ hx126_0)).trans hx126_0
             have HR126_0 := Aside0.mk hi126_0
             have HC126_0 := Aside0.mk hl126_0
             clear hi126_0 hl126_0
             replace p126 := eq_true p126
             replace q126 := eq_true q126
             have p130 : 0 ≤ (x8_2 : Int) := of_decide_eq_true asm
             have q130 : x8_2 < (l1.length : Int) := of_decide_eq_true asm
             obtain ⟨ad130, e130, hx130_0⟩ := Kd.at_int HR1.out x8_2 p130 q130
             have hw130_0 := hx130_0
             cases e130
             replace hx130_0 := (HB.out.cell (World.block_lt_of_cell? w _ hx130_0)).trans hx130_0
             replace p130 := eq_true p130
             replace q130 := eq_true q130
             refine start_ (n := 15) (S := fun w' => w'.cell? (ad125.add (x8_2).toNat) = some (.slice A126_0 (rd_L2 l0 x8_2).length c126_0) ∧ w'.cell? (ad130.add (x8_2).toNat) = some (.int .u8 (rd l1 x8_2))) (ds := []) #[false, false, false, false, false, false, false, false, false, false, false, false, false, false, false] (by kernel_rfl) rfl rfl ⟨((HB.out.cell (World.block_lt_of_cell? w _ hw126_0)).trans hw126_0), ((HB.out.cell (World.block_lt_of_cell? w _ hw130_0)).trans hw130_0)⟩ (fun hHeld => ?_); refine with_tabW spec_GfSolve.tab10 spec_GfSolve.bits10 (fun HT_ HW_ => ?_)
             generalize wr.drew = w20 at HO_7 HB HR126_0 hx126_0 hx130_0 hHeld ⊢
             refine pz (i := 0) (N := some 44) #[true, false, false, false, false, false, false, false, false, false, false, false, false, false, false] rfl rfl HT_.out ?_
             refine pz (i := 1) (N := some 45) #[true, true, false, false, false, false, false, false, false, false, false, false, false, false, false] rfl rfl HT_.out ?_
             refine pz (i := 2) (N := some 46) #[true, true, true, false, false, false, false, false, false, false, false, false, false, false, false] rfl rfl HT_.out ?_
             refine pz (i := 3) (N := some 47) #[true, true, true, true, false, false, false, false, false, false, false, false, false, false, false] rfl rfl HT_.out ?_
             refine pz (i := 6) (N := some 50) #[true, true, true, true, false, false, true, false, false, false, false, false, false, false, false] rfl rfl HT_.out ?_
             refine pz (i := 7) (N := some 51) #[true, true, true, true, false, false, true, true, false, false, false, false, false, false, false] rfl rfl HT_.out ?_
             refine pz (i := 8) (N := some 52) #[true, true, true, true, false, false, true, true, true, false, false, false, false, false, false] rfl rfl HT_.out ?_
             refine tz (i := 4) (N := some 48) #[true, true, true, true, true, false, true, true, true, false, false, false, false, false, false] rfl rfl HT_.out HW_.out hHeld (Or.inl ⟨by rfl, by rintro w' ⟨s0, s1⟩; go_simp; with_reducible rfl⟩) ?_
             refine tz (i := 9) (N := some 53) #[true, true, true, true, true, false, true, true, true, true, false, false, false, false, false] rfl rfl HT_.out HW_.out hHeld (Or.inl ⟨by rfl, by rintro w' ⟨s0, s1⟩; go_simp; with_reducible rfl⟩) ?_
             refine join_ (σ := Value × Value) 4 #[true, true, true, true, true, true, true, true, true, true, true, false, false, false, false] (fun s_ => [(49, s_.1), (54, s_.2)]) (fun s_ w' => (w'.cell? (ad125.add (x8_2).toNat) = some (.slice A126_0 (rd_L2 l0 x8_2).length c126_0) ∧ w'.cell? (ad130.add (x8_2).toNat) = some (.int .u8 (rd l1 x8_2))) ∧ (Kd.R (Kd.int .u8) 5 w' w.heap.size (fun k_ => some k_ ≠ (s_.2 : Value).ownBlock) s_.1 t127) ∧ (Kd.R (Kd.int .u8) 5 w' w.heap.size (fun k_ => some k_ ≠ (s_.1 : Value).ownBlock) s_.2 y131) ∧ (Kd.S (Kd.slice 5 (Kd.int .u8)) 24 w' w.heap.size (fun k_ => some k_ ≠ (s_.1 : Value).ownBlock ∧ some k_ ≠ (s_.2 : Value).ownBlock) (.slice Ao19 x7_2.length co19) x7_2) ∧ (Below w.heap.size w w')) ?_ ?_
             rotate_left
             ·intro hCont
              refine two_ (i := 5) (j := 10) (Ni := some 49) (Nj := some 54) #[true, true, true, true, true, true, true, true, true, true, false, false, false, false, false] #[true, true, true, true, true, false, true, true, true, true, true, false, false, false, false] rfl rfl rfl rfl (two_of HT_.out (by kernel_rfl)) (by decide) (by decide) (fun K hK => ?_) (fun K hK => ?_)
              ·skip
               refine goes_ Try.func45 (by kernel_rfl) rfl #[.slice A126_0 (rd_L2 l0 x8_2).length c126_0] (by rfl) rfl rfl av ?_
               with_reducible refine (spec_l1Bytes.calls _ _ (rd_L2 l0 x8_2) t127 _ ?side1 ?side2 A15.out).mono ?_
               (case side1 => exact cv ((Kd.C_below HR126_0.out HB.out)))
               (case side2 => exact HC126_0.out)
               rintro e w21 ⟨v128, rfl, ho0, hb⟩
               refine ⟨_, rfl, ?_⟩
               have n0_ := Aside0.mk (Kd.S_elder' (mv HO_7.out) (Kd.R_base ho0) hb)
               have n1_ := Aside0.mk (Kd.R_lower ho0 (below_size (bt)))
               have n2_ := Aside0.mk (below_step (bt) hb)
               clear HO_7
               clear HB
               have HO_7 := n0_
               have HO129 := n1_
               have HB := n2_
               clear n0_ n1_ n2_
               (try clear hb)
               (try clear hb2)
               (try clear hk)
               (try clear hi)
               (try clear ho0)
               refine hK.out _ _ ⟨((HB.out.cell (World.block_lt_of_cell? w _ hw126_0)).trans hw126_0), ((HB.out.cell (World.block_lt_of_cell? w _ hw130_0)).trans hw130_0)⟩ (fun hHeld => ?_)
               clear hK K
               refine nz (N := some 49) ?_
               refine one_ (i := 10) (N := some 54) #[true, true, true, true, true, true, true, true, true, true, true, false, false, false, false] rfl rfl (one_of HT_.out (by kernel_rfl)) (by decide) (fun K hK => ?_)
               refine Kd.R_lit_step (Kd.int .u8) _ 5 ?hg (N := 54) ?hd (xs := ([rd l1 x8_2] : List Int)) (inner := [.int .u8 (rd l1 x8_2)]) (ok := fun _ => True) (okp := fun _ => True) ?hr ?hp (fun _ hk => hk) trivial (Below.refl _ _) (Nat.le_refl _) (by simp) ?_; (case hd => rfl); (case hg => rfl); (case hr => first | (go_simp; done) | (go_simp; rfl)); (case hp => exact (Reps.one (show Kd.M (Kd.int .u8) _ _ _ (rd l1 x8_2) [.int .u8 (rd l1 x8_2)] from rfl) (Reps.none _ _)))
               intro v132 w22 ho23 hb hg_ hnew_
               clear hg_ hnew_
               (first | rw [← Ny131.out] at ho23 | (simp only [Int.reduceToNat] at ho23; rw [← Ny131.out] at ho23))
               have n0_ := Aside0.mk (Kd.S_elder' (mv HO_7.out) (Kd.R_base ho23) hb)
               have n1_ := Aside0.mk (Kd.R_elder' (mv HO129.out) (Kd.R_base ho23) hb)
               have n2_ := Aside0.mk (Kd.R_lower (Kd.R_new' ho23 (Kd.R_lt (mv HO129.out))) (below_size (bt)))
               have n3_ := Aside0.mk (below_step (bt) hb)
               clear HO_7
               clear HO129
               clear HB
               have HO_7 := n0_
               have HO129 := n1_
               have HO133 := n2_
               have HB := n3_
               clear n0_ n1_ n2_ n3_
               clear hb ho23
               refine hK.out _ _ ⟨((HB.out.cell (World.block_lt_of_cell? w _ hw126_0)).trans hw126_0), ((HB.out.cell (World.block_lt_of_cell? w _ hw130_0)).trans hw130_0)⟩ (fun hHeld => ?_)
               clear hK K
               refine nz (N := some 54) ?_
               exact norm_ (by simp only [putAll, Act.put, List.setIfInBounds_toArray, List.set_cons_zero, List.set_cons_succ]) (hCont (v128, v132) _ ⟨hHeld, (by (with_reducible repeat (first | apply Kd.R_alloc | apply Kd.R_drewN | apply Kd.R_drew)); exact Kd.R_mono HO129.out (fun _ hk => hk.2)), (by (with_reducible repeat (first | apply Kd.R_alloc | apply Kd.R_drewN | apply Kd.R_drew)); exact Kd.R_mono HO133.out (fun _ hk => hk.2)), (by (with_reducible repeat (first | apply Kd.S_alloc | apply Kd.S_drewN | apply Kd.S_drew)); exact Kd.S_mono HO_7.out (fun _ hk => ⟨hk.1.2, hk.2⟩)), (bt)⟩)
              ·skip
               refine Kd.R_lit_step (Kd.int .u8) _ 5 ?hg (N := 54) ?hd (xs := ([rd l1 x8_2] : List Int)) (inner := [.int .u8 (rd l1 x8_2)]) (ok := fun _ => True) (okp := fun _ => True) ?hr ?hp (fun _ hk => hk) trivial (Below.refl _ _) (Nat.le_refl _) (by simp) ?_; (case hd => rfl); (case hg => rfl); (case hr => first | (go_simp; done) | (go_simp; rfl)); (case hp => exact (Reps.one (show Kd.M (Kd.int .u8) _ _ _ (rd l1 x8_2) [.int .u8 (rd l1 x8_2)] from rfl) (Reps.none _ _)))
               intro v132 w21 ho22 hb hg_ hnew_
               clear hg_ hnew_
               (first | rw [← Ny131.out] at ho22 | (simp only [Int.reduceToNat] at ho22; rw [← Ny131.out] at ho22))
               have n0_ := Aside0.mk (Kd.S_elder' (mv HO_7.out) (Kd.R_base ho22) hb)
               have n1_ := Aside0.mk (Kd.R_lower ho22 (below_size (bt)))
               have n2_ := Aside0.mk (below_step (bt) hb)
               clear HO_7
               clear HB
               have HO_7 := n0_
               have HO133 := n1_
               have HB := n2_
               clear n0_ n1_ n2_
               clear hb ho22
               refine hK.out _ _ ⟨((HB.out.cell (World.block_lt_of_cell? w _ hw126_0)).trans hw126_0), ((HB.out.cell (World.block_lt_of_cell? w _ hw130_0)).trans hw130_0)⟩ (fun hHeld => ?_)
               clear hK K
               refine nz (N := some 54) ?_
               refine one_ (i := 5) (N := some 49) #[true, true, true, true, true, true, true, true, true, true, true, false, false, false, false] rfl rfl (one_of HT_.out (by kernel_rfl)) (by decide) (fun K hK => ?_)
               refine goes_ Try.func45 (by kernel_rfl) rfl #[.slice A126_0 (rd_L2 l0 x8_2).length c126_0] (by rfl) rfl rfl av ?_
               with_reducible refine (spec_l1Bytes.calls _ _ (rd_L2 l0 x8_2) t127 _ ?side1 ?side2 A15.out).mono ?_
               (case side1 => exact cv ((Kd.C_below HR126_0.out HB.out)))
               (case side2 => exact HC126_0.out)
               rintro e w23 ⟨v128, rfl, ho0, hb⟩
               refine ⟨_, rfl, ?_⟩
               have n0_ := Aside0.mk (Kd.S_elder' (mv HO_7.out) (Kd.R_base ho0) hb)
               have n1_ := Aside0.mk (Kd.R_elder' (mv HO133.out) (Kd.R_base ho0) hb)
               have n2_ := Aside0.mk (Kd.R_lower (Kd.R_new' ho0 (Kd.R_lt (mv HO133.out))) (below_size (bt)))
               have n3_ := Aside0.mk (below_step (bt) hb)
               clear HO_7
               clear HO133
               clear HB
               have HO_7 := n0_
               have HO133 := n1_
               have HO129 := n2_
               have HB := n3_
               clear n0_ n1_ n2_ n3_
               (try clear hb)
               (try clear hb2)
               (try clear hk)
               (try clear hi)
               (try clear ho0)
               refine hK.out _ _ ⟨((HB.out.cell (World.block_lt_of_cell? w _ hw126_0)).trans hw126_0), ((HB.out.cell (World.block_lt_of_cell? w _ hw130_0)).trans hw130_0)⟩ (fun hHeld => ?_)
               clear hK K
               refine nz (N := some 49) ?_
               exact norm_ (by simp only [putAll, Act.put, List.setIfInBounds_toArray, List.set_cons_zero, List.set_cons_succ]) (hCont (v128, v132) _ ⟨hHeld, (by (with_reducible repeat (first | apply Kd.R_alloc | apply Kd.R_drewN | apply Kd.R_drew)); exact Kd.R_mono HO129.out (fun _ hk => hk.2)), (by (with_reducible repeat (first | apply Kd.R_alloc | apply Kd.R_drewN | apply Kd.R_drew)); exact Kd.R_mono HO133.out (fun _ hk => hk.2)), (by (with_reducible repeat (first | apply Kd.S_alloc | apply Kd.S_drewN | apply Kd.S_drew)); exact Kd.S_mono HO_7.out (fun _ hk => ⟨hk.2, hk.1.2⟩)), (bt)⟩)
             rintro ⟨v128, v132⟩ w24 ⟨hS_, h0_, h1_, h2_, h3_⟩
             have n0_ : Aside0 (Kd.R (Kd.int .u8) 5 w24 w.heap.size (fun k_ => some k_ ≠ (v132 : Value).ownBlock) v128 t127) := ⟨h0_⟩
             have n1_ : Aside0 (Kd.R (Kd.int .u8) 5 w24 w.heap.size (fun k_ => some k_ ≠ (v128 : Value).ownBlock) v132 y131) := ⟨h1_⟩
             have n2_ : Aside0 (Kd.S (Kd.slice 5 (Kd.int .u8)) 24 w24 w.heap.size (fun k_ => some k_ ≠ (v128 : Value).ownBlock ∧ some k_ ≠ (v132 : Value).ownBlock) (.slice Ao19 x7_2.length co19) x7_2) := ⟨h2_⟩
             have n3_ : Aside0 (Below w.heap.size w w24) := ⟨h3_⟩
             clear HO_7
             clear HB
             clear h0_ h1_ h2_ h3_
             have HO129 := n0_
             have HO133 := n1_
             have HO_7 := n2_
             have HB := n3_
             clear n0_ n1_ n2_ n3_
             have hHeld : w24.cell? (ad125.add (x8_2).toNat) = some (.slice A126_0 (rd_L2 l0 x8_2).length c126_0) ∧ w24.cell? (ad130.add (x8_2).toNat) = some (.int .u8 (rd l1 x8_2)) := hS_
             obtain ⟨Ao26, co26, eo26⟩ := Kd.R_slice HO133.out
             (first | subst eo26 | (injection eo26 with f1_ f2_ f3_; have f4_ := f1_.symm; have f5_ := f3_.symm; clear f1_ f2_ f3_; subst f4_; subst f5_))
             refine norm_ (a' := ?_) ?_ ?_
             rotate_left
             ·simp only [putAll, Act.put, List.setIfInBounds_toArray, List.set_cons_zero, List.set_cons_succ]
              rfl
             refine one_ (i := 11) (N := some 55) #[true, true, true, true, true, true, true, true, true, true, true, true, false, false, false] rfl rfl (one_of HT_.out (by kernel_rfl)) (by decide) (fun K hK => ?_)
             refine Kd.R_append_rows_step (Kd.int .u8) (w0 := w) w.heap.size (by rfl) (.tmp 49) (.tmp 54) 24 5 (.int .u8 0) 1 rfl Try.underlying24 info5 rfl (by decide) (by omega) v128 t127 y131 _ _ _ (fun k_ => some k_ ≠ (.slice Ao26 y131.length co26 : Value).ownBlock) (fun _ => False) rfl rfl ?aO ?aR (fun _ _ h => h) (fun _ h => h.elim) ?aF ?aB ?aS ?aL ?_
             (case aR => exact cv ((Kd.R_reads' HO133.out).2.2))
             (case aB => exact (bt))
             (case aF => exact (fun k_ hk => Kd.fresh' (Kd.R_lt (mv HO133.out)) k_ hk))
             (case aO => exact (mv HO129.out))
             (case aS => exact (below_size (bt)))
             (case aL => have := LMc17.out; omega)
             intro v135 w25 ho hb hg hat
             rw [← Ny134.out] at ho
             have n0_ := Aside0.mk (Kd.S_after (ok := (fun k_ => some k_ ≠ (.slice Ao26 y131.length co26 : Value).ownBlock)) (by (with_reducible repeat (first | apply Kd.S_alloc | apply Kd.S_drewN | apply Kd.S_drew)); exact Kd.S_mono HO_7.out (fun _ hk => ⟨hk.2, hk.1⟩)) hg hat)
             have n1_ := Aside0.mk (Kd.R_after (ok := (fun _ => True)) (by (with_reducible repeat (first | apply Kd.R_alloc | apply Kd.R_drewN | apply Kd.R_drew)); exact Kd.R_mono HO133.out (fun _ hk => ⟨trivial, hk⟩)) hg hat)
             have n2_ := Aside0.mk (hb)
             have n3_ := Aside0.mk (ho)
             clear HO_7
             clear HO133
             clear HB
             clear HO129
             have HO_7 := n0_
             have HO133 := n1_
             have HB := n2_
             have HO136 := n3_
             clear n0_ n1_ n2_ n3_
             clear ho hb hg hat
             obtain ⟨Ao27, co27, eo27⟩ := Kd.R_slice HO136.out
             (first | subst eo27 | (injection eo27 with f1_ f2_ f3_; have f4_ := f1_.symm; have f5_ := f3_.symm; clear f1_ f2_ f3_; subst f4_; subst f5_))
             refine hK.out _ _ ⟨((HB.out.cell (World.block_lt_of_cell? w _ hw126_0)).trans hw126_0), ((HB.out.cell (World.block_lt_of_cell? w _ hw130_0)).trans hw130_0)⟩ (fun hHeld => ?_)
             clear hK K
             refine nz (N := some 55) ?_
             refine one_ (i := 12) (N := some 56) #[true, true, true, true, true, true, true, true, true, true, true, true, true, false, false] rfl rfl (one_of HT_.out (by kernel_rfl)) (by decide) (fun K hK => ?_)
             refine value_ (w1 := ?_) (v := ?_) (by rfl) rfl ?_ ?_
             rotate_left 2
             ·go_simp
              constructor
              ·rfl
              ·rfl
             refine hK.out _ _ ⟨((below_alloc HB.out _).cell (World.block_lt_of_cell? w _ hw126_0)).trans hw126_0, ((below_alloc HB.out _).cell (World.block_lt_of_cell? w _ hw130_0)).trans hw130_0⟩ (fun hHeld => ?_)
             clear hK K
             refine nz (N := some 56) ?_
             refine one_ (i := 13) (N := some 57) #[true, true, true, true, true, true, true, true, true, true, true, true, true, true, false] rfl rfl (one_of HT_.out (by kernel_rfl)) (by decide) (fun K hK => ?_)
             refine Kd.S_append_step (Kd.slice 5 (Kd.int .u8)) (w0 := w) w.heap.size (by rfl) (.tmp 44) (.tmp 56) 22 24 (.slice none 0 0) 24 rfl Try.underlying22 info24 rfl (by decide) (by omega) (.slice Ao19 x7_2.length co19) x7_2 y134 [.slice Ao27 y134.length co27] (fun _ => True) (fun k_ => some k_ = (.slice Ao27 y134.length co27 : Value).ownBlock) rfl rfl ?aP ?aQ (fun _ _ => trivial) ?aO ?aB ?aS ?aL ?_
             (case aP => exact Kd.M_row (Kd.R_tight rfl HO136.out))
             (case aQ => exact fun k_ hk_ => ⟨trivial, ((Kd.R_apart' HO136.out (Kd.S_typed HO_7.out) (by decide)).1 k_ hk_.symm).2⟩)
             (case aB => exact (bt))
             (case aO => exact Kd.S_mono HO_7.out (fun k_ hk => ⟨trivial, fun e_ => hk.2 e_⟩))
             (case aS => exact (below_size (bt)))
             (case aL => have := LMc18.out; have e_ := congrArg List.length Ny137.out; simp only [List.length_cons, List.length_nil] at e_; omega)
             intro v141 w30 ho hb hg hat
             rw [show x7_2 ++ [y134] = y140 by rw [Ny140.out, Ny137.out]] at ho
             have n2_ := Aside0.mk (hb)
             have n3_ := Aside0.mk (ho)
             clear HO133
             clear HB
             clear HO_7
             clear HO136
             have HB := n2_
             have HO142 := n3_
             clear n2_ n3_
             clear ho hb hg hat
             refine hK.out _ _ ⟨((HB.out.cell (World.block_lt_of_cell? w _ hw126_0)).trans hw126_0), ((HB.out.cell (World.block_lt_of_cell? w _ hw130_0)).trans hw130_0)⟩ (fun hHeld => ?_)
             clear hK K
             refine nz (N := some 57) ?_
             refine pz (i := 14) (N := some 7) #[true, true, true, true, true, true, true, true, true, true, true, true, true, true, true] rfl rfl HT_.out ?_
             refine done_ (done_of HT_.out (by kernel_rfl)) ?_
             (try simp only [Dig.setCell_drewN])
             try go_wp2
             go_roundg k2
             case measure => have := HJ2.out; have := HK2.out; omega
             case rel => exact ⟨(y140), (wrap64 (x8_2 + 1)), (by first | rfl | (simp; done) | (simp [*]; done)), H', ⟨by have := HJ2.out; have := HK2.out; omega⟩, ⟨by (with_reducible repeat (first | apply Kd.S_alloc | apply Kd.S_drewN | apply Kd.S_drew)); exact Kd.S_mono HO142.out (fun _ hk => trivial)⟩, ⟨bt⟩⟩
            ·rw [if_neg c18] at H
             exact absurd H (by simp)
           ·rw [if_neg c17] at H
            exact absurd H (by simp)
          ·rw [if_neg c16] at H
           exact absurd H (by simp)
         ·rw [if_neg c14] at H
          have c14b0 : (((rd_L2 l0 x8_2).length : Int) == (l0.length : Int)) = false := beq_eq_false_iff_ne.mpr c14
          have c14b1 : (((rd_L2 l0 x8_2).length : Int) != (l0.length : Int)) = true := bne_iff_ne.mpr c14
          have c14b2 : ((rd_L2 l0 x8_2).length == l0.length) = false := by first | simpa using c14 | (simp at c14 ⊢; omega)
          obtain ⟨y143, hy143⟩ : ∃ y_ : List Int, y_ = (([] : List Int)) := ⟨_, rfl⟩
          replace H : (some (y143, false)) = some (r1, r2) := by first | (rw [hy143]; exact H) | exact H
          have Ny143 := Aside0.mk hy143
          clear hy143
          simp only [Option.some.injEq, Prod.mk.injEq] at H
          obtain ⟨rfl, rfl⟩ := H
          have p125 : 0 ≤ (x8_2 : Int) := of_decide_eq_true asm
          have q125 : x8_2 < (l0.length : Int) := of_decide_eq_true asm
          obtain ⟨ad125, A125_0, c125_0, e125, hx125_0, hl125_0, hi125_0⟩ := at_L2 HR0.out x8_2 p125 q125
          cases e125
          replace hx125_0 := (HB.out.cell (World.block_lt_of_cell? w _ hx125_0)).trans hx125_0
          have HR125_0 := Aside0.mk hi125_0
          have HC125_0 := Aside0.mk hl125_0
          clear hi125_0 hl125_0
          replace p125 := eq_true p125
          replace q125 := eq_true q125
          go_wp2_with (first | ((with_reducible refine gate_dst (N := 43) rfl ?_); (try (refine gate_guard (by rfl) ?_; dsimp only)); refine Kd.R_lit (Kd.int .u8) _ 5 ?hg (N := 43) ?hd (xs := ([] : List Int)) (inner := []) (ok := fun _ => True) (okp := fun _ => True) ?hr ?hp (fun _ hk => hk) trivial (Below.refl _ _) (Nat.le_refl _) (by simp) ?_; (case hd => rfl); (case hg => rfl); (case hr => first | (go_simp; done) | (go_simp; rfl)); (case hp => exact (Reps.none _ _)); intro v144 w32 ho33 hb hg_ hnew_; clear hg_ hnew_; (first | rw [← Ny143.out] at ho33 | (simp only [Int.reduceToNat] at ho33; rw [← Ny143.out] at ho33)); replace HO_7 := Aside0.mk (Kd.S_elder' (mv HO_7.out) (Kd.R_base ho33) hb); have HO145 := Aside0.mk (Kd.R_lower ho33 (below_size (bt))); replace HB := Aside0.mk (below_step (bt) hb); clear hb ho33))
          go_ret2
          exact ⟨_, by first | rfl | (simp [errW_none, errW_some] <;> rfl) | (simp [*, errW_none, errW_some] <;> rfl), by (with_reducible repeat (first | apply Kd.R_alloc | apply Kd.R_drewN | apply Kd.R_drew)); exact HO145.out, bt⟩
        ·rw [if_neg c13] at H
         exact absurd H (by simp)
       ·rw [if_neg c12] at H
        exact absurd H (by simp)
      ·rw [if_neg c11] at H
       have c11b0 : decide (x8_2 < (l0.length : Int)) = false := decide_eq_false c11
       clear c11
       have hT : Mat.tailF (spec_GfMul.f k2) (spec_GfInv.f k2) (spec_GfAxpy.f k2) (l0.length : Int) x7_2 = some (r1, r2) := H
       clear H
       unfold Mat.tailF at hT
       by_cases hg : (1 ≤ (l0.length : Int) ∧ (l0.length : Int) ≤ 12) ∧ (x7_2.length : Int) = (l0.length : Int) ∧ ∀ r ∈ x7_2, (r.length : Int) = (l0.length : Int) + 1
       · rw [if_pos hg] at hT
         obtain ⟨R, hS, hL⟩ := Option.map_eq_some_iff.1 hT
         rw [Int.toNat_natCast] at hS hL
         obtain ⟨⟨hg1, hg2⟩, hg3, hg4⟩ := hg
         have hml : x7_2.length = l0.length := by omega
         have hrl : ∀ r ∈ x7_2, r.length = l0.length + 1 := fun r hr => by have := hg4 r hr; omega
         have hn1 : 1 ≤ l0.length := by omega
         have hn2 : l0.length ≤ 12 := by omega
         obtain ⟨g, cap, bs, cs, hv, hcap, hM⟩ := Mat.mt_of_S (m := l0.length + 1) HO_7.out (by omega) (Nat.succ_pos l0.length) hrl
         subst hv
         rw [hml] at hM hcap
         rw [hml]
         clear hT hg1 hg2 hg3 hg4 hrl hml HO_7 HR0 HC0 HR1 HC1 HJ2 HK2
         generalize l0.length = n at hS hL hn1 hn2 hM hcap c11b0 ⊢
         obtain ⟨m, hm⟩ : ∃ m, m = n + 1 := ⟨_, rfl⟩
         rw [← hm] at hM
         have HS := Aside0.mk hS
         have HL := Aside0.mk hL
         have HM := Aside0.mk hM
         have HN := Aside0.mk (⟨hn1, hn2⟩ : 1 ≤ n ∧ n ≤ 12)
         have HC := Aside0.mk hcap
         have HMN := Aside0.mk hm
         clear hS hL hM hn1 hn2 hcap hm
         go_wp2
         go_loopw [9] (fun v9 w1 => ∃ (i : Nat) (bs cs : Nat → Nat) (M : List (List Int)), v9 = .int .i64 i ∧ Aside0 (i ≤ n) ∧ Aside0 (Mat.Mt w1 w.heap.size g n m bs cs (fun _ => True) M) ∧ Aside0 (Mat.solveF (spec_GfMul.f k2) (spec_GfInv.f k2) (spec_GfAxpy.f k2) n (n - i) M = some R) ∧ Aside0 (Below w.heap.size w w1)) (fun v9 _ => n - (intOf v9).toNat)
         case atStart => exact ⟨0, bs, cs, x7_2, rfl, ⟨Nat.zero_le _⟩, HM, by rw [Nat.sub_zero]; exact HS, HB⟩
         case round =>
          clear HM HS HB
          obtain ⟨i, bs, cs, M, rfl, HI, HM, HS, HB⟩ := hrel
          by_cases hin : i < n
          · have d1 : decide ((i : Int) < (n : Int)) = true := decide_eq_true (by omega)
            have d1n : decide (i < n) = true := decide_eq_true hin
            have hS := HS.out
            have e1 : n - i = (n - (i + 1)) + 1 := by omega
            rw [e1] at hS
            unfold Mat.solveF at hS
            have e2 : n - ((n - (i + 1)) + 1) = i := by omega
            rw [e2] at hS
            obtain ⟨P, hP⟩ : ∃ P, P = Mat.pivF i (M.drop i) i := ⟨_, rfl⟩
            rw [← hP] at hS
            have HS2 := Aside0.mk hS
            have HP := Aside0.mk hP.symm
            have HIN := Aside0.mk hin
            clear hS hP e1 e2 HS hin
            go_wp2
            go_loopw [10] (fun v10 w2 => ∃ p : Nat, v10 = .int .i64 p ∧ Aside0 (i ≤ p ∧ p ≤ n) ∧ Aside0 (Mat.pivF i (M.drop p) p = P) ∧ Aside0 (Mat.Mt w2 w.heap.size g n m bs cs (fun _ => True) M) ∧ Aside0 (Below w.heap.size w w2)) (fun v10 _ => n - (intOf v10).toNat)
            case atStart => exact ⟨i, rfl, ⟨Nat.le_refl _, HI.out⟩, HP, HM, HB⟩
            case round =>
             clear HM HB HP
             obtain ⟨p, rfl, HPR, HP, HM, HB⟩ := hrel
             have p1 : 0 ≤ (p : Int) := Int.natCast_nonneg p
             have p2 : 0 ≤ (i : Int) := Int.natCast_nonneg i
             have q2 : (i : Int) < (m : Int) := by have := HIN.out; have := HMN.out; omega
             have q2n : i < m := by have := HIN.out; have := HMN.out; omega
             have q3 : (i : Int) < (n : Int) := by have := HIN.out; omega
             have q3n : i < n := HIN.out
             have r1_ : (p : Int) ≤ 12 := by have := HPR.out; have := HN.out; omega
             have r2_ : (i : Int) ≤ 12 := by have := HIN.out; have := HN.out; omega
             by_cases hpn : p < n
             · have d2 : decide ((p : Int) < (n : Int)) = true := decide_eq_true (by omega)
               have d2n : decide (p < n) = true := decide_eq_true hpn
               have q1 : (p : Int) < (n : Int) := by omega
               obtain ⟨x0, f0⟩ := HM.out.cell hpn trivial
               have hrow := HM.out.row p hpn trivial
               obtain ⟨y0, g0⟩ := hrow.cell q2n
               have hpd := HP.out
               rw [Mat.drop_cons (d := ([] : List Int)) (by rw [HM.out.len]; exact hpn)] at hpd
               unfold Mat.pivF at hpd
               obtain ⟨x, hx⟩ : ∃ x, x = (M.getD p []).getD i 0 := ⟨_, rfl⟩
               rw [← hx] at y0 hpd
               have HX := Aside0.mk hx
               have HROW := Aside0.mk hrow
               have HPN := Aside0.mk hpn
               clear hx hrow hpn
               by_cases hx0 : x = 0
               · rw [if_pos hx0] at hpd
                 have HPD := Aside0.mk hpd
                 have e3 : (x == 0) = true := beq_iff_eq.mpr hx0
                 clear hpd hx0
                 go_wp2
                 go_roundw
                 case rel => exact ⟨p + 1, by go_num, ⟨by have := HPR.out; have := HPN.out; omega⟩, HPD, HM, HB⟩
                 case measure => have := HPN.out; simp [intOf]; omega
               · rw [if_neg hx0] at hpd
                 have e3 : (x == 0) = false := beq_eq_false_iff_ne.mpr hx0
                 have e4 : ((p : Int) == (n : Int)) = false := beq_eq_false_iff_ne.mpr (by omega)
                 have e4n : (p == n) = false := beq_eq_false_iff_ne.mpr (by have := HPN.out; omega)
                 have hS := HS2.out
                 rw [← hpd] at hS
                 clear hpd hx0 HP HS2
                 dsimp only at hS
                 obtain ⟨⟨c, cb⟩, hc, hS⟩ := Option.bind_eq_some_iff.1 hS
                 obtain ⟨row, hrow, hS⟩ := Option.bind_eq_some_iff.1 hS
                 obtain ⟨M2, hM2, hS⟩ := Option.bind_eq_some_iff.1 hS
                 rw [← HX.out] at hc
                 dsimp only at hrow
                 have hne := HM.out.ne HPN.out trivial
                 obtain ⟨xi, fi⟩ := HM.out.cell q3n trivial
                 have hR2 := HROW.out.far (p := ⟨g, p, none⟩) hne (.slice (some ⟨bs i, 0, none⟩) m (cs i))
                 have hM1 := ((HM.out.off (on' := fun q => q ≠ i) (fun _ _ => trivial)).seat HPN.out (HM.out.row i q3n trivial) (fun q hq ho _ e => ho (HM.out.inj q i hq q3n trivial trivial e))).off (on' := fun q => q ≠ i) (fun q hq => .inr hq)
                 have hap : ∀ q, q < n → q ≠ i → (if q = p then bs i else bs q) ≠ bs p := fun q hq hqi e => by
                   by_cases hqp : q = p
                   · rw [if_pos hqp] at e
                     exact hqi (hqp.trans (HM.out.inj i p q3n HPN.out trivial trivial e).symm)
                   · rw [if_neg hqp] at e
                     exact hqp (HM.out.inj q p hq HPN.out trivial trivial e)
                 have hB2 := HB.out.setCell (p := ⟨g, p, none⟩) HM.out.ge (.slice (some ⟨bs i, 0, none⟩) m (cs i))
                 have hcap := HROW.out.cap
                 have hbge := HROW.out.ge
                 have hgge := HM.out.ge
                 obtain ⟨bs1, hbs1⟩ : ∃ f : Nat → Nat, f = fun q => if q = p then bs i else bs q := ⟨_, rfl⟩
                 obtain ⟨cs1, hcs1⟩ : ∃ f : Nat → Nat, f = fun q => if q = p then cs i else cs q := ⟨_, rfl⟩
                 rw [← hbs1, ← hcs1] at hM1
                 replace hap : ∀ q, q < n → q ≠ i → bs1 q ≠ bs p := by rw [hbs1]; exact hap
                 clear hbs1 hcs1
                 have HC2 := Aside0.mk hc
                 have HSC := Aside0.mk hrow
                 have HEL := Aside0.mk hM2
                 have HS2 := Aside0.mk hS
                 have HAP := Aside0.mk hap
                 have HNE := Aside0.mk hne
                 have HBG := Aside0.mk hbge
                 have HGG := Aside0.mk hgge
                 have HCAP := Aside0.mk hcap
                 have HR2 := Aside0.mk hR2
                 have HM1 := Aside0.mk hM1
                 have HB2 := Aside0.mk hB2
                 clear hc hrow hM2 hS hap hne hbge hgge hcap hR2 hM1 hB2
                 go_upto_region 21 with (fail)
                 generalize wr.setCell ⟨g, p, none⟩ (.slice (some ⟨bs i, 0, none⟩) m (cs i)) = w2 at HR2 HM1 HB2 ⊢
                 clear x0 f0 y0 g0 xi fi HM HB HROW
                 generalize bs p = b at HR2 HAP HNE HBG ⊢
                 generalize cs p = cc at HR2 HCAP ⊢
                 obtain ⟨y0, g0⟩ := HR2.out.cell q2n
                 rw [← HX.out] at y0
                 go_wp2_with (go_at_call 48; refine (spec_GfInv.calls k2 x c cb _ HC2.out).mono ?_; rintro e w' ⟨rfl, ⟨nd, rfl⟩⟩)
                 clear y0 g0
                 go_loopw [14] (fun v14 w3 => ∃ (j : Nat) (r : List Int), v14 = .int .i64 j ∧ Aside0 (j ≤ m) ∧ Aside0 (Mat.Rw w3 w.heap.size b cc m r) ∧ Aside0 (Mat.Mt w3 w.heap.size g n m bs1 cs1 (fun q => q ≠ i) (M.set p (M.getD i []))) ∧ Aside0 (∃ s, Mat.scaleF (spec_GfMul.f k2) c (r.drop j) = some s ∧ r.take j ++ s = row) ∧ Aside0 (Below w.heap.size w w3)) (fun v14 _ => m - (intOf v14).toNat)
                 case atStart => exact ⟨0, M.getD p [], rfl, ⟨Nat.zero_le _⟩, ⟨HR2.out.same rfl⟩, ⟨HM1.out.same rfl⟩, ⟨row, by rw [List.drop_zero]; exact HSC.out, rfl⟩, ⟨pw_below_drewN HB2.out nd⟩⟩
                 case round =>
                  clear HR2 HM1 HSC HB2
                  obtain ⟨j, r, rfl, HJ, HR2, HM1, HSC, HB⟩ := hrel
                  have p3 : 0 ≤ (j : Int) := Int.natCast_nonneg j
                  have r3_ : (j : Int) ≤ 13 := by have := HJ.out; have := HN.out; have := HMN.out; omega
                  by_cases hj : j < m
                  · have d3 : decide ((j : Int) ≤ (n : Int)) = true := decide_eq_true (by have := HMN.out; omega)
                    have d3n : decide (j ≤ n) = true := decide_eq_true (by have := HMN.out; omega)
                    have q4 : (j : Int) < (m : Int) := by omega
                    obtain ⟨s, hs1, hs2⟩ := HSC.out
                    rw [Mat.drop_cons (d := (0 : Int)) (by rw [HR2.out.len]; exact hj)] at hs1
                    unfold Mat.scaleF at hs1
                    obtain ⟨y, hy, hs1⟩ := Option.bind_eq_some_iff.1 hs1
                    obtain ⟨s2, hs3, hs1⟩ := Option.bind_eq_some_iff.1 hs1
                    obtain rfl := Option.some.inj hs1
                    obtain ⟨y3, g3⟩ := HR2.out.cell hj
                    have hnx : ∃ s, Mat.scaleF (spec_GfMul.f k2) c ((r.set j y).drop (j + 1)) = some s ∧ (r.set j y).take (j + 1) ++ s = row := ⟨s2, by rw [Mat.set_drop]; exact hs3, by rw [Mat.set_take (by rw [HR2.out.len]; exact hj), List.append_assoc]; exact hs2⟩
                    obtain ⟨z, hz⟩ : ∃ z, z = r.getD j 0 := ⟨_, rfl⟩
                    rw [← hz] at hy y3
                    have HY := Aside0.mk hy
                    have HNX := Aside0.mk hnx
                    have HJL := Aside0.mk hj
                    clear hs1 hs2 hs3 hy hnx hz hj HSC
                    go_wp2_with (go_at_call 49; refine (spec_GfMul.calls k2 z c y _ HY.out).mono ?_; rintro e w' ⟨rfl, ⟨nd3, rfl⟩⟩)
                    go_roundw
                    case rel => exact ⟨j + 1, r.set j y, by go_num, ⟨HJL.out⟩, ⟨(HR2.out.put HJL.out y).same rfl⟩, ⟨(HM1.out.far (p := ⟨b, j, none⟩) (fun e => HNE.out e.symm) (fun q hq ho => HAP.out q hq ho) (.int .u8 y)).same rfl⟩, HNX, ⟨b1 HBG.out⟩⟩
                    case measure => have := HJL.out; simp [intOf]; omega
                  · have d3 : decide ((j : Int) ≤ (n : Int)) = false := decide_eq_false (by have := HMN.out; omega)
                    have d3n : decide (j ≤ n) = false := decide_eq_false (by have := HMN.out; omega)
                    have hr : r = row := by
                      obtain ⟨s, hs1, hs2⟩ := HSC.out
                      have hl := HR2.out.len
                      rw [List.drop_eq_nil_of_le (by omega)] at hs1
                      unfold Mat.scaleF at hs1
                      obtain rfl := Option.some.inj hs1
                      rw [List.append_nil, List.take_of_length_le (by omega)] at hs2
                      exact hs2
                    subst hr
                    obtain ⟨vv, xv, fv⟩ := HM1.out.any_ q3n
                    have hM3 := (HM1.out.seat q3n HR2.out (fun q hq _ hqi => HAP.out q hq hqi)).off (on' := fun _ => True) (fun q _ => by by_cases e : q = i; exact .inl e; exact .inr e)
                    have HM3 := Aside0.mk hM3
                    have HRL := Aside0.mk HR2.out.len
                    have HB4 := Aside0.mk (HB.out.setCell (p := ⟨g, i, none⟩) HGG.out (.slice (some ⟨b, 0, none⟩) m cc))
                    have HI3 : Aside0 ((fun q => if q = i then b else bs1 q) i = b ∧ (fun q => if q = i then cc else cs1 q) i = cc ∧ ((M.set p (M.getD i [])).set i r).getD i [] = r) := ⟨if_pos rfl, if_pos rfl, by rw [List.getD_eq_getElem?_getD, List.getElem?_set_self (by rw [HM1.out.len]; exact q3n)]; rfl⟩
                    generalize (fun q => if q = i then b else bs1 q) = bs2 at HM3 HI3
                    generalize (fun q => if q = i then cc else cs1 q) = cs2 at HM3 HI3
                    generalize (M.set p (M.getD i [])).set i r = M1 at HM3 HI3 HEL
                    clear hM3 HR2 HM1 HSC HB hj
                    go_wp2
                    go_loopw [15] (fun v15 w5 => ∃ (j : Nat) (bs3 cs3 : Nat → Nat) (M3 : List (List Int)), v15 = .int .i64 j ∧ Aside0 (j ≤ n) ∧ Aside0 (Mat.Mt w5 w.heap.size g n m bs3 cs3 (fun _ => True) M3) ∧ Aside0 (bs3 i = b ∧ cs3 i = cc ∧ M3.getD i [] = r) ∧ Aside0 (∃ s, Mat.elimF (spec_GfAxpy.f k2) i r j (M3.drop j) = some s ∧ M3.take j ++ s = M2) ∧ Aside0 (Below w.heap.size w w5)) (fun v15 _ => n - (intOf v15).toNat)
                    case atStart => exact ⟨0, bs2, cs2, M1, rfl, ⟨Nat.zero_le _⟩, HM3, HI3, ⟨M2, by rw [List.drop_zero]; exact HEL.out, rfl⟩, HB4⟩
                    case round =>
                     clear HM3 HI3 HEL HB4 xv fv
                     obtain ⟨j, bs3, cs3, M3, rfl, HJ, HM3, HI3, HEL, HB⟩ := hrel
                     have p4 : 0 ≤ (j : Int) := Int.natCast_nonneg j
                     have r4_ : (j : Int) ≤ 12 := by have := HJ.out; have := HN.out; omega
                     by_cases hj : j < n
                     · have d4 : decide ((j : Int) < (n : Int)) = true := decide_eq_true (by omega)
                       have d4n : decide (j < n) = true := decide_eq_true hj
                       have q5 : (j : Int) < (n : Int) := by omega
                       obtain ⟨s, hs1, hs2⟩ := HEL.out
                       rw [Mat.drop_cons (d := ([] : List Int)) (by rw [HM3.out.len]; exact hj)] at hs1
                       unfold Mat.elimF at hs1
                       obtain ⟨y, hy, hs1⟩ := Option.bind_eq_some_iff.1 hs1
                       obtain ⟨s2, hs3, hs1⟩ := Option.bind_eq_some_iff.1 hs1
                       obtain rfl := Option.some.inj hs1
                       by_cases hji : j = i
                       · rw [if_pos hji] at hy
                         have e5 : ((j : Int) != (i : Int)) = false := bne_eq_false_iff_eq.mpr (by omega)
                         have e5n : (j != i) = false := bne_eq_false_iff_eq.mpr hji
                         have hnx : ∃ s, Mat.elimF (spec_GfAxpy.f k2) i r (j + 1) (M3.drop (j + 1)) = some s ∧ M3.take (j + 1) ++ s = M2 := ⟨s2, hs3, by rw [Mat.take_next (d := ([] : List Int)) (by rw [HM3.out.len]; exact hj), List.append_assoc, Option.some.inj hy]; exact hs2⟩
                         have HNX := Aside0.mk hnx
                         have HJL := Aside0.mk hj
                         clear hs1 hs2 hs3 hy hnx hj hji HEL
                         go_wp2
                         go_roundw
                         case rel => exact ⟨j + 1, bs3, cs3, M3, by go_num, ⟨HJL.out⟩, HM3, HI3, HNX, HB⟩
                         case measure => have := HJL.out; simp [intOf]; omega
                       · rw [if_neg hji] at hy
                         have e5 : ((j : Int) != (i : Int)) = true := bne_iff_ne.mpr (by omega)
                         have e5n : (j != i) = true := bne_iff_ne.mpr hji
                         obtain ⟨⟨q, qb⟩, hq, hy⟩ := Option.bind_eq_some_iff.1 hy
                         dsimp only at hy
                         by_cases hql : q.length = r.length
                         · rw [if_pos hql] at hy
                           obtain rfl := Option.some.inj hy
                           have hnx : ∃ s, Mat.elimF (spec_GfAxpy.f k2) i r (j + 1) ((M3.set j q).drop (j + 1)) = some s ∧ (M3.set j q).take (j + 1) ++ s = M2 := ⟨s2, by rw [Mat.set_drop]; exact hs3, by rw [Mat.set_take (by rw [HM3.out.len]; exact hj), List.append_assoc]; exact hs2⟩
                           obtain ⟨x5, f5⟩ := HM3.out.cell hj trivial
                           obtain ⟨y5, g5⟩ := (HM3.out.row j hj trivial).cell q2n
                           obtain ⟨z, hz⟩ : ∃ z, z = (M3.getD j []).getD i 0 := ⟨_, rfl⟩
                           rw [← hz] at hq y5
                           have hm12 : m ≤ 1000000 := by have := HMN.out; have := HN.out; omega
                           have hqm : q.length = m := hql.trans HRL.out
                           have HQ := Aside0.mk hq
                           have HQM := Aside0.mk hqm
                           have HM12 := Aside0.mk hm12
                           have HNX := Aside0.mk hnx
                           have HJL := Aside0.mk hj
                           have HJI := Aside0.mk hji
                           clear hs1 hs2 hs3 hq hql hqm hm12 hnx hz hj hji HEL
                           go_wp2
                           have HM4 := Aside0.mk (HM3.out.same (w1 := wr.drew) rfl)
                           have HB4 := Aside0.mk (below_drew1 HB.out)
                           replace x5 : wr.drew.cell? ⟨g, j, none⟩ = some (.slice (some ⟨bs3 j, 0, none⟩) m (cs3 j)) := x5
                           replace y5 : wr.drew.cell? ⟨bs3 j, i, none⟩ = some (.int .u8 z) := y5
                           clear HM3 HB
                           refine start_ (n := 20) (S := fun w' => w'.cell? ⟨g, j, none⟩ = some (.slice (some ⟨bs3 j, 0, none⟩) m (cs3 j)) ∧ w'.cell? ⟨bs3 j, i, none⟩ = some (.int .u8 z)) (ds := [19]) #[false, false, false, false, false, false, false, false, false, false, false, false, false, false, false, false, false, false, false, false] (by kernel_rfl) rfl rfl ⟨x5, y5⟩ (fun hHeld => ?_); refine with_tabW spec_GfSolve.tab31 spec_GfSolve.bits31 (fun HT_ HW_ => ?_)
                           generalize wr.drew = w5 at x5 y5 HM4 HB4 hHeld ⊢
                           refine pz (i := 0) (N := some 129) #[true, false, false, false, false, false, false, false, false, false, false, false, false, false, false, false, false, false, false, false] rfl rfl HT_.out ?_
                           refine pz (i := 1) (N := some 130) #[true, true, false, false, false, false, false, false, false, false, false, false, false, false, false, false, false, false, false, false] rfl rfl HT_.out ?_
                           refine pz (i := 2) (N := some 131) #[true, true, true, false, false, false, false, false, false, false, false, false, false, false, false, false, false, false, false, false] rfl rfl HT_.out ?_
                           refine pz (i := 3) (N := some 132) #[true, true, true, true, false, false, false, false, false, false, false, false, false, false, false, false, false, false, false, false] rfl rfl HT_.out ?_
                           refine pz (i := 4) (N := some 133) #[true, true, true, true, true, false, false, false, false, false, false, false, false, false, false, false, false, false, false, false] rfl rfl HT_.out ?_
                           refine pz (i := 6) (N := some 135) #[true, true, true, true, true, false, true, false, false, false, false, false, false, false, false, false, false, false, false, false] rfl rfl HT_.out ?_
                           refine pz (i := 7) (N := some 136) #[true, true, true, true, true, false, true, true, false, false, false, false, false, false, false, false, false, false, false, false] rfl rfl HT_.out ?_
                           refine pz (i := 8) (N := some 137) #[true, true, true, true, true, false, true, true, true, false, false, false, false, false, false, false, false, false, false, false] rfl rfl HT_.out ?_
                           refine pz (i := 10) (N := some 139) #[true, true, true, true, true, false, true, true, true, false, true, false, false, false, false, false, false, false, false, false] rfl rfl HT_.out ?_
                           refine pz (i := 13) (N := some 142) #[true, true, true, true, true, false, true, true, true, false, true, false, false, true, false, false, false, false, false, false] rfl rfl HT_.out ?_
                           refine tz (i := 5) (N := some 134) #[true, true, true, true, true, true, true, true, true, false, true, false, false, true, false, false, false, false, false, false] rfl rfl HT_.out HW_.out hHeld (Or.inl ⟨by rfl, by rintro w' ⟨s0, s1⟩; go_simp; with_reducible rfl⟩) ?_
                           refine tz (i := 9) (N := some 138) #[true, true, true, true, true, true, true, true, true, true, true, false, false, true, false, false, false, false, false, false] rfl rfl HT_.out HW_.out hHeld (Or.inl ⟨by rfl, by rintro w' ⟨s0, s1⟩; go_simp; with_reducible rfl⟩) ?_
                           refine pz (i := 11) (N := some 140) #[true, true, true, true, true, true, true, true, true, true, true, true, false, true, false, false, false, false, false, false] rfl rfl HT_.out ?_
                           refine tz (i := 12) (N := some 141) #[true, true, true, true, true, true, true, true, true, true, true, true, true, true, false, false, false, false, false, false] rfl rfl HT_.out HW_.out hHeld (Or.inl ⟨by rfl, by rintro w' ⟨s0, s1⟩; go_simp; with_reducible rfl⟩) ?_
                           refine one_ (i := 14) (N := some 143) #[true, true, true, true, true, true, true, true, true, true, true, true, true, true, true, false, false, false, false, false] rfl rfl (one_of HT_.out (by kernel_rfl)) (by decide) (fun K hK => ?_)
                           have hlj : (M3.getD j []).length = m := (HM4.out.row j HJL.out trivial).len
                           have hri := HM4.out.row i q3n trivial
                           rw [HI3.out.1, HI3.out.2.1, HI3.out.2.2] at hri
                           have hcall := spec_GfAxpy.calls k2 (some ⟨bs3 j, 0, none⟩) (cs3 j) (M3.getD j []) z (some ⟨b, 0, none⟩) cc r q qb w5 ((HM4.out.row j HJL.out trivial).reads HM12.out) (by rw [hlj]; exact (HM4.out.row j HJL.out trivial).cap) (hri.reads HM12.out) (by rw [hri.len]; exact hri.cap) HQ.out
                           rw [hlj, hri.len] at hcall
                           clear hlj hri
                           refine goes_ Try.func50 (by kernel_rfl) rfl #[.slice (some ⟨bs3 j, 0, none⟩) m (cs3 j), .int .u8 z, .slice (some ⟨b, 0, none⟩) m cc] (by rfl) rfl rfl av ?_
                           with_reducible refine hcall.mono ?_
                           rintro e w6 ⟨v6, rfl, ho, hb⟩
                           refine ⟨_, rfl, ?_⟩
                           obtain ⟨b6, c6, hv6, hR6⟩ := Mat.rw_of_R ho (by have := HQM.out; have := HMN.out; omega)
                           subst hv6
                           rw [HQM.out] at hR6 ⊢
                           have HR6 := Aside0.mk (hR6.lower HB4.out.size)
                           have HM6 := Aside0.mk (HM4.out.below hb)
                           have HB6 := Aside0.mk (below_step HB4.out hb)
                           have hfr : ∀ t, t < n → True → t ≠ j → bs3 t ≠ b6 := fun t ht _ _ e => by
                             have h1 := (HM4.out.row t ht trivial).lt
                             have h2 := hR6.ge
                             omega
                           have HFR := Aside0.mk hfr
                           have x6 : w6.cell? ⟨g, j, none⟩ = some (.slice (some ⟨bs3 j, 0, none⟩) m (cs3 j)) := (HM6.out.cell HJL.out trivial).1
                           have f6 := (HM6.out.cell HJL.out trivial).2
                           have y6 : w6.cell? ⟨bs3 j, i, none⟩ = some (.int .u8 z) := (hb.cell (World.block_lt_of_cell? _ _ y5)).trans y5
                           clear ho hb hR6 hfr hcall x5 y5 HM4 HB4
                           refine hK.out _ _ ⟨x6, y6⟩ (fun hHeld => ?_)
                           clear hK K
                           refine nz (N := some 143) ?_
                           refine pz (i := 15) (N := some 128) #[true, true, true, true, true, true, true, true, true, true, true, true, true, true, true, true, false, false, false, false] rfl rfl HT_.out ?_
                           refine pz (i := 16) (N := some 144) #[true, true, true, true, true, true, true, true, true, true, true, true, true, true, true, true, true, false, false, false] rfl rfl HT_.out ?_
                           refine pz (i := 17) (N := some 145) #[true, true, true, true, true, true, true, true, true, true, true, true, true, true, true, true, true, true, false, false] rfl rfl HT_.out ?_
                           refine pz (i := 18) (N := some 146) #[true, true, true, true, true, true, true, true, true, true, true, true, true, true, true, true, true, true, true, false] rfl rfl HT_.out ?_
                           refine last_ (i := 19) (N := none) #[true, true, true, true, true, true, true, true, true, true, true, true, true, true, true, true, true, true, true, true] rfl rfl (one_of HT_.out (by kernel_rfl)) (by decide) (fun K hK => ?_)
                           refine skip_ (w1 := ?_) (by rfl) rfl ?_ ?_
                           rotate_left
                           · go_simp
                             rfl
                           refine hK.out _ _ ?_
                           clear hK K
                           refine done_ (done_of HT_.out (by kernel_rfl)) ?_
                           clear x6 f6 y6 hHeld HT_ HW_
                           have HM7 := Aside0.mk ((HM6.out.seat HJL.out HR6.out HFR.out).off (on' := fun _ => True) (fun _ _ => .inr trivial))
                           have HB7 := Aside0.mk (HB6.out.setCell (p := ⟨g, j, none⟩) HGG.out (.slice (some ⟨b6, 0, none⟩) m c6))
                           have HI7 : Aside0 ((fun t => if t = j then b6 else bs3 t) i = b ∧ (fun t => if t = j then c6 else cs3 t) i = cc ∧ (M3.set j q).getD i [] = r) := ⟨(if_neg (fun e => HJI.out e.symm)).trans HI3.out.1, (if_neg (fun e => HJI.out e.symm)).trans HI3.out.2.1, by rw [List.getD_eq_getElem?_getD, List.getElem?_set_ne HJI.out, ← List.getD_eq_getElem?_getD]; exact HI3.out.2.2⟩
                           clear HR6 HM6 HB6 HFR
                           try go_wp2
                           go_roundw
                           case rel => exact ⟨j + 1, _, _, M3.set j q, by go_num, ⟨HJL.out⟩, ⟨HM7.out.same rfl⟩, HI7, HNX, HB7⟩
                           case measure => have := HJL.out; simp [intOf]; omega
                         · rw [if_neg hql] at hy
                           cases hy
                     · have d4 : decide ((j : Int) < (n : Int)) = false := decide_eq_false (by omega)
                       have d4n : decide (j < n) = false := decide_eq_false hj
                       have hm3 : M3 = M2 := by
                         obtain ⟨s, hs1, hs2⟩ := HEL.out
                         have hl := HM3.out.len
                         rw [List.drop_eq_nil_of_le (by omega)] at hs1
                         unfold Mat.elimF at hs1
                         obtain rfl := Option.some.inj hs1
                         rw [List.append_nil, List.take_of_length_le (by omega)] at hs2
                         exact hs2
                       subst hm3
                       clear HEL HI3 hj
                       go_wp2
                       go_roundw
                       case rel => exact ⟨i + 1, bs3, cs3, M3, by go_num, ⟨q3n⟩, HM3, HS2, HB⟩
                       case measure => simp [intOf]; omega
             · have d2 : decide ((p : Int) < (n : Int)) = false := decide_eq_false (by omega)
               have d2n : decide (p < n) = false := decide_eq_false hpn
               have ep : p = n := by have := HPR.out; omega
               have e4 : ((p : Int) == (n : Int)) = true := beq_iff_eq.mpr (by omega)
               have e4n : (p == n) = true := beq_iff_eq.mpr ep
               have hpd := HP.out
               rw [List.drop_eq_nil_of_le (by rw [HM.out.len]; omega)] at hpd
               unfold Mat.pivF at hpd
               have hS := HS2.out
               rw [← hpd] at hS
               have hR := Option.some.inj hS
               have hL := HL.out
               rw [← hR] at hL
               unfold Mat.lastF at hL
               injection hL with hL1 hL2
               subst hL1 hL2
               clear hS hR hpd HP HS2 ep hpn HL
               go_wp2_with (first | ((with_reducible refine gate_dst (N := 82) rfl ?_); (try (refine gate_guard (by rfl) ?_; dsimp only)); refine Kd.R_lit (Kd.int .u8) _ 5 ?hg (N := 82) ?hd (xs := ([] : List Int)) (inner := []) (ok := fun _ => True) (okp := fun _ => True) ?hr ?hp (fun _ hk => hk) trivial (Below.refl _ _) (Nat.le_refl _) (by simp) ?_; (case hd => rfl); (case hg => rfl); (case hr => first | (go_simp; done) | (go_simp; rfl)); (case hp => exact (Reps.none _ _)); intro v16_ w6 ho_ hb hg_ hnew_; clear hg_ hnew_; have HO16 := Aside0.mk (Kd.R_lower ho_ (below_size (bt))); replace HB := Aside0.mk (below_step (bt) hb); clear hb ho_))
               go_ret2
               exact ⟨_, by first | rfl | (simp [errW_none, errW_some] <;> rfl) | (simp [*, errW_none, errW_some] <;> rfl), by (with_reducible repeat (first | apply Kd.R_alloc | apply Kd.R_drewN | apply Kd.R_drew)); exact HO16.out, bt⟩
          · have d1 : decide ((i : Int) < (n : Int)) = false := decide_eq_false (by omega)
            have d1n : decide (i < n) = false := decide_eq_false hin
            have ei : i = n := Nat.le_antisymm HI.out (Nat.le_of_not_lt hin)
            have hS := HS.out
            rw [show n - i = 0 by omega] at hS
            unfold Mat.solveF at hS
            have hR := Option.some.inj hS
            have hL := HL.out
            rw [← hR] at hL
            unfold Mat.lastF at hL
            injection hL with hL1 hL2
            subst hL1 hL2
            clear hS hR HS HL ei hin
            go_wp2_with (first | ((with_reducible refine gate_dst (N := 147) rfl ?_); (try (refine gate_guard (by rfl) ?_; dsimp only)); refine Kd.R_lit (Kd.int .u8) _ 5 ?hg (N := 147) ?hd (xs := ([] : List Int)) (inner := []) (ok := fun k => wr.heap.size ≤ k) (okp := fun _ => False) ?hr ?hp (fun _ hk => hk.elim) (Nat.le_refl _) (Below.refl _ _) (Nat.le_refl _) (by simp) ?_; (case hd => rfl); (case hg => rfl); (case hr => first | (go_simp; done) | (go_simp; rfl)); (case hp => exact (Reps.none _ _)); intro v16_ w6 ho_ hb hg_ hnew_; clear hg_ hnew_))
            have HR16 : Aside0 (Kd.R (Kd.int .u8) 5 w6 w.heap.size (fun k => ∀ j, j < n → bs j ≠ k) v16_ ((M.take 0).map fun r => r.getD n 0)) := ⟨Kd.R_lower (Kd.R_mono ho_ (fun k hk j hj => by have := (HM.out.row j hj trivial).lt; omega)) HB.out.size⟩
            have HM6 := Aside0.mk (HM.out.below hb)
            have HB6 := Aside0.mk (below_step (bt) hb)
            clear ho_ hb HM HB
            go_loopw [16, 17] (fun v16 v17 w7 => ∃ j : Nat, v17 = .int .i64 j ∧ Aside0 (j ≤ n) ∧ Aside0 (Mat.Mt w7 w.heap.size g n m bs cs (fun _ => True) M) ∧ Aside0 (Kd.R (Kd.int .u8) 5 w7 w.heap.size (fun k => ∀ j, j < n → bs j ≠ k) v16 ((M.take j).map fun r => r.getD n 0)) ∧ Aside0 (Below w.heap.size w w7)) (fun _ v17 _ => n - (intOf v17).toNat)
            case atStart => exact ⟨0, rfl, ⟨Nat.zero_le _⟩, HM6, HR16, HB6⟩
            case round =>
             clear HR16 HM6 HB6
             obtain ⟨j, rfl, HJ, HM, HR16, HB⟩ := hrel
             have p1 : 0 ≤ (j : Int) := Int.natCast_nonneg j
             have p2 : 0 ≤ (n : Int) := Int.natCast_nonneg n
             have r1_ : (j : Int) ≤ 12 := by have := HJ.out; have := HN.out; omega
             have q2 : (n : Int) < (m : Int) := by have := HMN.out; omega
             have q2n : n < m := by have := HMN.out; omega
             by_cases hjn : j < n
             · have d2 : decide ((j : Int) < (n : Int)) = true := decide_eq_true (by omega)
               have d2n : decide (j < n) = true := decide_eq_true hjn
               have q1 : (j : Int) < (n : Int) := by omega
               obtain ⟨x0, f0⟩ := HM.out.cell hjn trivial
               obtain ⟨y0, g0⟩ := (HM.out.row j hjn trivial).cell q2n
               obtain ⟨x, hx⟩ : ∃ x, x = (M.getD j []).getD n 0 := ⟨_, rfl⟩
               rw [← hx] at y0
               have hy : (M.take (j + 1)).map (fun r => r.getD n 0) = (M.take j).map (fun r => r.getD n 0) ++ [x] := by
                 rw [Mat.take_next (d := ([] : List Int)) (by rw [HM.out.len]; exact hjn), List.map_append, hx]
                 rfl
               have hyl : ((M.take j).map fun r => r.getD n 0).length = j := by rw [List.length_map, List.length_take, HM.out.len]; omega
               have HY := Aside0.mk hy
               have HYL := Aside0.mk hyl
               have HJN := Aside0.mk hjn
               clear hx hy hyl hjn
               generalize (M.take j).map (fun r => r.getD n 0) = ys at HR16 HY HYL
               go_wp2_with (at_builtin; refine Kd.R_append (Kd.int .u8) (w0 := w) w.heap.size rfl (.tmp 153) (.tmp 161) 24 5 (.int .u8 0) 1 rfl Try.underlying24 info5 rfl (by decide) (by omega) _ ys x [.int .u8 x] (fun k => ∀ j, j < n → bs j ≠ k) (fun _ => False) rfl rfl rfl (fun _ hk => hk.elim) (fun k hk q hq => by have := (HM.out.row q hq trivial).lt; omega) HR16.out HB.out HB.out.size (by have := HYL.out; omega) ?_; intro v1 w8 ho hb hg hat)
               have HM2 := Aside0.mk (HM.out.grown hg (by obtain ⟨cells, hc, _⟩ := HM.out.head; exact Kd.R_ne HR16.out hc (by decide)) (fun q hq _ e => HR16.out.1 _ e.symm q hq rfl))
               have HR2 := Aside0.mk ho
               have HB2 := Aside0.mk hb
               clear ho hb hg hat
               go_roundw
               case rel => exact ⟨j + 1, by go_num, ⟨HJN.out⟩, HM2, ⟨by rw [HY.out]; exact HR2.out⟩, HB2⟩
               case measure => have := HJN.out; simp [intOf]; omega
             · have d2 : decide ((j : Int) < (n : Int)) = false := decide_eq_false (by omega)
               have d2n : decide (j < n) = false := decide_eq_false hjn
               have ej : j = n := Nat.le_antisymm HJ.out (Nat.le_of_not_lt hjn)
               have HR2 : Aside0 (Kd.R (Kd.int .u8) 5 wr w.heap.size (fun _ => True) u16 (M.map fun r => r.getD n 0)) := ⟨by have h := HR16.out; rw [List.take_of_length_le (by rw [HM.out.len]; omega)] at h; exact Kd.R_mono h (fun _ _ => trivial)⟩
               clear HR16 hjn ej
               go_wp2
               go_ret2
               exact ⟨_, by first | rfl | (simp [errW_none, errW_some] <;> rfl) | (simp [*, errW_none, errW_some] <;> rfl), HR2.out, HB.out⟩
       · rw [if_neg hg] at hT
         cases hT

/-! ### impl_in: function 53 -/
def impl_in.f (a0 : Int) (a1 : Int) (a2 : Int) : Option (Bool) := if a0 ≥ a1 then (some (decide (a0 ≤ a2))) else (some false)
set_option maxHeartbeats 8000000 in
set_option maxRecDepth 100000 in
theorem impl_in.calls (a0 : Int) (a1 : Int) (a2 : Int) (r : Bool) (w : World) (h : impl_in.f a0 a1 a2 = some r) :
  Calls Try.prog 53 #[.int .i64 a0, .int .i64 a1, .int .i64 a2] w fun e w' => e = .returned (.bool r) ∧ Drawn0 w w' := by
 have H : (if a0 ≥ a1 then (some (decide (a0 ≤ a2))) else (some false)) = some r := h
 clear h
 by_cases c4 : a0 ≥ a1
 ·rw [if_pos c4] at H
  have c4b0 : decide (a1 ≤ a0) = true := decide_eq_true c4
  clear c4
  obtain rfl := Option.some.inj H
  go_enter Try.func53, Try.ntmps53
  go_wp2
  go_ret
  exact ⟨by first | rfl | (simp; done) | (simp [*]; done), by repeat (first | exact Drawn0.refl _ | apply Drawn0.step)⟩
 ·rw [if_neg c4] at H
  have c4b0 : decide (a1 ≤ a0) = false := decide_eq_false c4
  clear c4
  obtain rfl := Option.some.inj H
  go_enter Try.func53, Try.ntmps53
  go_wp2
  go_ret
  exact ⟨by first | rfl | (simp; done) | (simp [*]; done), by repeat (first | exact Drawn0.refl _ | apply Drawn0.step)⟩

end Go.Proofs.Ythaoloacbbohlaa.PFnSolved
