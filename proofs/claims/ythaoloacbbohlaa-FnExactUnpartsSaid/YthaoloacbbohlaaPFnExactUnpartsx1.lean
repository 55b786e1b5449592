-- Written by a program of this workplace (wip/mp.py) out of the translation.
import Derived.Test.YthaoloacbbohlaaPFnExactUnpartsx0
namespace Go.Proofs.Ythaoloacbbohlaa.PFnExactUnparts
open Go.RowKit Go.Proofs.YthaoloacbbohlaaW.PrintWords Go.Proofs.YthaoloacbbohlaaW.PrintLast Go.Proofs.YthaoloacbbohlaaW.PrintMore Go.Proofs.Ythaoloacbbohlaa.Slim
attribute [local go_sem] max2_int min2_int max_two min_two max_three min_three max_four min_four   -- for this text's walks alone
set_option linter.unusedVariables false
set_option linter.unusedSimpArgs false

/-! ### spec_l1Bytes: function 45 -/
def spec_l1Bytes.f (l0 : List Int) : Option (List Int) := (some (([] : List Int) : List Int)).bind fun y101 => (if y101.length + l0.length < 140737488355328 then (some (y101 ++ l0)) else (none))
set_option maxHeartbeats 8000000 in
set_option maxRecDepth 100000 in
theorem spec_l1Bytes.calls (A0 : Option Addr) (c0 : Nat) (l0 : List Int) (r : List Int) (w : World) (hr0 : Kd.C (Kd.int .u8) w A0 l0.length l0) (hc0 : l0.length ≤ c0) (h : spec_l1Bytes.f l0 = some r) :
  Calls Try.prog 45 #[.slice A0 l0.length c0] w fun e w' => ∃ v0_ : Value, e = .returned (v0_) ∧ Kd.R (Kd.int .u8) 5 w' w.heap.size (fun _ => True) v0_ r ∧ Below w.heap.size w w' := by
 have HR0 := Aside0.mk hr0
 have HC0 := Aside0.mk hc0
 clear hr0 hc0
 have HB := Aside0.mk (Below.refl w.heap.size w)
 have H : ((some (([] : List Int) : List Int)).bind fun y101 => (if y101.length + l0.length < 140737488355328 then (some (y101 ++ l0)) else (none))) = some r := h
 clear h
 obtain ⟨y101, hy101⟩ : ∃ y_ : List Int, y_ = (([] : List Int)) := ⟨_, rfl⟩
 replace H : (if y101.length + l0.length < 140737488355328 then (some (y101 ++ l0)) else (none)) = some r := by first | (rw [hy101]; exact H) | exact H
 have Ny101 := Aside0.mk hy101
 clear hy101
 by_cases c2 : y101.length + l0.length < 140737488355328
 ·rw [if_pos c2] at H
  have LMc2 := Aside0.mk c2
  clear c2
  obtain ⟨y104, hy104⟩ : ∃ y_ : List Int, y_ = (y101 ++ l0) := ⟨_, rfl⟩
  replace H : (some y104) = some r := by first | (rw [hy104]; exact H) | exact H
  have Ny104 := Aside0.mk hy104
  clear hy104
  obtain rfl := Option.some.inj H
  go_enter Try.func45, Try.ntmps45
  go_wp2_with (first | ((with_reducible refine gate_dst (N := 3) rfl ?_); refine Kd.R_lit (Kd.int .u8) _ 5 ?hg (N := 3) ?hd (xs := ([] : List Int)) (inner := []) (ok := fun _ => True) (okp := fun _ => True) ?hr ?hp (fun _ hk => hk) trivial (Below.refl _ _) (Nat.le_refl _) (by simp) ?_; (case hd => rfl); (case hg => rfl); (case hr => first | (go_simp; done) | (go_simp; rfl)); (case hp => exact (Reps.none _ _)); intro v102 w3 ho4 hb hg_ hnew_; clear hg_ hnew_; (first | rw [← Ny101.out] at ho4 | (simp only [Int.reduceToNat] at ho4; rw [← Ny101.out] at ho4)); have HO103 := Aside0.mk (Kd.R_lower ho4 (below_size (bt))); replace HB := Aside0.mk (below_step (bt) hb); clear hb ho4) | ((with_reducible refine gate_builtin (b := .append) (xs := #[.tmp 3, .tmp 4]) rfl ?_); at_builtin; refine Kd.R_append_rows (Kd.int .u8) (w0 := w) w.heap.size rfl (.tmp 3) (.tmp 4) 24 5 (.int .u8 0) 1 rfl Try.underlying24 info5 rfl (by decide) (by omega) v102 y101 l0 _ _ _ (fun _ => True) (fun _ => False) rfl rfl ?aO ?aR (fun _ _ h => h) (fun _ h => h.elim) ?aF ?aB ?aS ?aL ?_; (case aR => exact cv ((Kd.C_below HR0.out HB.out))); (case aB => exact (bt)); (case aF => exact (fun _ _ => trivial)); (case aO => exact (mv HO103.out)); (case aS => exact (below_size (bt))); (case aL => have := LMc2.out; omega); intro v105 w5 ho hb hg hat; rw [← Ny104.out] at ho; replace HB := Aside0.mk (hb); have HO106 := Aside0.mk (ho); clear HO103; clear ho hb hg hat))
  go_ret
  exact ⟨_, by first | rfl | (simp [errW_none, errW_some] <;> rfl) | (simp [*, errW_none, errW_some] <;> rfl), by (with_reducible repeat (first | apply Kd.R_alloc | apply Kd.R_drewN | apply Kd.R_drew)); exact HO106.out, bt⟩
 ·rw [if_neg c2] at H
  exact absurd H (by simp)

/-! ### spec_Unparts: function 21 -/
mutual
def spec_Unparts.j0 : Nat → List Int → List (List Int) → Bool → Option ((List (List Int)) × Bool)
 | 0, _, _, _ => none
 | k + 1, x0, x4, x17 => if x17 = true then (some (x4, false)) else (spec_Unparts.l0 k x0 x4 1 0)
def spec_Unparts.l0 : Nat → List Int → List (List Int) → Int → Int → Option ((List (List Int)) × Bool)
 | 0, _, _, _, _ => none
 | k + 1, x0, x4, x5, x6 => if 0 < (x0.length : Int) then (if x6 < (wrap64 (rd x0 0)) then (if (wrap64 (x5 + 2)) > (x0.length : Int) then (some ((([] : List (List Int))), false)) else (if 0 ≤ x5 then (if x5 < (x0.length : Int) then (if 0 ≤ (wrap64 (x5 + 1)) then (if (wrap64 (x5 + 1)) < (x0.length : Int) then (if (wrap64 ((wrap64 ((wrap64 (rd x0 x5)) * 256)) + (wrap64 (rd x0 (wrap64 (x5 + 1)))))) > 60000 then (some ((([] : List (List Int))), false)) else (if (wrap64 ((wrap64 (x5 + 2)) + (wrap64 ((wrap64 ((wrap64 (rd x0 x5)) * 256)) + (wrap64 (rd x0 (wrap64 (x5 + 1)))))))) > (x0.length : Int) then (some ((([] : List (List Int))), false)) else (if 0 ≤ (wrap64 (x5 + 2)) then (if (wrap64 (x5 + 2)) ≤ (wrap64 ((wrap64 (x5 + 2)) + (wrap64 ((wrap64 ((wrap64 (rd x0 x5)) * 256)) + (wrap64 (rd x0 (wrap64 (x5 + 1)))))))) then (if (wrap64 ((wrap64 (x5 + 2)) + (wrap64 ((wrap64 ((wrap64 (rd x0 x5)) * 256)) + (wrap64 (rd x0 (wrap64 (x5 + 1)))))))) ≤ (x0.length : Int) then ((spec_l1Bytes.f ((x0.take ((wrap64 ((wrap64 (x5 + 2)) + (wrap64 ((wrap64 ((wrap64 (rd x0 x5)) * 256)) + (wrap64 (rd x0 (wrap64 (x5 + 1)))))))) : Int).toNat).drop ((wrap64 (x5 + 2)) : Int).toNat)).bind fun t127 => (if x4.length < 5864062014805 then (spec_Unparts.l0 k x0 (x4 ++ [t127]) (wrap64 ((wrap64 (x5 + 2)) + (wrap64 ((wrap64 ((wrap64 (rd x0 x5)) * 256)) + (wrap64 (rd x0 (wrap64 (x5 + 1)))))))) (wrap64 (x6 + 1))) else (none))) else (none)) else (none)) else (none)))) else (none)) else (none)) else (none)) else (none))) else (if x5 = (x0.length : Int) then (some (x4, true)) else (some ((([] : List (List Int))), false)))) else (none)
end
def spec_Unparts.f (k : Nat) (l0 : List Int) : Option ((List (List Int)) × Bool) := (some (([] : List (List Int)) : List (List Int))).bind fun y107 => (if (l0.length : Int) = 0 then (spec_Unparts.j0 k l0 y107 true) else (if 0 < (l0.length : Int) then (spec_Unparts.j0 k l0 y107 (decide ((rd l0 0) > 60))) else (none)))
set_option maxHeartbeats 8000000 in
set_option maxRecDepth 100000 in
theorem spec_Unparts.calls (k : Nat) (A0 : Option Addr) (c0 : Nat) (l0 : List Int) (r1 : List (List Int)) (r2 : Bool) (w : World) (hr0 : Kd.C (Kd.int .u8) w A0 l0.length l0) (hc0 : l0.length ≤ c0) (h : spec_Unparts.f k l0 = some (r1, r2)) :
  Calls Try.prog 21 #[.slice A0 l0.length c0] w fun e w' => ∃ v0_ : Value, e = .returned (.tuple #[v0_, .bool r2]) ∧ Kd.S (Kd.slice 5 (Kd.int .u8)) 24 w' w.heap.size (fun _ => True) v0_ r1 ∧ Below w.heap.size w w' := by
 have HR0 := Aside0.mk hr0
 have HC0 := Aside0.mk hc0
 clear hr0 hc0
 have HB := Aside0.mk (Below.refl w.heap.size w)
 have H : ((some (([] : List (List Int)) : List (List Int))).bind fun y107 => (if (l0.length : Int) = 0 then (spec_Unparts.j0 k l0 y107 true) else (if 0 < (l0.length : Int) then (spec_Unparts.j0 k l0 y107 (decide ((rd l0 0) > 60))) else (none)))) = some (r1, r2) := h
 clear h
 obtain ⟨y107, hy107⟩ : ∃ y_ : List (List Int), y_ = (([] : List (List Int))) := ⟨_, rfl⟩
 replace H : (if (l0.length : Int) = 0 then (spec_Unparts.j0 k l0 y107 true) else (if 0 < (l0.length : Int) then (spec_Unparts.j0 k l0 y107 (decide ((rd l0 0) > 60))) else (none))) = some (r1, r2) := by first | (rw [hy107]; exact H) | exact H
 have Ny107 := Aside0.mk hy107
 clear hy107
 have HC2 := Aside0.mk H
 clear H
 go_enter Try.func21, Try.ntmps21
 go_upto_region 2 with (first | ((with_reducible refine gate_dst (N := 8) rfl ?_); (try (refine gate_guard (by rfl) ?_; dsimp only)); refine Kd.S_lit (Kd.slice 5 (Kd.int .u8)) _ 24 ?hg (N := 8) ?hd (xs := ([] : List (List Int))) (inner := []) (ok := fun _ => True) (okp := fun _ => True) ?hr ?hp (fun _ hk => hk) trivial (Below.refl _ _) (Nat.le_refl _) (by simp) ?_; (case hd => rfl); (case hg => rfl); (case hr => first | (go_simp; done) | (go_simp; rfl)); (case hp => exact (Reps.none _ _)); intro v108 w3 ho4 hb hg_ hnew_; clear hg_ hnew_; (first | rw [← Ny107.out] at ho4 | (simp only [Int.reduceToNat] at ho4; rw [← Ny107.out] at ho4)); have HO109 := Aside0.mk (Kd.S_lower ho4 (below_size (bt))); replace HB := Aside0.mk (below_step (bt) hb); clear hb ho4))
 repeat (go_quiet (first | ((with_reducible refine gate_dst (N := 8) rfl ?_); (try (refine gate_guard (by rfl) ?_; dsimp only)); refine Kd.S_lit (Kd.slice 5 (Kd.int .u8)) _ 24 ?hg (N := 8) ?hd (xs := ([] : List (List Int))) (inner := []) (ok := fun _ => True) (okp := fun _ => True) ?hr ?hp (fun _ hk => hk) trivial (Below.refl _ _) (Nat.le_refl _) (by simp) ?_; (case hd => rfl); (case hg => rfl); (case hr => first | (go_simp; done) | (go_simp; rfl)); (case hp => exact (Reps.none _ _)); intro v108 w3 ho4 hb hg_ hnew_; clear hg_ hnew_; (first | rw [← Ny107.out] at ho4 | (simp only [Int.reduceToNat] at ho4; rw [← Ny107.out] at ho4)); have HO109 := Aside0.mk (Kd.S_lower ho4 (below_size (bt))); replace HB := Aside0.mk (below_step (bt) hb); clear hb ho4)); go_upto_region 2 with (first | ((with_reducible refine gate_dst (N := 8) rfl ?_); (try (refine gate_guard (by rfl) ?_; dsimp only)); refine Kd.S_lit (Kd.slice 5 (Kd.int .u8)) _ 24 ?hg (N := 8) ?hd (xs := ([] : List (List Int))) (inner := []) (ok := fun _ => True) (okp := fun _ => True) ?hr ?hp (fun _ hk => hk) trivial (Below.refl _ _) (Nat.le_refl _) (by simp) ?_; (case hd => rfl); (case hg => rfl); (case hr => first | (go_simp; done) | (go_simp; rfl)); (case hp => exact (Reps.none _ _)); intro v108 w3 ho4 hb hg_ hnew_; clear hg_ hnew_; (first | rw [← Ny107.out] at ho4 | (simp only [Int.reduceToNat] at ho4; rw [← Ny107.out] at ho4)); have HO109 := Aside0.mk (Kd.S_lower ho4 (below_size (bt))); replace HB := Aside0.mk (below_step (bt) hb); clear hb ho4)))
 (try simp only [Act.put, List.setIfInBounds_toArray, List.set_cons_zero, List.set_cons_succ])
 go_cut [17] (fun v17 wc => ∃ (kq : Nat) (x17_1 : Bool), v17 = .bool x17_1 ∧ Aside0 (spec_Unparts.j0 kq l0 y107 x17_1 = some (r1, r2)) ∧ Aside0 (kq ≤ k) ∧ Aside0 (Kd.S (Kd.slice 5 (Kd.int .u8)) 24 wc w.heap.size (fun _ => True) v108 y107) ∧ Aside0 (Below w.heap.size w wc))
 case first =>
  have H := HC2.out
  clear HC2
  by_cases c5 : (l0.length : Int) = 0
  ·rw [if_pos c5] at H
   have c5b0 : ((l0.length : Int) == 0) = true := beq_iff_eq.mpr c5
   have c5b1 : ((l0.length : Int) != 0) = false := bne_eq_false_iff_eq.mpr c5
   clear c5
   (first | rw [c5b0] | (simp only [i64_w, i32_w]; rw [c5b0]) | skip)
   have H' := Aside0.mk H
   clear H
   go_wp2
   repeat (go_quiet (fail); try go_wp2)
   go_meet
   case rel => exact ⟨_, (true), (by first | rfl | (simp; done) | (simp [*]; done)), H', ⟨by first | omega | exact Nat.le_refl _⟩, ⟨mv HO109.out⟩, ⟨bt⟩⟩
  ·rw [if_neg c5] at H
   have c5b0 : ((l0.length : Int) == 0) = false := beq_eq_false_iff_ne.mpr c5
   have c5b1 : ((l0.length : Int) != 0) = true := bne_iff_ne.mpr c5
   have c5b2 : ¬ (l0 = []) := fun h_ => c5 (by rw [h_]; rfl)
   (first | rw [c5b0] | (simp only [i64_w, i32_w]; rw [c5b0]) | skip)
   by_cases c6 : 0 < (l0.length : Int)
   ·rw [if_pos c6] at H
    have c6b0 : decide (0 < (l0.length : Int)) = true := decide_eq_true c6
    have c6b1 : decide (0 < l0.length) = true := decide_eq_true (by omega)
    clear c6
    have H' := Aside0.mk H
    clear H
    have p110 : 0 ≤ (0 : Int) := (by omega)
    have q110 : 0 < (l0.length : Int) := of_decide_eq_true asm
    obtain ⟨ad110, e110, hx110_0⟩ := Kd.at_int HR0.out 0 p110 q110
    cases e110
    have qi110 : (0 < l0.length) = True := eq_true (by omega)
    (try rw [show ((0 : Int)).toNat = 0 from rfl] at hx110_0)
    (try rw [Addr.add_zero'] at hx110_0)
    replace hx110_0 := (HB.out.cell (World.block_lt_of_cell? w _ hx110_0)).trans hx110_0
    replace p110 := eq_true p110
    replace q110 := eq_true q110
    go_wp2
    repeat (go_quiet (fail); try go_wp2)
    go_meet
    case rel => exact ⟨_, (decide ((rd l0 0) > 60)), (by first | rfl | (simp; done) | (simp [*]; done)), H', ⟨by first | omega | exact Nat.le_refl _⟩, ⟨mv HO109.out⟩, ⟨bt⟩⟩
   ·rw [if_neg c6] at H
    exact absurd H (by simp)
 case rest =>
  clear HC2
  try clear p1
  try clear q1
  try clear hx1
  try clear qi1
  try clear c2
  try clear p2
  try clear c5
  try clear c5b0
  try clear c5b1
  try clear c5b2
  try clear c6
  try clear c6b0
  try clear c6b1
  try clear hx110_0
  try clear p110
  try clear q110
  obtain ⟨kq, x17_1, rfl, HA, HJ1, HO_4, HB⟩ := hcut
  cases kq with
  | zero => exact absurd HA.out (by simp [spec_Unparts.j0])
  | succ kj1 =>
   have H := HA.out
   clear HA
   simp only [spec_Unparts.j0] at H
   by_cases c7 : x17_1 = true
   ·subst c7
    rw [if_pos rfl] at H
    simp only [Option.some.injEq, Prod.mk.injEq] at H
    obtain ⟨rfl, rfl⟩ := H
    go_wp2
    repeat (go_quiet (fail); try go_wp2)
    go_ret2
    exact ⟨_, by first | rfl | (simp [errW_none, errW_some] <;> rfl) | (simp [*, errW_none, errW_some] <;> rfl), by (with_reducible repeat (first | apply Kd.S_alloc | apply Kd.S_drewN | apply Kd.S_drew)); exact HO_4.out, bt⟩
   ·replace c7 := Bool.eq_false_iff.mpr c7
    subst c7
    rw [if_neg (show ¬ (false = true) by decide)] at H
    have H' := Aside0.mk H
    clear H
    go_wp2
    repeat (go_quiet (fail); try go_wp2)
    go_loopg [4, 5, 6] kj1 (fun kq v4 v5 v6 w' => ∃ (x4_2 : List (List Int)) (x5_2 : Int) (x6_2 : Int), v5 = .int .i64 x5_2 ∧ v6 = .int .i64 x6_2 ∧ Aside0 (spec_Unparts.l0 kq l0 x4_2 x5_2 x6_2 = some (r1, r2)) ∧ Aside0 (kq ≤ kj1) ∧ Aside0 (Kd.S (Kd.slice 5 (Kd.int .u8)) 24 w' w.heap.size (fun _ => True) v4 x4_2) ∧ Aside0 (Below w.heap.size w w'))
    case atStart => exact ⟨(y107), (1), (0), (by first | rfl | (simp; done) | (simp [*]; done)), (by first | rfl | (simp; done) | (simp [*]; done)), H', ⟨Nat.le_refl _⟩, ⟨mv HO_4.out⟩, ⟨bt⟩⟩
    case round =>
     clear H'
     try clear p1
     try clear q1
     try clear hx1
     try clear qi1
     try clear c2
     try clear p2
     try clear c5
     try clear c5b0
     try clear c5b1
     try clear c5b2
     try clear c6
     try clear c6b0
     try clear c6b1
     try clear c7
     try clear hx110_0
     try clear p1
     try clear p110
     try clear p2
     try clear q1
     try clear q110
     obtain ⟨x4_2, x5_2, x6_2, rfl, rfl, HA, HK2, HO_4, HB⟩ := hrel
     cases gk with
     | zero => exact absurd HA.out (by simp [spec_Unparts.l0])
     | succ k2 =>
      have H := HA.out
      clear HA
      simp only [spec_Unparts.l0] at H
      by_cases c8 : 0 < (l0.length : Int)
      ·rw [if_pos c8] at H
       have c8b0 : decide (0 < (l0.length : Int)) = true := decide_eq_true c8
       have c8b1 : decide (0 < l0.length) = true := decide_eq_true (by omega)
       clear c8
       by_cases c9 : x6_2 < (wrap64 (rd l0 0))
       ·rw [if_pos c9] at H
        have c9b0 : decide (x6_2 < (wrap64 (rd l0 0))) = true := decide_eq_true c9
        clear c9
        by_cases c10 : (wrap64 (x5_2 + 2)) > (l0.length : Int)
        ·rw [if_pos c10] at H
         have c10b0 : decide ((l0.length : Int) < (wrap64 (x5_2 + 2))) = true := decide_eq_true c10
         clear c10
         obtain ⟨y115, hy115⟩ : ∃ y_ : List (List Int), y_ = (([] : List (List Int))) := ⟨_, rfl⟩
         replace H : (some (y115, false)) = some (r1, r2) := by first | (rw [hy115]; exact H) | exact H
         have Ny115 := Aside0.mk hy115
         clear hy115
         simp only [Option.some.injEq, Prod.mk.injEq] at H
         obtain ⟨rfl, rfl⟩ := H
         have p111 : 0 ≤ (0 : Int) := (by omega)
         have q111 : 0 < (l0.length : Int) := of_decide_eq_true asm
         obtain ⟨ad111, e111, hx111_0⟩ := Kd.at_int HR0.out 0 p111 q111
         cases e111
         have qi111 : (0 < l0.length) = True := eq_true (by omega)
         (try rw [show ((0 : Int)).toNat = 0 from rfl] at hx111_0)
         (try rw [Addr.add_zero'] at hx111_0)
         replace hx111_0 := (HB.out.cell (World.block_lt_of_cell? w _ hx111_0)).trans hx111_0
         replace p111 := eq_true p111
         replace q111 := eq_true q111
         go_wp2_with (first | ((with_reducible refine gate_dst (N := 32) rfl ?_); (try (refine gate_guard (by rfl) ?_; dsimp only)); refine Kd.S_lit (Kd.slice 5 (Kd.int .u8)) _ 24 ?hg (N := 32) ?hd (xs := ([] : List (List Int))) (inner := []) (ok := fun _ => True) (okp := fun _ => True) ?hr ?hp (fun _ hk => hk) trivial (Below.refl _ _) (Nat.le_refl _) (by simp) ?_; (case hd => rfl); (case hg => rfl); (case hr => first | (go_simp; done) | (go_simp; rfl)); (case hp => exact (Reps.none _ _)); intro v116 w11 ho12 hb hg_ hnew_; clear hg_ hnew_; (first | rw [← Ny115.out] at ho12 | (simp only [Int.reduceToNat] at ho12; rw [← Ny115.out] at ho12)); have HO117 := Aside0.mk (Kd.S_lower (Kd.S_new' ho12 (Kd.S_lt (mv HO_4.out))) (below_size (bt))); replace HO_4 := Aside0.mk (Kd.S_elder' (mv HO_4.out) (Kd.S_base ho12) hb); replace HB := Aside0.mk (below_step (bt) hb); clear hb ho12))
         repeat (go_quiet (first | ((with_reducible refine gate_dst (N := 32) rfl ?_); (try (refine gate_guard (by rfl) ?_; dsimp only)); refine Kd.S_lit (Kd.slice 5 (Kd.int .u8)) _ 24 ?hg (N := 32) ?hd (xs := ([] : List (List Int))) (inner := []) (ok := fun _ => True) (okp := fun _ => True) ?hr ?hp (fun _ hk => hk) trivial (Below.refl _ _) (Nat.le_refl _) (by simp) ?_; (case hd => rfl); (case hg => rfl); (case hr => first | (go_simp; done) | (go_simp; rfl)); (case hp => exact (Reps.none _ _)); intro v116 w11 ho12 hb hg_ hnew_; clear hg_ hnew_; (first | rw [← Ny115.out] at ho12 | (simp only [Int.reduceToNat] at ho12; rw [← Ny115.out] at ho12)); have HO117 := Aside0.mk (Kd.S_lower (Kd.S_new' ho12 (Kd.S_lt (mv HO_4.out))) (below_size (bt))); replace HO_4 := Aside0.mk (Kd.S_elder' (mv HO_4.out) (Kd.S_base ho12) hb); replace HB := Aside0.mk (below_step (bt) hb); clear hb ho12)); try go_wp2_with (first | ((with_reducible refine gate_dst (N := 32) rfl ?_); (try (refine gate_guard (by rfl) ?_; dsimp only)); refine Kd.S_lit (Kd.slice 5 (Kd.int .u8)) _ 24 ?hg (N := 32) ?hd (xs := ([] : List (List Int))) (inner := []) (ok := fun _ => True) (okp := fun _ => True) ?hr ?hp (fun _ hk => hk) trivial (Below.refl _ _) (Nat.le_refl _) (by simp) ?_; (case hd => rfl); (case hg => rfl); (case hr => first | (go_simp; done) | (go_simp; rfl)); (case hp => exact (Reps.none _ _)); intro v116 w11 ho12 hb hg_ hnew_; clear hg_ hnew_; (first | rw [← Ny115.out] at ho12 | (simp only [Int.reduceToNat] at ho12; rw [← Ny115.out] at ho12)); have HO117 := Aside0.mk (Kd.S_lower (Kd.S_new' ho12 (Kd.S_lt (mv HO_4.out))) (below_size (bt))); replace HO_4 := Aside0.mk (Kd.S_elder' (mv HO_4.out) (Kd.S_base ho12) hb); replace HB := Aside0.mk (below_step (bt) hb); clear hb ho12)))
         go_ret2
         exact ⟨_, by first | rfl | (simp [errW_none, errW_some] <;> rfl) | (simp [*, errW_none, errW_some] <;> rfl), by (with_reducible repeat (first | apply Kd.S_alloc | apply Kd.S_drewN | apply Kd.S_drew)); exact Kd.S_mono HO117.out (fun _ hk => trivial), bt⟩
        ·rw [if_neg c10] at H
         have c10b0 : decide ((l0.length : Int) < (wrap64 (x5_2 + 2))) = false := decide_eq_false c10
         clear c10
         by_cases c13 : 0 ≤ x5_2
         ·rw [if_pos c13] at H
          have c13b0 : decide (0 ≤ x5_2) = true := decide_eq_true c13
          clear c13
          by_cases c14 : x5_2 < (l0.length : Int)
          ·rw [if_pos c14] at H
           have c14b0 : decide (x5_2 < (l0.length : Int)) = true := decide_eq_true c14
           clear c14
           obtain ⟨ji15, hji15⟩ : ∃ j_ : Int, (wrap64 (x5_2 + 1)) = j_ := ⟨_, rfl⟩
           replace H : (if 0 ≤ (ji15) then (if (ji15) < (l0.length : Int) then (if (wrap64 ((wrap64 ((wrap64 (rd l0 x5_2)) * 256)) + (wrap64 (rd l0 (ji15))))) > 60000 then (some ((([] : List (List Int))), false)) else (if (wrap64 ((wrap64 (x5_2 + 2)) + (wrap64 ((wrap64 ((wrap64 (rd l0 x5_2)) * 256)) + (wrap64 (rd l0 (ji15))))))) > (l0.length : Int) then (some ((([] : List (List Int))), false)) else (if 0 ≤ (wrap64 (x5_2 + 2)) then (if (wrap64 (x5_2 + 2)) ≤ (wrap64 ((wrap64 (x5_2 + 2)) + (wrap64 ((wrap64 ((wrap64 (rd l0 x5_2)) * 256)) + (wrap64 (rd l0 (ji15))))))) then (if (wrap64 ((wrap64 (x5_2 + 2)) + (wrap64 ((wrap64 ((wrap64 (rd l0 x5_2)) * 256)) + (wrap64 (rd l0 (ji15))))))) ≤ (l0.length : Int) then ((spec_l1Bytes.f ((l0.take ((wrap64 ((wrap64 (x5_2 + 2)) + (wrap64 ((wrap64 ((wrap64 (rd l0 x5_2)) * 256)) + (wrap64 (rd l0 (ji15))))))) : Int).toNat).drop ((wrap64 (x5_2 + 2)) : Int).toNat)).bind fun t127 => (if x4_2.length < 5864062014805 then (spec_Unparts.l0 k2 l0 (x4_2 ++ [t127]) (wrap64 ((wrap64 (x5_2 + 2)) + (wrap64 ((wrap64 ((wrap64 (rd l0 x5_2)) * 256)) + (wrap64 (rd l0 (ji15))))))) (wrap64 (x6_2 + 1))) else (none))) else (none)) else (none)) else (none)))) else (none)) else (none)) = some (r1, r2) := by first | (rw [hji15] at H; exact H) | (simp only [hji15] at H ⊢; exact H)
           have hji15w : (IntKind.i64.wrap (x5_2 + 1)) = ji15 := (i64_w _).trans hji15
           by_cases c16 : 0 ≤ (ji15)
           ·rw [if_pos c16] at H
            have c16b0 : decide (0 ≤ (ji15)) = true := decide_eq_true c16
            clear c16
            by_cases c17 : (ji15) < (l0.length : Int)
            ·rw [if_pos c17] at H
             have c17b0 : decide ((ji15) < (l0.length : Int)) = true := decide_eq_true c17
             clear c17
             by_cases c18 : (wrap64 ((wrap64 ((wrap64 (rd l0 x5_2)) * 256)) + (wrap64 (rd l0 (ji15))))) > 60000
             ·rw [if_pos c18] at H
              have c18b0 : decide (60000 < (wrap64 ((wrap64 ((wrap64 (rd l0 x5_2)) * 256)) + (wrap64 (rd l0 (ji15)))))) = true := decide_eq_true c18
              clear c18
              obtain ⟨y120, hy120⟩ : ∃ y_ : List (List Int), y_ = (([] : List (List Int))) := ⟨_, rfl⟩
              replace H : (some (y120, false)) = some (r1, r2) := by first | (rw [hy120]; exact H) | exact H
              have Ny120 := Aside0.mk hy120
              clear hy120
              simp only [Option.some.injEq, Prod.mk.injEq] at H
              obtain ⟨rfl, rfl⟩ := H
              have p111 : 0 ≤ (0 : Int) := (by omega)
              have q111 : 0 < (l0.length : Int) := of_decide_eq_true asm
              obtain ⟨ad111, e111, hx111_0⟩ := Kd.at_int HR0.out 0 p111 q111
              cases e111
              have qi111 : (0 < l0.length) = True := eq_true (by omega)
              (try rw [show ((0 : Int)).toNat = 0 from rfl] at hx111_0)
              (try rw [Addr.add_zero'] at hx111_0)
              replace hx111_0 := (HB.out.cell (World.block_lt_of_cell? w _ hx111_0)).trans hx111_0
              replace p111 := eq_true p111
              replace q111 := eq_true q111
              have p118 : 0 ≤ (x5_2 : Int) := of_decide_eq_true asm
              have q118 : x5_2 < (l0.length : Int) := of_decide_eq_true asm
              obtain ⟨ad118, e118, hx118_0⟩ := Kd.at_int HR0.out x5_2 p118 q118
              obtain rfl : ad111 = ad118 := (by injection e118)
              replace hx118_0 := (HB.out.cell (World.block_lt_of_cell? w _ hx118_0)).trans hx118_0
              replace p118 := eq_true p118
              replace q118 := eq_true q118
              have p119 : 0 ≤ ((ji15) : Int) := of_decide_eq_true asm
              have q119 : (ji15) < (l0.length : Int) := of_decide_eq_true asm
              obtain ⟨ad119, e119, hx119_0⟩ := Kd.at_int HR0.out (ji15) p119 q119
              obtain rfl : ad111 = ad119 := (by injection e119)
              replace hx119_0 := (HB.out.cell (World.block_lt_of_cell? w _ hx119_0)).trans hx119_0
              replace p119 := eq_true p119
              replace q119 := eq_true q119
              go_wp2_with (first | ((with_reducible refine gate_dst (N := 58) rfl ?_); (try (refine gate_guard (by rfl) ?_; dsimp only)); refine Kd.S_lit (Kd.slice 5 (Kd.int .u8)) _ 24 ?hg (N := 58) ?hd (xs := ([] : List (List Int))) (inner := []) (ok := fun _ => True) (okp := fun _ => True) ?hr ?hp (fun _ hk => hk) trivial (Below.refl _ _) (Nat.le_refl _) (by simp) ?_; (case hd => rfl); (case hg => rfl); (case hr => first | (go_simp; done) | (go_simp; rfl)); (case hp => exact (Reps.none _ _)); intro v121 w19 ho20 hb hg_ hnew_; clear hg_ hnew_; (first | rw [← Ny120.out] at ho20 | (simp only [Int.reduceToNat] at ho20; rw [← Ny120.out] at ho20)); have HO122 := Aside0.mk (Kd.S_lower (Kd.S_new' ho20 (Kd.S_lt (mv HO_4.out))) (below_size (bt))); replace HO_4 := Aside0.mk (Kd.S_elder' (mv HO_4.out) (Kd.S_base ho20) hb); replace HB := Aside0.mk (below_step (bt) hb); clear hb ho20))
              repeat (go_quiet (first | ((with_reducible refine gate_dst (N := 58) rfl ?_); (try (refine gate_guard (by rfl) ?_; dsimp only)); refine Kd.S_lit (Kd.slice 5 (Kd.int .u8)) _ 24 ?hg (N := 58) ?hd (xs := ([] : List (List Int))) (inner := []) (ok := fun _ => True) (okp := fun _ => True) ?hr ?hp (fun _ hk => hk) trivial (Below.refl _ _) (Nat.le_refl _) (by simp) ?_; (case hd => rfl); (case hg => rfl); (case hr => first | (go_simp; done) | (go_simp; rfl)); (case hp => exact (Reps.none _ _)); intro v121 w19 ho20 hb hg_ hnew_; clear hg_ hnew_; (first | rw [← Ny120.out] at ho20 | (simp only [Int.reduceToNat] at ho20; rw [← Ny120.out] at ho20)); have HO122 := Aside0.mk (Kd.S_lower (Kd.S_new' ho20 (Kd.S_lt (mv HO_4.out))) (below_size (bt))); replace HO_4 := Aside0.mk (Kd.S_elder' (mv HO_4.out) (Kd.S_base ho20) hb); replace HB := Aside0.mk (below_step (bt) hb); clear hb ho20)); try go_wp2_with (first | ((with_reducible refine gate_dst (N := 58) rfl ?_); (try (refine gate_guard (by rfl) ?_; dsimp only)); refine Kd.S_lit (Kd.slice 5 (Kd.int .u8)) _ 24 ?hg (N := 58) ?hd (xs := ([] : List (List Int))) (inner := []) (ok := fun _ => True) (okp := fun _ => True) ?hr ?hp (fun _ hk => hk) trivial (Below.refl _ _) (Nat.le_refl _) (by simp) ?_; (case hd => rfl); (case hg => rfl); (case hr => first | (go_simp; done) | (go_simp; rfl)); (case hp => exact (Reps.none _ _)); intro v121 w19 ho20 hb hg_ hnew_; clear hg_ hnew_; (first | rw [← Ny120.out] at ho20 | (simp only [Int.reduceToNat] at ho20; rw [← Ny120.out] at ho20)); have HO122 := Aside0.mk (Kd.S_lower (Kd.S_new' ho20 (Kd.S_lt (mv HO_4.out))) (below_size (bt))); replace HO_4 := Aside0.mk (Kd.S_elder' (mv HO_4.out) (Kd.S_base ho20) hb); replace HB := Aside0.mk (below_step (bt) hb); clear hb ho20)))
              go_ret2
              exact ⟨_, by first | rfl | (simp [errW_none, errW_some] <;> rfl) | (simp only [← hji15]; first | rfl | (simp [errW_none, errW_some] <;> rfl)) | (simp [*, errW_none, errW_some] <;> rfl), by (with_reducible repeat (first | apply Kd.S_alloc | apply Kd.S_drewN | apply Kd.S_drew)); exact Kd.S_mono HO122.out (fun _ hk => trivial), bt⟩
             ·rw [if_neg c18] at H
              have c18b0 : decide (60000 < (wrap64 ((wrap64 ((wrap64 (rd l0 x5_2)) * 256)) + (wrap64 (rd l0 (ji15)))))) = false := decide_eq_false c18
              clear c18
              by_cases c21 : (wrap64 ((wrap64 (x5_2 + 2)) + (wrap64 ((wrap64 ((wrap64 (rd l0 x5_2)) * 256)) + (wrap64 (rd l0 (ji15))))))) > (l0.length : Int)
              ·rw [if_pos c21] at H
               have c21b0 : decide ((l0.length : Int) < (wrap64 ((wrap64 (x5_2 + 2)) + (wrap64 ((wrap64 ((wrap64 (rd l0 x5_2)) * 256)) + (wrap64 (rd l0 (ji15)))))))) = true := decide_eq_true c21
               clear c21
               obtain ⟨y123, hy123⟩ : ∃ y_ : List (List Int), y_ = (([] : List (List Int))) := ⟨_, rfl⟩
               replace H : (some (y123, false)) = some (r1, r2) := by first | (rw [hy123]; exact H) | exact H
               have Ny123 := Aside0.mk hy123
               clear hy123
               simp only [Option.some.injEq, Prod.mk.injEq] at H
               obtain ⟨rfl, rfl⟩ := H
               have p111 : 0 ≤ (0 : Int) := (by omega)
               have q111 : 0 < (l0.length : Int) := of_decide_eq_true asm
               obtain ⟨ad111, e111, hx111_0⟩ := Kd.at_int HR0.out 0 p111 q111
               cases e111
               have qi111 : (0 < l0.length) = True := eq_true (by omega)
               (try rw [show ((0 : Int)).toNat = 0 from rfl] at hx111_0)
               (try rw [Addr.add_zero'] at hx111_0)
               replace hx111_0 := (HB.out.cell (World.block_lt_of_cell? w _ hx111_0)).trans hx111_0
               replace p111 := eq_true p111
               replace q111 := eq_true q111
               have p118 : 0 ≤ (x5_2 : Int) := of_decide_eq_true asm
               have q118 : x5_2 < (l0.length : Int) := of_decide_eq_true asm
               obtain ⟨ad118, e118, hx118_0⟩ := Kd.at_int HR0.out x5_2 p118 q118
               obtain rfl : ad111 = ad118 := (by injection e118)
               replace hx118_0 := (HB.out.cell (World.block_lt_of_cell? w _ hx118_0)).trans hx118_0
               replace p118 := eq_true p118
               replace q118 := eq_true q118
               have p119 : 0 ≤ ((ji15) : Int) := of_decide_eq_true asm
               have q119 : (ji15) < (l0.length : Int) := of_decide_eq_true asm
               obtain ⟨ad119, e119, hx119_0⟩ := Kd.at_int HR0.out (ji15) p119 q119
               obtain rfl : ad111 = ad119 := (by injection e119)
               replace hx119_0 := (HB.out.cell (World.block_lt_of_cell? w _ hx119_0)).trans hx119_0
               replace p119 := eq_true p119
               replace q119 := eq_true q119
               go_wp2_with (first | ((with_reducible refine gate_dst (N := 58) rfl ?_); (try (refine gate_guard (by rfl) ?_; dsimp only)); refine Kd.S_lit (Kd.slice 5 (Kd.int .u8)) _ 24 ?hg (N := 58) ?hd (xs := ([] : List (List Int))) (inner := []) (ok := fun _ => True) (okp := fun _ => True) ?hr ?hp (fun _ hk => hk) trivial (Below.refl _ _) (Nat.le_refl _) (by simp) ?_; (case hd => rfl); (case hg => rfl); (case hr => first | (go_simp; done) | (go_simp; rfl)); (case hp => exact (Reps.none _ _)); intro v124 w22 ho23 hb hg_ hnew_; clear hg_ hnew_; (first | rw [← Ny123.out] at ho23 | (simp only [Int.reduceToNat] at ho23; rw [← Ny123.out] at ho23)); have HO125 := Aside0.mk (Kd.S_lower (Kd.S_new' ho23 (Kd.S_lt (mv HO_4.out))) (below_size (bt))); replace HO_4 := Aside0.mk (Kd.S_elder' (mv HO_4.out) (Kd.S_base ho23) hb); replace HB := Aside0.mk (below_step (bt) hb); clear hb ho23))
               repeat (go_quiet (first | ((with_reducible refine gate_dst (N := 58) rfl ?_); (try (refine gate_guard (by rfl) ?_; dsimp only)); refine Kd.S_lit (Kd.slice 5 (Kd.int .u8)) _ 24 ?hg (N := 58) ?hd (xs := ([] : List (List Int))) (inner := []) (ok := fun _ => True) (okp := fun _ => True) ?hr ?hp (fun _ hk => hk) trivial (Below.refl _ _) (Nat.le_refl _) (by simp) ?_; (case hd => rfl); (case hg => rfl); (case hr => first | (go_simp; done) | (go_simp; rfl)); (case hp => exact (Reps.none _ _)); intro v124 w22 ho23 hb hg_ hnew_; clear hg_ hnew_; (first | rw [← Ny123.out] at ho23 | (simp only [Int.reduceToNat] at ho23; rw [← Ny123.out] at ho23)); have HO125 := Aside0.mk (Kd.S_lower (Kd.S_new' ho23 (Kd.S_lt (mv HO_4.out))) (below_size (bt))); replace HO_4 := Aside0.mk (Kd.S_elder' (mv HO_4.out) (Kd.S_base ho23) hb); replace HB := Aside0.mk (below_step (bt) hb); clear hb ho23)); try go_wp2_with (first | ((with_reducible refine gate_dst (N := 58) rfl ?_); (try (refine gate_guard (by rfl) ?_; dsimp only)); refine Kd.S_lit (Kd.slice 5 (Kd.int .u8)) _ 24 ?hg (N := 58) ?hd (xs := ([] : List (List Int))) (inner := []) (ok := fun _ => True) (okp := fun _ => True) ?hr ?hp (fun _ hk => hk) trivial (Below.refl _ _) (Nat.le_refl _) (by simp) ?_; (case hd => rfl); (case hg => rfl); (case hr => first | (go_simp; done) | (go_simp; rfl)); (case hp => exact (Reps.none _ _)); intro v124 w22 ho23 hb hg_ hnew_; clear hg_ hnew_; (first | rw [← Ny123.out] at ho23 | (simp only [Int.reduceToNat] at ho23; rw [← Ny123.out] at ho23)); have HO125 := Aside0.mk (Kd.S_lower (Kd.S_new' ho23 (Kd.S_lt (mv HO_4.out))) (below_size (bt))); replace HO_4 := Aside0.mk (Kd.S_elder' (mv HO_4.out) (Kd.S_base ho23) hb); replace HB := Aside0.mk (below_step (bt) hb); clear hb ho23)))
               go_ret2
               exact ⟨_, by first | rfl | (simp [errW_none, errW_some] <;> rfl) | (simp only [← hji15]; first | rfl | (simp [errW_none, errW_some] <;> rfl)) | (simp [*, errW_none, errW_some] <;> rfl), by (with_reducible repeat (first | apply Kd.S_alloc | apply Kd.S_drewN | apply Kd.S_drew)); exact Kd.S_mono HO125.out (fun _ hk => trivial), bt⟩
              ·rw [if_neg c21] at H
               have c21b0 : decide ((l0.length : Int) < (wrap64 ((wrap64 (x5_2 + 2)) + (wrap64 ((wrap64 ((wrap64 (rd l0 x5_2)) * 256)) + (wrap64 (rd l0 (ji15)))))))) = false := decide_eq_false c21
               clear c21
               obtain ⟨ji24, hji24⟩ : ∃ j_ : Int, (wrap64 (x5_2 + 2)) = j_ := ⟨_, rfl⟩
               replace H : (if 0 ≤ (ji24) then (if (ji24) ≤ (wrap64 ((ji24) + (wrap64 ((wrap64 ((wrap64 (rd l0 x5_2)) * 256)) + (wrap64 (rd l0 (ji15))))))) then (if (wrap64 ((ji24) + (wrap64 ((wrap64 ((wrap64 (rd l0 x5_2)) * 256)) + (wrap64 (rd l0 (ji15))))))) ≤ (l0.length : Int) then ((spec_l1Bytes.f ((l0.take ((wrap64 ((ji24) + (wrap64 ((wrap64 ((wrap64 (rd l0 x5_2)) * 256)) + (wrap64 (rd l0 (ji15))))))) : Int).toNat).drop ((ji24) : Int).toNat)).bind fun t127 => (if x4_2.length < 5864062014805 then (spec_Unparts.l0 k2 l0 (x4_2 ++ [t127]) (wrap64 ((ji24) + (wrap64 ((wrap64 ((wrap64 (rd l0 x5_2)) * 256)) + (wrap64 (rd l0 (ji15))))))) (wrap64 (x6_2 + 1))) else (none))) else (none)) else (none)) else (none)) = some (r1, r2) := by first | (rw [hji24] at H; exact H) | (simp only [hji24] at H ⊢; exact H)
               (try rw [hji24] at c10b0)
               (try rw [hji24] at c21b0)
               have hji24w : (IntKind.i64.wrap (x5_2 + 2)) = ji24 := (i64_w _).trans hji24
               by_cases c25 : 0 ≤ (ji24)
               ·rw [if_pos c25] at H
                have c25b0 := eq_true c25
                have c25b1 : decide (0 ≤ (ji24)) = true := decide_eq_true c25
                clear c25
                by_cases c26 : (ji24) ≤ (wrap64 ((ji24) + (wrap64 ((wrap64 ((wrap64 (rd l0 x5_2)) * 256)) + (wrap64 (rd l0 (ji15)))))))
                ·rw [if_pos c26] at H
                 have c26b0 := eq_true c26
                 have c26b1 : decide ((ji24) ≤ (wrap64 ((ji24) + (wrap64 ((wrap64 ((wrap64 (rd l0 x5_2)) * 256)) + (wrap64 (rd l0 (ji15)))))))) = true := decide_eq_true c26
                 by_cases c27 : (wrap64 ((ji24) + (wrap64 ((wrap64 ((wrap64 (rd l0 x5_2)) * 256)) + (wrap64 (rd l0 (ji15))))))) ≤ (l0.length : Int)
                 ·rw [if_pos c27] at H
                  have c27b0 := eq_true c27
                  have c27b1 : decide ((wrap64 ((ji24) + (wrap64 ((wrap64 ((wrap64 (rd l0 x5_2)) * 256)) + (wrap64 (rd l0 (ji15))))))) ≤ (l0.length : Int)) = true := decide_eq_true c27
                  replace H := Option.bind_eq_some_iff.mp H
                  obtain ⟨t127, A280, H⟩ := H
                  (try dsimp -simprocs only at H)
                  have A28 := Aside0.mk A280
                  clear A280
                  by_cases c29 : x4_2.length < 5864062014805
                  ·rw [if_pos c29] at H
                   have LMc29 := Aside0.mk c29
                   clear c29
                   obtain ⟨y130, hy130⟩ : ∃ y_ : List (List Int), y_ = (x4_2 ++ [t127]) := ⟨_, rfl⟩
                   replace H : (spec_Unparts.l0 k2 l0 y130 (wrap64 ((ji24) + (wrap64 ((wrap64 ((wrap64 (rd l0 x5_2)) * 256)) + (wrap64 (rd l0 (ji15))))))) (wrap64 (x6_2 + 1))) = some (r1, r2) := by first | (rw [hy130]; exact H) | exact H
                   have Ny130 := Aside0.mk hy130
                   clear hy130
                   have H' := Aside0.mk H
                   clear H
                   have p111 : 0 ≤ (0 : Int) := (by omega)
                   have q111 : 0 < (l0.length : Int) := of_decide_eq_true asm
                   obtain ⟨ad111, e111, hx111_0⟩ := Kd.at_int HR0.out 0 p111 q111
                   cases e111
                   have qi111 : (0 < l0.length) = True := eq_true (by omega)
                   (try rw [show ((0 : Int)).toNat = 0 from rfl] at hx111_0)
                   (try rw [Addr.add_zero'] at hx111_0)
                   replace hx111_0 := (HB.out.cell (World.block_lt_of_cell? w _ hx111_0)).trans hx111_0
                   replace p111 := eq_true p111
                   replace q111 := eq_true q111
                   have p118 : 0 ≤ (x5_2 : Int) := of_decide_eq_true asm
                   have q118 : x5_2 < (l0.length : Int) := of_decide_eq_true asm
                   obtain ⟨ad118, e118, hx118_0⟩ := Kd.at_int HR0.out x5_2 p118 q118
                   obtain rfl : ad111 = ad118 := (by injection e118)
                   replace hx118_0 := (HB.out.cell (World.block_lt_of_cell? w _ hx118_0)).trans hx118_0
                   replace p118 := eq_true p118
                   replace q118 := eq_true q118
                   have p119 : 0 ≤ ((ji15) : Int) := of_decide_eq_true asm
                   have q119 : (ji15) < (l0.length : Int) := of_decide_eq_true asm
                   obtain ⟨ad119, e119, hx119_0⟩ := Kd.at_int HR0.out (ji15) p119 q119
                   obtain rfl : ad111 = ad119 := (by injection e119)
                   replace hx119_0 := (HB.out.cell (World.block_lt_of_cell? w _ hx119_0)).trans hx119_0
                   replace p119 := eq_true p119
                   replace q119 := eq_true q119
                   obtain ⟨i030, hi030, _, hsz30, _⟩ := info_parts info5
                   obtain ⟨A30, hcut30, hA30, hC30⟩ := print_mid_of (P := Try.prog) (Value.int .u8) 0 24 5 .i64 .i64 Try.underlying24 hi030 hsz30 (some ad111) c0 l0 (ji24) (wrap64 ((ji24) + (wrap64 ((wrap64 ((wrap64 (rd l0 x5_2)) * 256)) + (wrap64 (rd l0 (ji15))))))) (of_decide_eq_true asm) (by first | omega | exact of_decide_eq_true asm) (of_decide_eq_true asm) HC0.out
                   have HR126 := Aside0.mk (Kd.C_of_reads (h1 := fun _ => rfl) (hA30 _ (Kd.reads_of_C HR0.out)))
                   have HC126 := Aside0.mk hC30
                   clear hA30 hC30 hi030 hsz30
                   go_wp2_with (first | (go_at_call 45; (try (have hn_ : ((wrap64 ((ji24) + (wrap64 ((wrap64 ((wrap64 (rd l0 x5_2)) * 256)) + (wrap64 (rd l0 (ji15))))))) : Int).toNat - ((ji24) : Int).toNat = ((l0.take ((wrap64 ((ji24) + (wrap64 ((wrap64 ((wrap64 (rd l0 x5_2)) * 256)) + (wrap64 (rd l0 (ji15))))))) : Int).toNat).drop ((ji24) : Int).toNat).length := by (have h3_ : ((wrap64 ((ji24) + (wrap64 ((wrap64 ((wrap64 (rd l0 x5_2)) * 256)) + (wrap64 (rd l0 (ji15))))))) : Int) ≤ (l0.length : Int) := of_decide_eq_true asm); simp only [List.length_drop, List.length_take]; omega); (rw [hn_]); (clear hn_)); (with_reducible refine (spec_l1Bytes.calls _ _ ((l0.take ((wrap64 ((ji24) + (wrap64 ((wrap64 ((wrap64 (rd l0 x5_2)) * 256)) + (wrap64 (rd l0 (ji15))))))) : Int).toNat).drop ((ji24) : Int).toNat) t127 _ ?side1 ?side2 A28.out).mono ?_); (case side1 => exact cv ((Kd.C_below HR126.out HB.out))); (case side2 => exact HC126.out); rintro e w31 ⟨v128, rfl, ho0, hb⟩; replace HO_4 := Aside0.mk (Kd.S_elder' (mv HO_4.out) (Kd.R_base ho0) hb); have HO129 := Aside0.mk (Kd.R_lower ho0 (below_size (bt))); replace HB := Aside0.mk (below_step (bt) hb); (try clear hb); (try clear hb2); (try clear hk); (try clear hi); (try clear ho0); obtain ⟨Ao33, co33, eo33⟩ := Kd.R_slice HO129.out; subst eo33) | ((with_reducible refine gate_builtin (b := .append) (xs := #[.tmp 59, .tmp 67]) rfl ?_); (try (refine gate_guard (by rfl) ?_; dsimp only)); at_builtin; refine Kd.S_append (Kd.slice 5 (Kd.int .u8)) (w0 := w) w.heap.size rfl (.tmp 59) (.tmp 67) 22 24 (.slice none 0 0) 24 rfl Try.underlying22 info24 rfl (by decide) (by omega) u4 x4_2 t127 [.slice Ao33 t127.length co33] (fun _ => True) (fun k_ => some k_ = (.slice Ao33 t127.length co33 : Value).ownBlock) rfl rfl ?aP (fun k_ hk_ => ((Kd.R_mono (ok' := fun k_ => ((fun _ => True)) k_ ∧ some k_ ≠ (u4 : Value).ownBlock) (Kd.R_apart' (HO129.out) (Kd.S_typed HO_4.out) (by decide)) (fun k_ hk => ⟨trivial, hk.2⟩))).1 k_ hk_.symm) ?aF ?aO ?aB ?aS ?aL ?_; (case aP => exact Kd.M_row (Kd.R_mono (Kd.R_tight rfl (Kd.R_mono (ok' := fun k_ => ((fun _ => True)) k_ ∧ some k_ ≠ (u4 : Value).ownBlock) (Kd.R_apart' (HO129.out) (Kd.S_typed HO_4.out) (by decide)) (fun k_ hk => ⟨trivial, hk.2⟩))) (fun _ h_ => h_))); (case aB => exact (bt)); (case aF => exact (fun _ _ => trivial)); (case aO => exact (by (with_reducible repeat (first | apply Kd.S_alloc | apply Kd.S_drewN | apply Kd.S_drew)); exact Kd.S_mono HO_4.out (fun k_ hk => ⟨trivial, fun e_ => hk.2 e_⟩))); (case aS => exact (below_size (bt))); (case aL => have := LMc29.out; omega); intro v131 w32 ho hb hg hat; rw [← Ny130.out] at ho; replace HB := Aside0.mk (hb); have HO132 := Aside0.mk (ho); clear HO_4 HO129; clear ho hb hg hat))
                   repeat (go_quiet (first | (go_at_call 45; (try (have hn_ : ((wrap64 ((ji24) + (wrap64 ((wrap64 ((wrap64 (rd l0 x5_2)) * 256)) + (wrap64 (rd l0 (ji15))))))) : Int).toNat - ((ji24) : Int).toNat = ((l0.take ((wrap64 ((ji24) + (wrap64 ((wrap64 ((wrap64 (rd l0 x5_2)) * 256)) + (wrap64 (rd l0 (ji15))))))) : Int).toNat).drop ((ji24) : Int).toNat).length := by (have h3_ : ((wrap64 ((ji24) + (wrap64 ((wrap64 ((wrap64 (rd l0 x5_2)) * 256)) + (wrap64 (rd l0 (ji15))))))) : Int) ≤ (l0.length : Int) := of_decide_eq_true asm); simp only [List.length_drop, List.length_take]; omega); (rw [hn_]); (clear hn_)); (with_reducible refine (spec_l1Bytes.calls _ _ ((l0.take ((wrap64 ((ji24) + (wrap64 ((wrap64 ((wrap64 (rd l0 x5_2)) * 256)) + (wrap64 (rd l0 (ji15))))))) : Int).toNat).drop ((ji24) : Int).toNat) t127 _ ?side1 ?side2 A28.out).mono ?_); (case side1 => exact cv ((Kd.C_below HR126.out HB.out))); (case side2 => exact HC126.out); rintro e w31 ⟨v128, rfl, ho0, hb⟩; replace HO_4 := Aside0.mk (Kd.S_elder' (mv HO_4.out) (Kd.R_base ho0) hb); have HO129 := Aside0.mk (Kd.R_lower ho0 (below_size (bt))); replace HB := Aside0.mk (below_step (bt) hb); (try clear hb); (try clear hb2); (try clear hk); (try clear hi); (try clear ho0); obtain ⟨Ao33, co33, eo33⟩ := Kd.R_slice HO129.out; subst eo33) | ((with_reducible refine gate_builtin (b := .append) (xs := #[.tmp 59, .tmp 67]) rfl ?_); (try (refine gate_guard (by rfl) ?_; dsimp only)); at_builtin; refine Kd.S_append (Kd.slice 5 (Kd.int .u8)) (w0 := w) w.heap.size rfl (.tmp 59) (.tmp 67) 22 24 (.slice none 0 0) 24 rfl Try.underlying22 info24 rfl (by decide) (by omega) u4 x4_2 t127 [.slice Ao33 t127.length co33] (fun _ => True) (fun k_ => some k_ = (.slice Ao33 t127.length co33 : Value).ownBlock) rfl rfl ?aP (fun k_ hk_ => ((Kd.R_mono (ok' := fun k_ => ((fun _ => True)) k_ ∧ some k_ ≠ (u4 : Value).ownBlock) (Kd.R_apart' (HO129.out) (Kd.S_typed HO_4.out) (by decide)) (fun k_ hk => ⟨trivial, hk.2⟩))).1 k_ hk_.symm) ?aF ?aO ?aB ?aS ?aL ?_; (case aP => exact Kd.M_row (Kd.R_mono (Kd.R_tight rfl (Kd.R_mono (ok' := fun k_ => ((fun _ => True)) k_ ∧ some k_ ≠ (u4 : Value).ownBlock) (Kd.R_apart' (HO129.out) (Kd.S_typed HO_4.out) (by decide)) (fun k_ hk => ⟨trivial, hk.2⟩))) (fun _ h_ => h_))); (case aB => exact (bt)); (case aF => exact (fun _ _ => trivial)); (case aO => exact (by (with_reducible repeat (first | apply Kd.S_alloc | apply Kd.S_drewN | apply Kd.S_drew)); exact Kd.S_mono HO_4.out (fun k_ hk => ⟨trivial, fun e_ => hk.2 e_⟩))); (case aS => exact (below_size (bt))); (case aL => have := LMc29.out; omega); intro v131 w32 ho hb hg hat; rw [← Ny130.out] at ho; replace HB := Aside0.mk (hb); have HO132 := Aside0.mk (ho); clear HO_4 HO129; clear ho hb hg hat)); try go_wp2_with (first | (go_at_call 45; (try (have hn_ : ((wrap64 ((ji24) + (wrap64 ((wrap64 ((wrap64 (rd l0 x5_2)) * 256)) + (wrap64 (rd l0 (ji15))))))) : Int).toNat - ((ji24) : Int).toNat = ((l0.take ((wrap64 ((ji24) + (wrap64 ((wrap64 ((wrap64 (rd l0 x5_2)) * 256)) + (wrap64 (rd l0 (ji15))))))) : Int).toNat).drop ((ji24) : Int).toNat).length := by (have h3_ : ((wrap64 ((ji24) + (wrap64 ((wrap64 ((wrap64 (rd l0 x5_2)) * 256)) + (wrap64 (rd l0 (ji15))))))) : Int) ≤ (l0.length : Int) := of_decide_eq_true asm); simp only [List.length_drop, List.length_take]; omega); (rw [hn_]); (clear hn_)); (with_reducible refine (spec_l1Bytes.calls _ _ ((l0.take ((wrap64 ((ji24) + (wrap64 ((wrap64 ((wrap64 (rd l0 x5_2)) * 256)) + (wrap64 (rd l0 (ji15))))))) : Int).toNat).drop ((ji24) : Int).toNat) t127 _ ?side1 ?side2 A28.out).mono ?_); (case side1 => exact cv ((Kd.C_below HR126.out HB.out))); (case side2 => exact HC126.out); rintro e w31 ⟨v128, rfl, ho0, hb⟩; replace HO_4 := Aside0.mk (Kd.S_elder' (mv HO_4.out) (Kd.R_base ho0) hb); have HO129 := Aside0.mk (Kd.R_lower ho0 (below_size (bt))); replace HB := Aside0.mk (below_step (bt) hb); (try clear hb); (try clear hb2); (try clear hk); (try clear hi); (try clear ho0); obtain ⟨Ao33, co33, eo33⟩ := Kd.R_slice HO129.out; subst eo33) | ((with_reducible refine gate_builtin (b := .append) (xs := #[.tmp 59, .tmp 67]) rfl ?_); (try (refine gate_guard (by rfl) ?_; dsimp only)); at_builtin; refine Kd.S_append (Kd.slice 5 (Kd.int .u8)) (w0 := w) w.heap.size rfl (.tmp 59) (.tmp 67) 22 24 (.slice none 0 0) 24 rfl Try.underlying22 info24 rfl (by decide) (by omega) u4 x4_2 t127 [.slice Ao33 t127.length co33] (fun _ => True) (fun k_ => some k_ = (.slice Ao33 t127.length co33 : Value).ownBlock) rfl rfl ?aP (fun k_ hk_ => ((Kd.R_mono (ok' := fun k_ => ((fun _ => True)) k_ ∧ some k_ ≠ (u4 : Value).ownBlock) (Kd.R_apart' (HO129.out) (Kd.S_typed HO_4.out) (by decide)) (fun k_ hk => ⟨trivial, hk.2⟩))).1 k_ hk_.symm) ?aF ?aO ?aB ?aS ?aL ?_; (case aP => exact Kd.M_row (Kd.R_mono (Kd.R_tight rfl (Kd.R_mono (ok' := fun k_ => ((fun _ => True)) k_ ∧ some k_ ≠ (u4 : Value).ownBlock) (Kd.R_apart' (HO129.out) (Kd.S_typed HO_4.out) (by decide)) (fun k_ hk => ⟨trivial, hk.2⟩))) (fun _ h_ => h_))); (case aB => exact (bt)); (case aF => exact (fun _ _ => trivial)); (case aO => exact (by (with_reducible repeat (first | apply Kd.S_alloc | apply Kd.S_drewN | apply Kd.S_drew)); exact Kd.S_mono HO_4.out (fun k_ hk => ⟨trivial, fun e_ => hk.2 e_⟩))); (case aS => exact (below_size (bt))); (case aL => have := LMc29.out; omega); intro v131 w32 ho hb hg hat; rw [← Ny130.out] at ho; replace HB := Aside0.mk (hb); have HO132 := Aside0.mk (ho); clear HO_4 HO129; clear ho hb hg hat)))
                   go_roundg k2
                   case measure => have := HJ1.out; have := HK2.out; omega
                   case rel => exact ⟨(y130), (wrap64 ((ji24) + (wrap64 ((wrap64 ((wrap64 (rd l0 x5_2)) * 256)) + (wrap64 (rd l0 (ji15))))))), (wrap64 (x6_2 + 1)), (by first | rfl | (simp; done) | (simp only [← hji15, ← hji24] <;> (first | rfl | simp)) | (simp [*]; done)), (by first | rfl | (simp; done) | (simp [*]; done)), H', ⟨by have := HJ1.out; have := HK2.out; omega⟩, ⟨mv HO132.out⟩, ⟨bt⟩⟩
                  ·rw [if_neg c29] at H
                   exact absurd H (by simp)
                 ·rw [if_neg c27] at H
                  exact absurd H (by simp)
                ·rw [if_neg c26] at H
                 exact absurd H (by simp)
               ·rw [if_neg c25] at H
                exact absurd H (by simp)
            ·rw [if_neg c17] at H
             exact absurd H (by simp)
           ·rw [if_neg c16] at H
            exact absurd H (by simp)
          ·rw [if_neg c14] at H
           exact absurd H (by simp)
         ·rw [if_neg c13] at H
          exact absurd H (by simp)
       ·rw [if_neg c9] at H
        have c9b0 : decide (x6_2 < (wrap64 (rd l0 0))) = false := decide_eq_false c9
        clear c9
        by_cases c34 : x5_2 = (l0.length : Int)
        ·rw [if_pos c34] at H
         have c34b0 : (x5_2 == (l0.length : Int)) = true := beq_iff_eq.mpr c34
         have c34b1 : (x5_2 != (l0.length : Int)) = false := bne_eq_false_iff_eq.mpr c34
         clear c34
         simp only [Option.some.injEq, Prod.mk.injEq] at H
         obtain ⟨rfl, rfl⟩ := H
         have p111 : 0 ≤ (0 : Int) := (by omega)
         have q111 : 0 < (l0.length : Int) := of_decide_eq_true asm
         obtain ⟨ad111, e111, hx111_0⟩ := Kd.at_int HR0.out 0 p111 q111
         cases e111
         have qi111 : (0 < l0.length) = True := eq_true (by omega)
         (try rw [show ((0 : Int)).toNat = 0 from rfl] at hx111_0)
         (try rw [Addr.add_zero'] at hx111_0)
         replace hx111_0 := (HB.out.cell (World.block_lt_of_cell? w _ hx111_0)).trans hx111_0
         replace p111 := eq_true p111
         replace q111 := eq_true q111
         go_wp2
         repeat (go_quiet (fail); try go_wp2)
         go_ret2
         exact ⟨_, by first | rfl | (simp [errW_none, errW_some] <;> rfl) | (simp [*, errW_none, errW_some] <;> rfl), by (with_reducible repeat (first | apply Kd.S_alloc | apply Kd.S_drewN | apply Kd.S_drew)); exact HO_4.out, bt⟩
        ·rw [if_neg c34] at H
         have c34b0 : (x5_2 == (l0.length : Int)) = false := beq_eq_false_iff_ne.mpr c34
         have c34b1 : (x5_2 != (l0.length : Int)) = true := bne_iff_ne.mpr c34
         obtain ⟨y112, hy112⟩ : ∃ y_ : List (List Int), y_ = (([] : List (List Int))) := ⟨_, rfl⟩
         replace H : (some (y112, false)) = some (r1, r2) := by first | (rw [hy112]; exact H) | exact H
         have Ny112 := Aside0.mk hy112
         clear hy112
         simp only [Option.some.injEq, Prod.mk.injEq] at H
         obtain ⟨rfl, rfl⟩ := H
         have p111 : 0 ≤ (0 : Int) := (by omega)
         have q111 : 0 < (l0.length : Int) := of_decide_eq_true asm
         obtain ⟨ad111, e111, hx111_0⟩ := Kd.at_int HR0.out 0 p111 q111
         cases e111
         have qi111 : (0 < l0.length) = True := eq_true (by omega)
         (try rw [show ((0 : Int)).toNat = 0 from rfl] at hx111_0)
         (try rw [Addr.add_zero'] at hx111_0)
         replace hx111_0 := (HB.out.cell (World.block_lt_of_cell? w _ hx111_0)).trans hx111_0
         replace p111 := eq_true p111
         replace q111 := eq_true q111
         go_wp2_with (first | ((with_reducible refine gate_dst (N := 76) rfl ?_); (try (refine gate_guard (by rfl) ?_; dsimp only)); refine Kd.S_lit (Kd.slice 5 (Kd.int .u8)) _ 24 ?hg (N := 76) ?hd (xs := ([] : List (List Int))) (inner := []) (ok := fun _ => True) (okp := fun _ => True) ?hr ?hp (fun _ hk => hk) trivial (Below.refl _ _) (Nat.le_refl _) (by simp) ?_; (case hd => rfl); (case hg => rfl); (case hr => first | (go_simp; done) | (go_simp; rfl)); (case hp => exact (Reps.none _ _)); intro v113 w35 ho36 hb hg_ hnew_; clear hg_ hnew_; (first | rw [← Ny112.out] at ho36 | (simp only [Int.reduceToNat] at ho36; rw [← Ny112.out] at ho36)); have HO114 := Aside0.mk (Kd.S_lower (Kd.S_new' ho36 (Kd.S_lt (mv HO_4.out))) (below_size (bt))); replace HO_4 := Aside0.mk (Kd.S_elder' (mv HO_4.out) (Kd.S_base ho36) hb); replace HB := Aside0.mk (below_step (bt) hb); clear hb ho36))
         repeat (go_quiet (first | ((with_reducible refine gate_dst (N := 76) rfl ?_); (try (refine gate_guard (by rfl) ?_; dsimp only)); refine Kd.S_lit (Kd.slice 5 (Kd.int .u8)) _ 24 ?hg (N := 76) ?hd (xs := ([] : List (List Int))) (inner := []) (ok := fun _ => True) (okp := fun _ => True) ?hr ?hp (fun _ hk => hk) trivial (Below.refl _ _) (Nat.le_refl _) (by simp) ?_; (case hd => rfl); (case hg => rfl); (case hr => first | (go_simp; done) | (go_simp; rfl)); (case hp => exact (Reps.none _ _)); intro v113 w35 ho36 hb hg_ hnew_; clear hg_ hnew_; (first | rw [← Ny112.out] at ho36 | (simp only [Int.reduceToNat] at ho36; rw [← Ny112.out] at ho36)); have HO114 := Aside0.mk (Kd.S_lower (Kd.S_new' ho36 (Kd.S_lt (mv HO_4.out))) (below_size (bt))); replace HO_4 := Aside0.mk (Kd.S_elder' (mv HO_4.out) (Kd.S_base ho36) hb); replace HB := Aside0.mk (below_step (bt) hb); clear hb ho36)); try go_wp2_with (first | ((with_reducible refine gate_dst (N := 76) rfl ?_); (try (refine gate_guard (by rfl) ?_; dsimp only)); refine Kd.S_lit (Kd.slice 5 (Kd.int .u8)) _ 24 ?hg (N := 76) ?hd (xs := ([] : List (List Int))) (inner := []) (ok := fun _ => True) (okp := fun _ => True) ?hr ?hp (fun _ hk => hk) trivial (Below.refl _ _) (Nat.le_refl _) (by simp) ?_; (case hd => rfl); (case hg => rfl); (case hr => first | (go_simp; done) | (go_simp; rfl)); (case hp => exact (Reps.none _ _)); intro v113 w35 ho36 hb hg_ hnew_; clear hg_ hnew_; (first | rw [← Ny112.out] at ho36 | (simp only [Int.reduceToNat] at ho36; rw [← Ny112.out] at ho36)); have HO114 := Aside0.mk (Kd.S_lower (Kd.S_new' ho36 (Kd.S_lt (mv HO_4.out))) (below_size (bt))); replace HO_4 := Aside0.mk (Kd.S_elder' (mv HO_4.out) (Kd.S_base ho36) hb); replace HB := Aside0.mk (below_step (bt) hb); clear hb ho36)))
         go_ret2
         exact ⟨_, by first | rfl | (simp [errW_none, errW_some] <;> rfl) | (simp [*, errW_none, errW_some] <;> rfl), by (with_reducible repeat (first | apply Kd.S_alloc | apply Kd.S_drewN | apply Kd.S_drew)); exact Kd.S_mono HO114.out (fun _ hk => trivial), bt⟩
      ·rw [if_neg c8] at H
       exact absurd H (by simp)

/-! ### bytes_Clone: function 46 -/
def bytes_Clone.f (l0 : List Int) : Option (List Int) := if l0.length < 140737488355328 then some l0 else none
set_option maxHeartbeats 4000000 in
set_option maxRecDepth 100000 in
theorem bytes_Clone.calls (A0 : Option Addr) (c0 : Nat) (l0 : List Int) (r : List Int) (w : World) (hr0 : Kd.C (Kd.int .u8) w A0 l0.length l0) (hc0 : l0.length ≤ c0) (h : bytes_Clone.f l0 = some r) :
  Calls Try.prog 46 #[.slice A0 l0.length c0] w fun e w' => ∃ v0_ : Value, e = .returned (v0_) ∧ Kd.R (Kd.int .u8) 5 w' w.heap.size (fun _ => True) v0_ r ∧ Below w.heap.size w w' := by
 unfold bytes_Clone.f at h
 by_cases hl : l0.length < 140737488355328
 ·rw [if_pos hl] at h
  obtain rfl := Option.some.inj h
  have HR0 := Aside0.mk hr0
  have LM := Aside0.mk hl
  have hq := fun W : World => Go.Lib.run_eql_slice_nil (P := Try.prog) W 24 5 A0 l0.length c0 0 0 Try.underlying24
  clear hr0 h hl
  cases A0 with
  | none =>
   have hz : l0 = [] := by
    obtain ⟨_, _, h3⟩ := HR0.out
    cases l0 with
    | nil => rfl
    | cons x l =>
     obtain ⟨ad, e, _⟩ := h3 (by simp)
     cases e
   have HZ := Aside0.mk hz
   clear hz
   have hq1 := hq
   simp only [Option.isNone_none] at hq1
   clear hq
   go_enter Try.func46, Try.ntmps46
   go_wp2
   go_ret
   exact ⟨_, rfl, by rw [HZ.out]; exact Kd.R_nil _ _ _ _ _, Below.refl _ _⟩
  | some ad =>
   have hq1 := hq
   simp only [Option.isNone_some] at hq1
   clear hq
   have HB := Aside0.mk (Below.refl w.heap.size w)
   go_enter Try.func46, Try.ntmps46
   go_wp2_with (first | ((with_reducible refine gate_dst (N := 5) rfl ?_); refine Kd.R_lit (Kd.int .u8) _ 5 ?hg (N := 5) ?hd (xs := ([] : List Int)) (inner := []) (ok := fun _ => True) (okp := fun _ => True) ?hr ?hp (fun _ hk => hk) trivial (Below.refl _ _) (Nat.le_refl _) (by simp) ?_; (case hd => rfl); (case hg => rfl); (case hr => first | (go_simp; done) | (go_simp; rfl)); (case hp => exact (Reps.none _ _)); intro v166 w3 ho4 hb hg_ hnew_; clear hg_ hnew_; have HO167 := Aside0.mk (Kd.R_lower ho4 (below_size (bt))); replace HB := Aside0.mk (below_step (bt) hb); clear hb ho4) | ((with_reducible refine gate_builtin (b := .append) (xs := #[.tmp 5, .tmp 6]) rfl ?_); at_builtin; refine Kd.R_append_rows (Kd.int .u8) (w0 := w) w.heap.size rfl (.tmp 5) (.tmp 6) 24 5 (.int .u8 0) 1 rfl Try.underlying24 info5 rfl (by decide) (by omega) v166 [] l0 _ _ _ (fun _ => True) (fun _ => False) rfl rfl ?aO ?aR (fun _ _ h => h) (fun _ h => h.elim) ?aF ?aB ?aS ?aL ?_; (case aR => exact (Kd.C_below HR0.out HB.out)); (case aB => exact HB.out); (case aF => exact (fun _ _ => trivial)); (case aO => exact HO167.out); (case aS => exact (below_size HB.out)); (case aL => have := LM.out; simp; omega); intro v169 w5 ho hb hg hat; replace HB := Aside0.mk (hb); have HO170 := Aside0.mk (ho); clear HO167; clear ho hb hg hat))
   go_ret
   exact ⟨_, rfl, HO170.out, HB.out⟩
 ·rw [if_neg hl] at h
  cases h

end Go.Proofs.Ythaoloacbbohlaa.PFnExactUnparts
