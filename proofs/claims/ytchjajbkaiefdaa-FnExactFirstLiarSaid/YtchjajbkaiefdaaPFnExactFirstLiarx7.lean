-- Written by a program of this workplace (wip/mp.py) out of the translation.
import Derived.Test.YtchjajbkaiefdaaPFnExactFirstLiarx0
import Derived.Test.YtchjajbkaiefdaaPFnExactFirstLiarx3
import Derived.Test.YtchjajbkaiefdaaPFnExactFirstLiarx4
import Derived.Test.YtchjajbkaiefdaaPFnExactFirstLiarx6
namespace Go.Proofs.Ytchjajbkaiefdaa.PFnExactFirstLiar
open Go.RowKit Go.Proofs.YtchjajbkaiefdaaW.PrintWords Go.Proofs.YtchjajbkaiefdaaW.PrintLast Go.Proofs.YtchjajbkaiefdaaW.PrintMore Go.Proofs.Ytchjajbkaiefdaa.Slim
attribute [local go_sem] max2_int min2_int max_two min_two max_three min_three max_four min_four   -- for this text's walks alone
set_option linter.unusedVariables false
set_option linter.unusedSimpArgs false

/-! ### spec_Liar: function 34 -/
def spec_Liar.j0 : Nat → Int → List (List Int) → Bool → Int → Int → List Int → List Int → Option (List Int × List Int × Bool)
 | 0, _, _, _, _, _, _, _ => none
 | k + 1, x0, x1, x30, x293000, x293001, x293002, x293003 => if x30 = true then (some (([] : List Int), ([] : List Int), false)) else (if x293000 = (x1.length : Int) then ((spec_Path.f k x0 x1 x293001).bind fun bt296 => (if 0 ≤ x293001 then (if x293001 < (x1.length : Int) then ((spec_FromPaths.f k x0 x293000 x293001 (rd_L1 x1 x293001) bt296.1 x293002 x293003).bind fun bt301 => (some (bt301.1, bt301.2.1, bt301.2.2))) else (none)) else (none))) else ((spec_l3Inputs.f k x0 x293000 x293001 x293002 x293003).bind fun t308 => ((spec_l3TopOf.f k x0 x1).bind fun t311 => (if 0 ≤ (wrap64 ((t308.length : Int) - 1)) then (if (wrap64 ((t308.length : Int) - 1)) < (t308.length : Int) then (some (t311, rd_L1 t308 (wrap64 ((t308.length : Int) - 1)), true)) else (none)) else (none)))))
def spec_Liar.f (k : Nat) (a0 : Int) (l1 : List (List Int)) (a2_0 : Int) (a2_1 : Int) (l2_2 : List Int) (l2_3 : List Int) : Option (List Int × List Int × Bool) := (spec_TreeRoot.f k a0 l1).bind fun t294 => (if t294 < 0 then (spec_Liar.j0 k a0 l1 true a2_0 a2_1 l2_2 l2_3) else ((spec_Proven.f k a0 t294 a2_0 a2_1 l2_2 l2_3).bind fun t295 => (spec_Liar.j0 k a0 l1 (!t295) a2_0 a2_1 l2_2 l2_3)))
def spec_Liar.T6 : Bool × List (List Nat × List Nat) := (true, [([], []), ([], []), ([0, 1], [0, 1]), ([], []), ([], []), ([4], [4]), ([5], [5]), ([3, 6], [3, 6]), ([7], [7]), ([2, 8], [2, 8]), ([9, 2, 0, 1, 2, 3, 4, 5, 6, 7, 8, 9], [9]), ([10, 0, 1, 2, 3, 4, 5, 6, 7, 8, 9, 10], [])])
def spec_Liar.B6 : List Nat := [0, 0, 3, 0, 0, 16, 48, 120, 248, 511, 1023, 2047]
theorem spec_Liar.tab6 : rtab .any (opsOf Try.f34 6) = spec_Liar.T6 := by kernel_rfl
theorem spec_Liar.bits6 : waitsOk spec_Liar.T6.2 spec_Liar.B6 = true := by kernel_rfl
def spec_Liar.T8 : Bool × List (List Nat × List Nat) := (true, [([], []), ([], []), ([1], [1]), ([], []), ([3], [3]), ([], []), ([], []), ([6], [6]), ([5, 7], [5, 7]), ([8], [8]), ([], []), ([], []), ([11], [11]), ([], []), ([13], [13]), ([0, 2, 4, 9, 10, 12, 14], [0, 2, 4, 9, 10, 12, 14]), ([15], [15]), ([15], [15]), ([16, 15, 0, 1, 2, 3, 4, 5, 6, 7, 8, 9, 10, 11, 12, 13, 14, 15, 16, 17], [16]), ([17, 18, 0, 1, 2, 3, 4, 5, 6, 7, 8, 9, 10, 11, 12, 13, 14, 15, 16, 17, 18], [17])])
def spec_Liar.B8 : List Nat := [0, 0, 2, 0, 8, 0, 0, 64, 224, 480, 0, 0, 2048, 0, 8192, 32767, 65535, 65535, 262143, 524287]
theorem spec_Liar.tab8 : rtab .any (opsOf Try.f34 8) = spec_Liar.T8 := by kernel_rfl
theorem spec_Liar.bits8 : waitsOk spec_Liar.T8.2 spec_Liar.B8 = true := by kernel_rfl
set_option maxHeartbeats 8000000 in
set_option maxRecDepth 100000 in
theorem spec_Liar.calls (k : Nat) (a0 : Int) (A1 : Option Addr) (c1 : Nat) (l1 : List (List Int)) (a2_0 : Int) (a2_1 : Int) (A2_2 : Option Addr) (c2_2 : Nat) (l2_2 : List Int) (A2_3 : Option Addr) (c2_3 : Nat) (l2_3 : List Int) (r1 : List Int) (r2 : List Int) (r3 : Bool) (w : World) (hr1 : Kd.C (Kd.slice 5 (Kd.int .u8)) w A1 l1.length l1) (hc1 : l1.length ≤ c1) (hr2_2 : Kd.C (Kd.int .u8) w A2_2 l2_2.length l2_2) (hc2_2 : l2_2.length ≤ c2_2) (hr2_3 : Kd.C (Kd.int .i64) w A2_3 l2_3.length l2_3) (hc2_3 : l2_3.length ≤ c2_3) (h : spec_Liar.f k a0 l1 a2_0 a2_1 l2_2 l2_3 = some (r1, r2, r3)) :
  Calls Try.prog 34 #[.int .i64 a0, .slice A1 l1.length c1, .agg #[.int .i64 a2_0, .int .i64 a2_1, .slice A2_2 l2_2.length c2_2, .slice A2_3 l2_3.length c2_3]] w fun e w' => ∃ v0_ v1_ : Value, e = .returned (.tuple #[.agg #[v0_, v1_], .bool r3]) ∧ Kd.V (Kd.int .u8) 5 w' w.heap.size (fun k_ => (w.heap.size ≤ k_)) v0_ r1 ∧ Kd.V (Kd.int .u8) 5 w' w.heap.size (fun k_ => (w.heap.size ≤ k_)) v1_ r2 ∧ Below w.heap.size w w' := by
 have hu31 := Try.underlying31
 have hu33 := Try.underlying33
 have HR1 := Aside0.mk hr1
 have HC1 := Aside0.mk hc1
 clear hr1 hc1
 have HR2_2 := Aside0.mk hr2_2
 have HC2_2 := Aside0.mk hc2_2
 clear hr2_2 hc2_2
 have HR2_3 := Aside0.mk hr2_3
 have HC2_3 := Aside0.mk hc2_3
 clear hr2_3 hc2_3
 have HB := Aside0.mk (Below.refl w.heap.size w)
 have H : ((spec_TreeRoot.f k a0 l1).bind fun t294 => (if t294 < 0 then (spec_Liar.j0 k a0 l1 true a2_0 a2_1 l2_2 l2_3) else ((spec_Proven.f k a0 t294 a2_0 a2_1 l2_2 l2_3).bind fun t295 => (spec_Liar.j0 k a0 l1 (!t295) a2_0 a2_1 l2_2 l2_3)))) = some (r1, r2, r3) := h
 clear h
 replace H := Option.bind_eq_some_iff.mp H
 obtain ⟨t294, A40, H⟩ := H
 (try dsimp -simprocs only at H)
 have A4 := Aside0.mk A40
 clear A40
 have HC5 := Aside0.mk H
 clear H
 go_enter Try.func34, Try.ntmps34
 go_upto_region 2 with (first | ((with_reducible refine gate_dst (N := 5) rfl ?_); refine box_event ?hg (N := 5) ?hd (cs := #[.int .i64 a2_0, .int .i64 a2_1, .slice A2_2 l2_2.length c2_2, .slice A2_3 l2_3.length c2_3]) (t := 31) ?hr ?_; (case hd => rfl); (case hg => rfl); (case hr => first | (go_simp; done) | (go_simp; rfl)); intro gb292 hg w6 hbox hb; have BK292 := Aside0.mk (hbox); have GW292 := Aside0.mk ((by rw [hg]; exact (below_size (bt)) : w.heap.size ≤ gb292)); have GE292 := Aside0.mk ((by rw [hg]; exact (below_size (bt)) : w.heap.size ≤ gb292)); replace HB := Aside0.mk (below_step (bt) hb); clear hb hbox hg) | ((with_reducible refine gate_dst (N := 6) rfl ?_); refine box_event ?hg (N := 6) ?hd (cs := #[.slice none 0 0, .slice none 0 0]) (t := 33) ?hr ?_; (case hd => rfl); (case hg => rfl); (case hr => first | (go_simp; done) | (go_simp; rfl)); intro gb293 hg w7 hbox hb; have BK293 := Aside0.mk (hbox); have GW293 := Aside0.mk ((by rw [hg]; exact (below_size (b1 GE292.out)) : w.heap.size ≤ gb293)); have GE293 := Aside0.mk ((by rw [hg]; exact (below_size (b1 GE292.out)) : w.heap.size ≤ gb293)); replace HB := Aside0.mk (below_step (b1 GE292.out) hb); have NB292_293 := Aside0.mk ((by rw [hg]; exact Nat.ne_of_lt (blk_lt (g := gb292) (o := .cells #[.int .i64 a2_0, .int .i64 a2_1, .slice A2_2 l2_2.length c2_2, .slice A2_3 l2_3.length c2_3] 31 (0, 0)) (mb BK292.out)) : gb292 ≠ gb293)); have NB293_292 := Aside0.mk ((by rw [hg]; exact Nat.ne_of_gt (blk_lt (g := gb292) (o := .cells #[.int .i64 a2_0, .int .i64 a2_1, .slice A2_2 l2_2.length c2_2, .slice A2_3 l2_3.length c2_3] 31 (0, 0)) (mb BK292.out)) : gb293 ≠ gb292)); replace BK292 := Aside0.mk (blk_below (g := gb292) (o := .cells #[.int .i64 a2_0, .int .i64 a2_1, .slice A2_2 l2_2.length c2_2, .slice A2_3 l2_3.length c2_3] 31 (0, 0)) (mb BK292.out) hb); clear hb hbox hg) | ((with_reducible refine gate_callee (f := 73) rfl ?_); refine goesL_ (some 14) rfl rfl Try.func73 (by kernel_rfl) rfl #[.int .i64 a0, .slice A1 l1.length c1] rfl av ?_; (with_reducible refine (spec_TreeRoot.calls k a0 _ _ l1 t294 _ ?side1 ?side2 A4.out).mono ?_); (case side1 => exact cv ((Kd.C_below HR1.out HB.out))); (case side2 => exact HC1.out); rintro e w8 ⟨rfl, hb⟩; refine ⟨_, rfl, ?_⟩; replace BK292 := Aside0.mk (blk_below (g := gb292) (o := .cells #[.int .i64 a2_0, .int .i64 a2_1, .slice A2_2 l2_2.length c2_2, .slice A2_3 l2_3.length c2_3] 31 (0, 0)) (mb BK292.out) hb); replace BK293 := Aside0.mk (blk_below (g := gb293) (o := .cells #[.slice none 0 0, .slice none 0 0] 33 (0, 0)) (mb BK293.out) hb); replace HB := Aside0.mk (below_step (by repeat (first | (with_reducible first | exact HB.out | apply below_alloc | apply pw_below_drewN | apply below_drew1 | refine below_set ?_ GE292.out | refine below_set ?_ GE293.out) | exact HB.out)) hb); (try clear hb); (try clear hb2); (try clear hk); (try clear hi)))
 (try simp only [Act.put, List.setIfInBounds_toArray, List.set_cons_zero, List.set_cons_succ])
 go_cut [30] (fun v30 wc => ∃ (kq : Nat) (x30_4 : Bool), v30 = .bool x30_4 ∧ Aside0 (spec_Liar.j0 kq a0 l1 x30_4 a2_0 a2_1 l2_2 l2_3 = some (r1, r2, r3)) ∧ Aside0 (kq ≤ k) ∧ Aside0 (wc.heap[gb292]? = some (.cells #[.int .i64 a2_0, .int .i64 a2_1, (.slice A2_2 l2_2.length c2_2), (.slice A2_3 l2_3.length c2_3)] 31 (0, 0))) ∧ Aside0 (wc.heap[gb293]? = some (.cells #[(.slice none 0 0), (.slice none 0 0)] 33 (0, 0))) ∧ Aside0 (Below w.heap.size w wc))
 case first =>
  have H := HC5.out
  clear HC5
  by_cases c9 : t294 < 0
  ·rw [if_pos c9] at H
   have c9b0 : decide (t294 < 0) = true := decide_eq_true c9
   clear c9
   (first | rw [c9b0] | (simp only [i64_w, i32_w]; rw [c9b0]) | skip)
   have H' := Aside0.mk H
   clear H
   go_wp2
   go_meet
   case rel => exact ⟨_, (true), (by first | rfl | (simp; done) | (simp [*]; done)), H', ⟨by first | omega | exact Nat.le_refl _⟩, ⟨mb BK292.out⟩, ⟨mb BK293.out⟩, ⟨by repeat (first | (with_reducible first | exact HB.out | apply below_alloc | apply pw_below_drewN | apply below_drew1 | refine below_set ?_ GE292.out | refine below_set ?_ GE293.out) | exact HB.out)⟩⟩
  ·rw [if_neg c9] at H
   have c9b0 : decide (t294 < 0) = false := decide_eq_false c9
   clear c9
   (first | rw [c9b0] | (simp only [i64_w, i32_w]; rw [c9b0]) | skip)
   replace H := Option.bind_eq_some_iff.mp H
   obtain ⟨t295, A100, H⟩ := H
   (try dsimp -simprocs only at H)
   have A10 := Aside0.mk A100
   clear A100
   have H' := Aside0.mk H
   clear H
   have hnb11 := NB292_293.out
   have hnc11 := NB293_292.out
   have hcz12_0 : w8.cell? ⟨gb292, 0, none⟩ = some (.int .i64 a2_0) := (blk_cell BK292.out 0).trans rfl
   have hcz12_1 : w8.cell? ⟨gb292, 1, none⟩ = some (.int .i64 a2_1) := (blk_cell BK292.out 1).trans rfl
   have hcz12_2 : w8.cell? ⟨gb292, 2, none⟩ = some (.slice A2_2 l2_2.length c2_2) := (blk_cell BK292.out 2).trans rfl
   have hcz12_3 : w8.cell? ⟨gb292, 3, none⟩ = some (.slice A2_3 l2_3.length c2_3) := (blk_cell BK292.out 3).trans rfl
   have hfz12_0 := blk_frozen BK292.out 0
   have hfz12_1 := blk_frozen BK292.out 1
   have hfz12_2 := blk_frozen BK292.out 2
   have hfz12_3 := blk_frozen BK292.out 3
   go_wp2_with (first | (go_at_call 83; (with_reducible refine (spec_Proven.calls k a0 t294 a2_0 a2_1 _ _ l2_2 _ _ l2_3 t295 _ ?side1 ?side2 ?side3 ?side4 A10.out).mono ?_); (case side1 => exact cv ((Kd.C_below HR2_2.out HB.out))); (case side2 => exact HC2_2.out); (case side3 => exact cv ((Kd.C_below HR2_3.out HB.out))); (case side4 => exact HC2_3.out); rintro e w13 ⟨rfl, hb⟩; replace BK292 := Aside0.mk (blk_below (g := gb292) (o := .cells #[.int .i64 a2_0, .int .i64 a2_1, .slice A2_2 l2_2.length c2_2, .slice A2_3 l2_3.length c2_3] 31 (0, 0)) (mb BK292.out) hb); replace BK293 := Aside0.mk (blk_below (g := gb293) (o := .cells #[.slice none 0 0, .slice none 0 0] 33 (0, 0)) (mb BK293.out) hb); replace HB := Aside0.mk (below_step (by repeat (first | (with_reducible first | exact HB.out | apply below_alloc | apply pw_below_drewN | apply below_drew1 | refine below_set ?_ GE292.out | refine below_set ?_ GE293.out) | exact HB.out)) hb); (try clear hb); (try clear hb2); (try clear hk); (try clear hi)))
   go_meet
   case rel => exact ⟨_, (!t295), (by first | rfl | (simp; done) | (simp [*]; done)), H', ⟨by first | omega | exact Nat.le_refl _⟩, ⟨mb BK292.out⟩, ⟨mb BK293.out⟩, ⟨by repeat (first | (with_reducible first | exact HB.out | apply below_alloc | apply pw_below_drewN | apply below_drew1 | refine below_set ?_ GE292.out | refine below_set ?_ GE293.out) | exact HB.out)⟩⟩
 case rest =>
  clear HC5
  try clear c1
  try clear c2
  try clear p2
  try clear c3
  try clear c7
  try clear c9
  try clear c9b0
  try clear c11
  try clear hcz12_0
  try clear hcz12_1
  try clear hcz12_2
  try clear hcz12_3
  try clear hfz12_0
  try clear hfz12_1
  try clear hfz12_2
  try clear hfz12_3
  obtain ⟨kq, x30_4, rfl, HA, HJ4, BK292, BK293, HB⟩ := hcut
  cases kq with
  | zero => exact absurd HA.out (by simp [spec_Liar.j0])
  | succ kj4 =>
   have H := HA.out
   clear HA
   simp only [spec_Liar.j0] at H
   by_cases c14 : x30_4 = true
   ·subst c14
    rw [if_pos rfl] at H
    simp only [Option.some.injEq, Prod.mk.injEq] at H
    obtain ⟨rfl, rfl, rfl⟩ := H
    have hnb15 := NB293_292.out
    have hnc15 := NB292_293.out
    have hcz16_0 : wc.cell? ⟨gb293, 0, none⟩ = some (.slice none 0 0) := (blk_cell BK293.out 0).trans rfl
    have hcz16_1 : wc.cell? ⟨gb293, 1, none⟩ = some (.slice none 0 0) := (blk_cell BK293.out 1).trans rfl
    have hfz16_0 := blk_frozen BK293.out 0
    have hfz16_1 := blk_frozen BK293.out 1
    go_wp2
    refine bodyPost_ret (results_ct rfl _ _ gb293 33 #[.slice none 0 0, .slice none 0 0] (0, 0) _ rfl (by (with_reducible repeat (first | refine blk_drewN ?_ _ | refine blk_drew ?_ | refine blk_alloc ?_ _)); refine blk_put (cs := #[.slice none 0 0, .slice none 0 0]) ?_ 1 _ rfl; (with_reducible repeat (first | refine blk_drewN ?_ _ | refine blk_drew ?_ | refine blk_alloc ?_ _)); refine blk_put (cs := #[.slice none 0 0, .slice none 0 0]) ?_ 0 _ rfl; (with_reducible repeat (first | refine blk_drewN ?_ _ | refine blk_drew ?_ | refine blk_alloc ?_ _)); exact BK293.out) Try.underlying33 rfl (by kernel_rfl)) rfl ?_
    exact ⟨_, _, by first | rfl | (simp [errW_none, errW_some] <;> rfl) | (simp [*, errW_none, errW_some] <;> rfl), Kd.R_V (base := 0) (by first | exact Kd.R_nil _ _ _ _ _ | exact Kd.N_nil _ _ _ _ _ | exact Kd.V_nil _ _ _ _ _ | exact Kd.Q_nil _ _ _ _ _ | exact Kd.S_nil _ _ _ _ _), Kd.R_V (base := 0) (by first | exact Kd.R_nil _ _ _ _ _ | exact Kd.N_nil _ _ _ _ _ | exact Kd.V_nil _ _ _ _ _ | exact Kd.Q_nil _ _ _ _ _ | exact Kd.S_nil _ _ _ _ _), by repeat (first | (with_reducible first | exact HB.out | apply below_alloc | apply pw_below_drewN | apply below_drew1 | refine below_set ?_ GE292.out | refine below_set ?_ GE293.out) | exact HB.out)⟩
   ·replace c14 := Bool.eq_false_iff.mpr c14
    subst c14
    rw [if_neg (show ¬ (false = true) by decide)] at H
    by_cases c17 : a2_0 = (l1.length : Int)
    ·rw [if_pos c17] at H
     have c17b0 : (a2_0 == (l1.length : Int)) = true := beq_iff_eq.mpr c17
     have c17b1 : (a2_0 != (l1.length : Int)) = false := bne_eq_false_iff_eq.mpr c17
     clear c17
     replace H := Option.bind_eq_some_iff.mp H
     obtain ⟨⟨t296, t297⟩, A180, H⟩ := H
     (try dsimp -simprocs only at H)
     have A18 := Aside0.mk A180
     clear A180
     by_cases c19 : 0 ≤ a2_1
     ·rw [if_pos c19] at H
      have c19b0 : decide (0 ≤ a2_1) = true := decide_eq_true c19
      clear c19
      by_cases c20 : a2_1 < (l1.length : Int)
      ·rw [if_pos c20] at H
       have c20b0 : decide (a2_1 < (l1.length : Int)) = true := decide_eq_true c20
       clear c20
       replace H := Option.bind_eq_some_iff.mp H
       obtain ⟨⟨t301, t304, t307⟩, A210, H⟩ := H
       (try dsimp -simprocs only at H)
       have A21 := Aside0.mk A210
       clear A210
       simp only [Option.some.injEq, Prod.mk.injEq] at H
       obtain ⟨rfl, rfl, rfl⟩ := H
       have hnb22 := NB292_293.out
       have hnc22 := NB293_292.out
       have hcz23_0 : wc.cell? ⟨gb292, 0, none⟩ = some (.int .i64 a2_0) := (blk_cell BK292.out 0).trans rfl
       have hcz23_1 : wc.cell? ⟨gb292, 1, none⟩ = some (.int .i64 a2_1) := (blk_cell BK292.out 1).trans rfl
       have hcz23_2 : wc.cell? ⟨gb292, 2, none⟩ = some (.slice A2_2 l2_2.length c2_2) := (blk_cell BK292.out 2).trans rfl
       have hcz23_3 : wc.cell? ⟨gb292, 3, none⟩ = some (.slice A2_3 l2_3.length c2_3) := (blk_cell BK292.out 3).trans rfl
       have hfz23_0 := blk_frozen BK292.out 0
       have hfz23_1 := blk_frozen BK292.out 1
       have hfz23_2 := blk_frozen BK292.out 2
       have hfz23_3 := blk_frozen BK292.out 3
       try go_wp2_with (first | ((with_reducible refine gate_callee (f := 76) rfl ?_); refine goesL_ (some 62) rfl rfl Try.func76 (by kernel_rfl) rfl #[.int .i64 a0, .slice A1 l1.length c1, .int .i64 a2_1] rfl av ?_; (with_reducible refine (spec_Path.calls kj4 a0 _ _ l1 a2_1 t296 t297 _ ?side1 ?side2 A18.out).mono ?_); (case side1 => exact cv ((Kd.C_below HR1.out HB.out))); (case side2 => exact HC1.out); rintro e w24 ⟨v298, rfl, ho0, hb⟩; refine ⟨_, rfl, ?_⟩; have HO299 := Aside0.mk (Kd.R_lower (Kd.R_newM (M := fun k_ => (w.heap.size ≤ k_)) ho0 (below_size (by repeat (first | (with_reducible first | exact HB.out | apply below_alloc | apply pw_below_drewN | apply below_drew1 | refine below_set ?_ GE292.out | refine below_set ?_ GE293.out) | exact HB.out))) (fun k_ h_ => h_)) (below_size (by repeat (first | (with_reducible first | exact HB.out | apply below_alloc | apply pw_below_drewN | apply below_drew1 | refine below_set ?_ GE292.out | refine below_set ?_ GE293.out) | exact HB.out)))); replace BK292 := Aside0.mk (blk_below (g := gb292) (o := .cells #[.int .i64 a2_0, .int .i64 a2_1, .slice A2_2 l2_2.length c2_2, .slice A2_3 l2_3.length c2_3] 31 (0, 0)) (mb BK292.out) hb); replace BK293 := Aside0.mk (blk_below (g := gb293) (o := .cells #[.slice none 0 0, .slice none 0 0] 33 (0, 0)) (mb BK293.out) hb); replace HB := Aside0.mk (below_step (by repeat (first | (with_reducible first | exact HB.out | apply below_alloc | apply pw_below_drewN | apply below_drew1 | refine below_set ?_ GE292.out | refine below_set ?_ GE293.out) | exact HB.out)) hb); (try clear hb); (try clear hb2); (try clear hk); (try clear hi); (try clear ho0)))
       have n0_ := Aside0.mk (Kd.R_drew HO299.out)
       have n1_ := Aside0.mk (blk_drew BK292.out)
       have n2_ := Aside0.mk (blk_drew BK293.out)
       have n3_ := Aside0.mk (below_drew1 HB.out)
       clear HO299
       clear BK292
       clear BK293
       clear HB
       have HO299 := n0_
       have BK292 := n1_
       have BK293 := n2_
       have HB := n3_
       clear n0_ n1_ n2_ n3_
       have p300 : 0 ≤ (a2_1 : Int) := of_decide_eq_true asm
       have q300 : a2_1 < (l1.length : Int) := of_decide_eq_true asm
       obtain ⟨ad300, A300_0, c300_0, e300, hx300_0, hl300_0, hi300_0⟩ := at_L1 HR1.out a2_1 p300 q300
       have hw300_0 := hx300_0
       cases e300
       replace hx300_0 := (HB.out.cell (World.block_lt_of_cell? w _ hx300_0)).trans hx300_0
       have HR300_0 := Aside0.mk hi300_0
       have HC300_0 := Aside0.mk hl300_0
       clear hi300_0 hl300_0
       replace p300 := eq_true p300
       replace q300 := eq_true q300
       obtain ⟨Ao26, co26, eo26⟩ := Kd.R_slice HO299.out
       (first | subst eo26 | (injection eo26 with f1_ f2_ f3_; have f4_ := f1_.symm; have f5_ := f3_.symm; clear f1_ f2_ f3_; subst f4_; subst f5_))
       refine start_ (n := 20) (S := fun w' => w'.cell? ⟨gb292, 0, none⟩ = some (.int .i64 a2_0) ∧ w'.cell? ⟨gb292, 1, none⟩ = some (.int .i64 a2_1) ∧ w'.cell? ⟨gb292, 2, none⟩ = some (.slice A2_2 l2_2.length c2_2) ∧ w'.cell? ⟨gb292, 3, none⟩ = some (.slice A2_3 l2_3.length c2_3) ∧ w'.cell? (ad300.add (a2_1).toNat) = some (.slice A300_0 (rd_L1 l1 a2_1).length c300_0)) (ds := []) #[false, false, false, false, false, false, false, false, false, false, false, false, false, false, false, false, false, false, false, false] (by kernel_rfl) rfl rfl ⟨(blk_cell BK292.out 0).trans rfl, (blk_cell BK292.out 1).trans rfl, (blk_cell BK292.out 2).trans rfl, (blk_cell BK292.out 3).trans rfl, ((HB.out.cell (World.block_lt_of_cell? w _ hw300_0)).trans hw300_0)⟩ (fun hHeld => ?_); refine with_tabW spec_Liar.tab8 spec_Liar.bits8 (fun HT_ HW_ => ?_)
       generalize w24.drew = w25 at HO299 BK292 BK293 HB HR300_0 hx300_0 hHeld ⊢
       refine pz (i := 0) (N := some 65) #[true, false, false, false, false, false, false, false, false, false, false, false, false, false, false, false, false, false, false, false] rfl rfl HT_.out ?_
       refine pz (i := 1) (N := some 66) #[true, true, false, false, false, false, false, false, false, false, false, false, false, false, false, false, false, false, false, false] rfl rfl HT_.out ?_
       refine pz (i := 3) (N := some 68) #[true, true, false, true, false, false, false, false, false, false, false, false, false, false, false, false, false, false, false, false] rfl rfl HT_.out ?_
       refine pz (i := 5) (N := some 70) #[true, true, false, true, false, true, false, false, false, false, false, false, false, false, false, false, false, false, false, false] rfl rfl HT_.out ?_
       refine pz (i := 6) (N := some 71) #[true, true, false, true, false, true, true, false, false, false, false, false, false, false, false, false, false, false, false, false] rfl rfl HT_.out ?_
       refine pz (i := 10) (N := some 75) #[true, true, false, true, false, true, true, false, false, false, true, false, false, false, false, false, false, false, false, false] rfl rfl HT_.out ?_
       refine pz (i := 11) (N := some 76) #[true, true, false, true, false, true, true, false, false, false, true, true, false, false, false, false, false, false, false, false] rfl rfl HT_.out ?_
       refine pz (i := 13) (N := some 78) #[true, true, false, true, false, true, true, false, false, false, true, true, false, true, false, false, false, false, false, false] rfl rfl HT_.out ?_
       refine tz (i := 2) (N := some 67) #[true, true, true, true, false, true, true, false, false, false, true, true, false, true, false, false, false, false, false, false] rfl rfl HT_.out HW_.out hHeld (Or.inl ⟨by rfl, by rintro w' ⟨s0, s1, s2, s3, s4⟩; go_simp; with_reducible rfl⟩) ?_
       refine tz (i := 4) (N := some 69) #[true, true, true, true, true, true, true, false, false, false, true, true, false, true, false, false, false, false, false, false] rfl rfl HT_.out HW_.out hHeld (Or.inl ⟨by rfl, by rintro w' ⟨s0, s1, s2, s3, s4⟩; go_simp; with_reducible rfl⟩) ?_
       refine tz (i := 7) (N := some 72) #[true, true, true, true, true, true, true, true, false, false, true, true, false, true, false, false, false, false, false, false] rfl rfl HT_.out HW_.out hHeld (Or.inl ⟨by rfl, by rintro w' ⟨s0, s1, s2, s3, s4⟩; go_simp; with_reducible rfl⟩) ?_
       refine pz (i := 8) (N := some 73) #[true, true, true, true, true, true, true, true, true, false, true, true, false, true, false, false, false, false, false, false] rfl rfl HT_.out ?_
       refine tz (i := 9) (N := some 74) #[true, true, true, true, true, true, true, true, true, true, true, true, false, true, false, false, false, false, false, false] rfl rfl HT_.out HW_.out hHeld (Or.inl ⟨by rfl, by rintro w' ⟨s0, s1, s2, s3, s4⟩; go_simp; with_reducible rfl⟩) ?_
       refine tz (i := 12) (N := some 77) #[true, true, true, true, true, true, true, true, true, true, true, true, true, true, false, false, false, false, false, false] rfl rfl HT_.out HW_.out hHeld (Or.inl ⟨by rfl, by rintro w' ⟨s0, s1, s2, s3, s4⟩; go_simp; with_reducible rfl⟩) ?_
       refine tz (i := 14) (N := some 79) #[true, true, true, true, true, true, true, true, true, true, true, true, true, true, true, false, false, false, false, false] rfl rfl HT_.out HW_.out hHeld (Or.inl ⟨by rfl, by rintro w' ⟨s0, s1, s2, s3, s4⟩; go_simp; with_reducible rfl⟩) ?_
       refine one_ (i := 15) (N := some 80) #[true, true, true, true, true, true, true, true, true, true, true, true, true, true, true, true, false, false, false, false] rfl rfl (one_of HT_.out (by kernel_rfl)) (by decide) (fun K hK => ?_)
       refine goes_ Try.func77 (by kernel_rfl) rfl #[.int .i64 a0, .int .i64 a2_0, .int .i64 a2_1, .slice A300_0 (rd_L1 l1 a2_1).length c300_0, .slice Ao26 t296.length co26, .slice A2_2 l2_2.length c2_2, .slice A2_3 l2_3.length c2_3] (by rfl) rfl rfl av ?_
       with_reducible refine (spec_FromPaths.calls kj4 a0 a2_0 a2_1 _ _ (rd_L1 l1 a2_1) _ _ t296 _ _ l2_2 _ _ l2_3 t301 t304 t307 _ ?side1 ?side2 ?side3 ?side4 ?side5 ?side6 ?side7 ?side8 A21.out).mono ?_
       (case side1 => exact cv ((Kd.C_below HR300_0.out HB.out)))
       (case side2 => exact HC300_0.out)
       (case side3 => exact cv ((Kd.R_reads' HO299.out).2.2))
       (case side4 => exact (Kd.R_reads' HO299.out).2.1)
       (case side5 => exact cv ((Kd.C_below HR2_2.out HB.out)))
       (case side6 => exact HC2_2.out)
       (case side7 => exact cv ((Kd.C_below HR2_3.out HB.out)))
       (case side8 => exact HC2_3.out)
       rintro e w27 ⟨v302, v305, rfl, ho0, ho1, hb⟩
       refine ⟨_, rfl, ?_⟩
       have n0_ := Aside0.mk (Kd.R_below (mv HO299.out) hb)
       have n1_ := Aside0.mk (Kd.V_lower (Kd.V_mono (ok' := fun k_ => (w.heap.size ≤ k_) ∧ some k_ ≠ (.slice Ao26 t296.length co26 : Value).ownBlock ∧ k_ ≠ gb292 ∧ k_ ≠ gb293) ho0 (fun k_ hk_ => ⟨(Nat.le_trans (below_size (by repeat (first | (with_reducible first | exact HB.out | apply below_alloc | apply pw_below_drewN | apply below_drew1 | refine below_set ?_ GE292.out | refine below_set ?_ GE293.out) | exact HB.out))) hk_), (Kd.fresh' (Kd.R_lt (mv HO299.out)) k_ hk_), (Kd.freshB (g := gb292) (o := .cells #[.int .i64 a2_0, .int .i64 a2_1, .slice A2_2 l2_2.length c2_2, .slice A2_3 l2_3.length c2_3] 31 (0, 0)) (mb BK292.out) k_ hk_), (Kd.freshB (g := gb293) (o := .cells #[.slice none 0 0, .slice none 0 0] 33 (0, 0)) (mb BK293.out) k_ hk_)⟩)) (below_size (by repeat (first | (with_reducible first | exact HB.out | apply below_alloc | apply pw_below_drewN | apply below_drew1 | refine below_set ?_ GE292.out | refine below_set ?_ GE293.out) | exact HB.out))))
       have n2_ := Aside0.mk (Kd.V_lower (Kd.V_mono (ok' := fun k_ => (w.heap.size ≤ k_) ∧ some k_ ≠ (.slice Ao26 t296.length co26 : Value).ownBlock ∧ k_ ≠ gb292 ∧ k_ ≠ gb293) ho1 (fun k_ hk_ => ⟨(Nat.le_trans (below_size (by repeat (first | (with_reducible first | exact HB.out | apply below_alloc | apply pw_below_drewN | apply below_drew1 | refine below_set ?_ GE292.out | refine below_set ?_ GE293.out) | exact HB.out))) hk_), (Kd.fresh' (Kd.R_lt (mv HO299.out)) k_ hk_), (Kd.freshB (g := gb292) (o := .cells #[.int .i64 a2_0, .int .i64 a2_1, .slice A2_2 l2_2.length c2_2, .slice A2_3 l2_3.length c2_3] 31 (0, 0)) (mb BK292.out) k_ hk_), (Kd.freshB (g := gb293) (o := .cells #[.slice none 0 0, .slice none 0 0] 33 (0, 0)) (mb BK293.out) k_ hk_)⟩)) (below_size (by repeat (first | (with_reducible first | exact HB.out | apply below_alloc | apply pw_below_drewN | apply below_drew1 | refine below_set ?_ GE292.out | refine below_set ?_ GE293.out) | exact HB.out))))
       have n3_ := Aside0.mk (blk_below (g := gb292) (o := .cells #[.int .i64 a2_0, .int .i64 a2_1, .slice A2_2 l2_2.length c2_2, .slice A2_3 l2_3.length c2_3] 31 (0, 0)) (mb BK292.out) hb)
       have n4_ := Aside0.mk (blk_below (g := gb293) (o := .cells #[.slice none 0 0, .slice none 0 0] 33 (0, 0)) (mb BK293.out) hb)
       have n5_ := Aside0.mk (below_step (by repeat (first | (with_reducible first | exact HB.out | apply below_alloc | apply pw_below_drewN | apply below_drew1 | refine below_set ?_ GE292.out | refine below_set ?_ GE293.out) | exact HB.out)) hb)
       clear HO299
       clear BK292
       clear BK293
       clear HB
       have HO299 := n0_
       have HO303 := n1_
       have HO306 := n2_
       have BK292 := n3_
       have BK293 := n4_
       have HB := n5_
       clear n0_ n1_ n2_ n3_ n4_ n5_
       (try clear hb)
       (try clear hb2)
       (try clear hk)
       (try clear hi)
       (try clear ho0)
       (try clear ho1)
       obtain ⟨Ao28, co28, eo28⟩ := Kd.V_slice HO303.out
       (first | subst eo28 | (injection eo28 with f1_ f2_ f3_; have f4_ := f1_.symm; have f5_ := f3_.symm; clear f1_ f2_ f3_; subst f4_; subst f5_))
       obtain ⟨Ao30, co30, eo30⟩ := Kd.V_slice HO306.out
       (first | subst eo30 | (injection eo30 with f1_ f2_ f3_; have f4_ := f1_.symm; have f5_ := f3_.symm; clear f1_ f2_ f3_; subst f4_; subst f5_))
       refine hK.out _ _ ⟨(blk_cell BK292.out 0).trans rfl, (blk_cell BK292.out 1).trans rfl, (blk_cell BK292.out 2).trans rfl, (blk_cell BK292.out 3).trans rfl, ((HB.out.cell (World.block_lt_of_cell? w _ hw300_0)).trans hw300_0)⟩ (fun hHeld => ?_)
       clear hK K
       refine nz (N := some 80) ?_
       refine pz (i := 16) (N := some 81) #[true, true, true, true, true, true, true, true, true, true, true, true, true, true, true, true, true, false, false, false] rfl rfl HT_.out ?_
       refine pz (i := 17) (N := some 82) #[true, true, true, true, true, true, true, true, true, true, true, true, true, true, true, true, true, true, false, false] rfl rfl HT_.out ?_
       refine one_ (i := 18) (N := none) #[true, true, true, true, true, true, true, true, true, true, true, true, true, true, true, true, true, true, true, false] rfl rfl (one_of HT_.out (by kernel_rfl)) (by decide) (fun K hK => ?_)
       have hs29 : w27.cell? ⟨gb293, 0, none⟩ = some (.slice none 0 0) := (blk_cell BK293.out 0).trans rfl
       have hfs29 := blk_frozen BK293.out 0
       have hns29_0 := NB292_293.out
       have hms29_0 := NB293_292.out
       have hs31 : w27.cell? ⟨gb293, 1, none⟩ = some (.slice none 0 0) := (blk_cell BK293.out 1).trans rfl
       have hfs31 := blk_frozen BK293.out 1
       have hns31_0 := NB292_293.out
       have hms31_0 := NB293_292.out
       refine skip_ (w1 := ?_) (by rfl) rfl ?_ ?_
       rotate_left
       ·go_simp
        rfl
       refine hK.out _ _ ⟨((cell_far (p := ⟨gb293, _, none⟩) NB292_293.out _).trans (((cell_far (p := ⟨gb293, _, none⟩) NB292_293.out _).trans (hHeld.1)))), ((cell_far (p := ⟨gb293, _, none⟩) NB292_293.out _).trans (((cell_far (p := ⟨gb293, _, none⟩) NB292_293.out _).trans (hHeld.2.1)))), ((cell_far (p := ⟨gb293, _, none⟩) NB292_293.out _).trans (((cell_far (p := ⟨gb293, _, none⟩) NB292_293.out _).trans (hHeld.2.2.1)))), ((cell_far (p := ⟨gb293, _, none⟩) NB292_293.out _).trans (((cell_far (p := ⟨gb293, _, none⟩) NB292_293.out _).trans (hHeld.2.2.2.1)))), ((cell_far (p := ⟨gb293, _, none⟩) (by first | exact Nat.ne_of_lt (Nat.lt_of_lt_of_le (by have := World.block_lt_of_cell? _ _ hw300_0; first | rwa [add_block] at this | exact this) GW293.out) | (rw [add_block]; exact Nat.ne_of_lt (Nat.lt_of_lt_of_le (by have := World.block_lt_of_cell? _ _ hw300_0; first | rwa [add_block] at this | exact this) GW293.out)) | (show (Addr.add _ _).block ≠ _; rw [add_block]; exact Nat.ne_of_lt (Nat.lt_of_lt_of_le (by have := World.block_lt_of_cell? _ _ hw300_0; first | rwa [add_block] at this | exact this) GW293.out)) | (dsimp only; exact Nat.ne_of_lt (Nat.lt_of_lt_of_le (by have := World.block_lt_of_cell? _ _ hw300_0; first | rwa [add_block] at this | exact this) GW293.out))) _).trans (((cell_far (p := ⟨gb293, _, none⟩) (by first | exact Nat.ne_of_lt (Nat.lt_of_lt_of_le (by have := World.block_lt_of_cell? _ _ hw300_0; first | rwa [add_block] at this | exact this) GW293.out) | (rw [add_block]; exact Nat.ne_of_lt (Nat.lt_of_lt_of_le (by have := World.block_lt_of_cell? _ _ hw300_0; first | rwa [add_block] at this | exact this) GW293.out)) | (show (Addr.add _ _).block ≠ _; rw [add_block]; exact Nat.ne_of_lt (Nat.lt_of_lt_of_le (by have := World.block_lt_of_cell? _ _ hw300_0; first | rwa [add_block] at this | exact this) GW293.out)) | (dsimp only; exact Nat.ne_of_lt (Nat.lt_of_lt_of_le (by have := World.block_lt_of_cell? _ _ hw300_0; first | rwa [add_block] at this | exact this) GW293.out))) _).trans (hHeld.2.2.2.2))))⟩ (fun hHeld => ?_)
       clear hK K
       refine pz (i := 19) (N := some 7) #[true, true, true, true, true, true, true, true, true, true, true, true, true, true, true, true, true, true, true, true] rfl rfl HT_.out ?_
       refine done_ (done_of HT_.out (by kernel_rfl)) ?_
       (try simp only [Dig.setCell_drewN])
       try go_wp2
       refine bodyPost_ret (results_ct rfl _ _ gb293 33 #[.slice Ao28 t301.length co28, .slice Ao30 t304.length co30] (0, 0) _ rfl (by (with_reducible repeat (first | refine blk_drewN ?_ _ | refine blk_drew ?_ | refine blk_alloc ?_ _)); refine blk_put (cs := #[.slice Ao28 t301.length co28, .slice none 0 0]) ?_ 1 _ rfl; (with_reducible repeat (first | refine blk_drewN ?_ _ | refine blk_drew ?_ | refine blk_alloc ?_ _)); refine blk_put (cs := #[.slice none 0 0, .slice none 0 0]) ?_ 0 _ rfl; (with_reducible repeat (first | refine blk_drewN ?_ _ | refine blk_drew ?_ | refine blk_alloc ?_ _)); exact BK293.out) Try.underlying33 rfl (by kernel_rfl)) rfl ?_
       exact ⟨_, _, by first | rfl | (simp [errW_none, errW_some] <;> rfl) | (simp [*, errW_none, errW_some] <;> rfl), by (with_reducible repeat (first | apply Kd.V_alloc | apply Kd.V_drewN | apply Kd.V_drew)); exact Kd.V_mono (Kd.V_far (p := ⟨gb293, 1, none⟩) (Kd.V_far (p := ⟨gb293, 0, none⟩) (Kd.V_mono HO303.out (fun k_ hk => (⟨hk, hk.2.2.2⟩ : _ ∧ k_ ≠ gb293))) (fun _ hk => hk.2) (.slice Ao28 t301.length co28)) (fun _ hk => hk.2) (.slice Ao30 t304.length co30)) (fun _ hk => hk.1.1), by (with_reducible repeat (first | apply Kd.V_alloc | apply Kd.V_drewN | apply Kd.V_drew)); exact Kd.V_mono (Kd.V_far (p := ⟨gb293, 1, none⟩) (Kd.V_far (p := ⟨gb293, 0, none⟩) (Kd.V_mono HO306.out (fun k_ hk => (⟨hk, hk.2.2.2⟩ : _ ∧ k_ ≠ gb293))) (fun _ hk => hk.2) (.slice Ao28 t301.length co28)) (fun _ hk => hk.2) (.slice Ao30 t304.length co30)) (fun _ hk => hk.1.1), by repeat (first | (with_reducible first | exact HB.out | apply below_alloc | apply pw_below_drewN | apply below_drew1 | refine below_set ?_ GE292.out | refine below_set ?_ GE293.out) | exact HB.out)⟩
      ·rw [if_neg c20] at H
       exact absurd H (by simp)
     ·rw [if_neg c19] at H
      exact absurd H (by simp)
    ·rw [if_neg c17] at H
     have c17b0 : (a2_0 == (l1.length : Int)) = false := beq_eq_false_iff_ne.mpr c17
     have c17b1 : (a2_0 != (l1.length : Int)) = true := bne_iff_ne.mpr c17
     replace H := Option.bind_eq_some_iff.mp H
     obtain ⟨t308, A320, H⟩ := H
     (try dsimp -simprocs only at H)
     have A32 := Aside0.mk A320
     clear A320
     replace H := Option.bind_eq_some_iff.mp H
     obtain ⟨t311, A330, H⟩ := H
     (try dsimp -simprocs only at H)
     have A33 := Aside0.mk A330
     clear A330
     obtain ⟨ji34, hji34⟩ : ∃ j_ : Int, (wrap64 ((t308.length : Int) - 1)) = j_ := ⟨_, rfl⟩
     replace H : (if 0 ≤ (ji34) then (if (ji34) < (t308.length : Int) then (some (t311, rd_L1 t308 (ji34), true)) else (none)) else (none)) = some (r1, r2, r3) := by first | (rw [hji34] at H; exact H) | (simp only [hji34] at H ⊢; exact H)
     (try rw [hji34] at A32)
     (try rw [hji34] at A33)
     have hji34w : (IntKind.i64.wrap ((t308.length : Int) - 1)) = ji34 := (i64_w _).trans hji34
     by_cases c35 : 0 ≤ (ji34)
     ·rw [if_pos c35] at H
      have c35b0 : decide (0 ≤ (ji34)) = true := decide_eq_true c35
      clear c35
      by_cases c36 : (ji34) < (t308.length : Int)
      ·rw [if_pos c36] at H
       have c36b0 : decide ((ji34) < (t308.length : Int)) = true := decide_eq_true c36
       clear c36
       simp only [Option.some.injEq, Prod.mk.injEq] at H
       obtain ⟨rfl, rfl, rfl⟩ := H
       have hnb37 := NB292_293.out
       have hnc37 := NB293_292.out
       have hcz38_0 : wc.cell? ⟨gb292, 0, none⟩ = some (.int .i64 a2_0) := (blk_cell BK292.out 0).trans rfl
       have hcz38_1 : wc.cell? ⟨gb292, 1, none⟩ = some (.int .i64 a2_1) := (blk_cell BK292.out 1).trans rfl
       have hcz38_2 : wc.cell? ⟨gb292, 2, none⟩ = some (.slice A2_2 l2_2.length c2_2) := (blk_cell BK292.out 2).trans rfl
       have hcz38_3 : wc.cell? ⟨gb292, 3, none⟩ = some (.slice A2_3 l2_3.length c2_3) := (blk_cell BK292.out 3).trans rfl
       have hfz38_0 := blk_frozen BK292.out 0
       have hfz38_1 := blk_frozen BK292.out 1
       have hfz38_2 := blk_frozen BK292.out 2
       have hfz38_3 := blk_frozen BK292.out 3
       try go_wp2_with (first | ((with_reducible refine gate_callee (f := 84) rfl ?_); refine goesL_ (some 46) rfl rfl Try.func84 (by kernel_rfl) rfl #[.int .i64 a0, .int .i64 a2_0, .int .i64 a2_1, .slice A2_2 l2_2.length c2_2, .slice A2_3 l2_3.length c2_3] rfl av ?_; (with_reducible refine (spec_l3Inputs.calls kj4 a0 a2_0 a2_1 _ _ l2_2 _ _ l2_3 t308 _ ?side1 ?side2 ?side3 ?side4 A32.out).mono ?_); (case side1 => exact cv ((Kd.C_below HR2_2.out HB.out))); (case side2 => exact HC2_2.out); (case side3 => exact cv ((Kd.C_below HR2_3.out HB.out))); (case side4 => exact HC2_3.out); rintro e w39 ⟨v309, rfl, ho0, hb⟩; refine ⟨_, rfl, ?_⟩; have HO310 := Aside0.mk (Kd.N_lower (Kd.N_mono (ok' := fun k_ => (w.heap.size ≤ k_) ∧ k_ ≠ gb292 ∧ k_ ≠ gb293) ho0 (fun k_ hk_ => ⟨(Nat.le_trans (below_size (by repeat (first | (with_reducible first | exact HB.out | apply below_alloc | apply pw_below_drewN | apply below_drew1 | refine below_set ?_ GE292.out | refine below_set ?_ GE293.out) | exact HB.out))) hk_), (Kd.freshB (g := gb292) (o := .cells #[.int .i64 a2_0, .int .i64 a2_1, .slice A2_2 l2_2.length c2_2, .slice A2_3 l2_3.length c2_3] 31 (0, 0)) (mb BK292.out) k_ hk_), (Kd.freshB (g := gb293) (o := .cells #[.slice none 0 0, .slice none 0 0] 33 (0, 0)) (mb BK293.out) k_ hk_)⟩)) (below_size (by repeat (first | (with_reducible first | exact HB.out | apply below_alloc | apply pw_below_drewN | apply below_drew1 | refine below_set ?_ GE292.out | refine below_set ?_ GE293.out) | exact HB.out)))); replace BK292 := Aside0.mk (blk_below (g := gb292) (o := .cells #[.int .i64 a2_0, .int .i64 a2_1, .slice A2_2 l2_2.length c2_2, .slice A2_3 l2_3.length c2_3] 31 (0, 0)) (mb BK292.out) hb); replace BK293 := Aside0.mk (blk_below (g := gb293) (o := .cells #[.slice none 0 0, .slice none 0 0] 33 (0, 0)) (mb BK293.out) hb); replace HB := Aside0.mk (below_step (by repeat (first | (with_reducible first | exact HB.out | apply below_alloc | apply pw_below_drewN | apply below_drew1 | refine below_set ?_ GE292.out | refine below_set ?_ GE293.out) | exact HB.out)) hb); (try clear hb); (try clear hb2); (try clear hk); (try clear hi); (try clear ho0)))
       have n0_ := Aside0.mk (Kd.N_drew HO310.out)
       have n1_ := Aside0.mk (blk_drew BK292.out)
       have n2_ := Aside0.mk (blk_drew BK293.out)
       have n3_ := Aside0.mk (below_drew1 HB.out)
       clear HO310
       clear BK292
       clear BK293
       clear HB
       have HO310 := n0_
       have BK292 := n1_
       have BK293 := n2_
       have HB := n3_
       clear n0_ n1_ n2_ n3_
       obtain ⟨Ao41, co41, eo41⟩ := Kd.N_slice HO310.out
       (first | subst eo41 | (injection eo41 with f1_ f2_ f3_; have f4_ := f1_.symm; have f5_ := f3_.symm; clear f1_ f2_ f3_; subst f4_; subst f5_))
       have p314 : 0 ≤ ((ji34) : Int) := of_decide_eq_true asm
       have q314 : (ji34) < (t308.length : Int) := of_decide_eq_true asm
       obtain ⟨ad314, A314_0, c314_0, e314, hx314_0, hl314_0, hi314_0⟩ := at_L1 (Kd.N_reads' HO310.out).2.2 (ji34) p314 q314
       cases e314
       obtain ⟨ce314, hce314, hMe314, hcc314⟩ := Kd.N_get HO310.out [] (ji34) p314 (by first | exact q314 | exact of_decide_eq_true asm | (have e_ := (Kd.N_reads' HO310.out).1; omega))
       obtain ⟨ua314_0, uc314_0, rfl, ul314_0, ge314_0⟩ := Kd.FK_slice_open hMe314
       have hv314_0 := hcc314 0 _ rfl
       rw [Nat.add_zero, show ((Kd.slice 5 (Kd.int .u8))).sz = 1 from rfl, Nat.mul_one] at hv314_0
       replace hv314_0 := Option.some.inj (hv314_0.symm.trans hx314_0)
       injection hv314_0 with hva_ hvn_ hvc_
       rw [hva_] at ge314_0
       rw [hvc_] at ul314_0
       have HL314_0 := Aside0.mk (show Kd.V (Kd.int .u8) 5 _ w.heap.size _ _ (rd_L1 t308 (ji34)) from Kd.V_mk ul314_0 ge314_0)
       clear hva_ hvn_ hvc_ ge314_0 ul314_0
       clear hcc314 hce314
       have HR314_0 := Aside0.mk hi314_0
       have HC314_0 := Aside0.mk hl314_0
       clear hi314_0 hl314_0
       replace p314 := eq_true p314
       replace q314 := eq_true q314
       refine start_ (n := 12) (S := fun w' => w'.cell? (ad314.add ((ji34)).toNat) = some (.slice A314_0 (rd_L1 t308 (ji34)).length c314_0)) (ds := []) #[false, false, false, false, false, false, false, false, false, false, false, false] (by kernel_rfl) rfl rfl (hx314_0) (fun hHeld => ?_); refine with_tabW spec_Liar.tab6 spec_Liar.bits6 (fun HT_ HW_ => ?_)
       generalize w39.drew = w40 at HO310 BK292 BK293 HB HL314_0 HR314_0 hx314_0 hHeld ⊢
       refine pz (i := 0) (N := some 47) #[true, false, false, false, false, false, false, false, false, false, false, false] rfl rfl HT_.out ?_
       refine pz (i := 1) (N := some 48) #[true, true, false, false, false, false, false, false, false, false, false, false] rfl rfl HT_.out ?_
       refine pz (i := 3) (N := some 50) #[true, true, false, true, false, false, false, false, false, false, false, false] rfl rfl HT_.out ?_
       refine pz (i := 4) (N := some 51) #[true, true, false, true, true, false, false, false, false, false, false, false] rfl rfl HT_.out ?_
       refine pz (i := 5) (N := some 52) #[true, true, false, true, true, true, false, false, false, false, false, false] rfl rfl HT_.out ?_
       refine pz (i := 6) (N := some 53) #[true, true, false, true, true, true, true, false, false, false, false, false] rfl rfl HT_.out ?_
       refine pz (i := 7) (N := some 54) #[true, true, false, true, true, true, true, true, false, false, false, false] rfl rfl HT_.out ?_
       refine take_ (i := 8) (N := some 55) (v := ?_) (a' := ?_) #[true, true, false, true, true, true, true, true, true, false, false, false] rfl rfl (take_ofW HT_.out HW_.out (by kernel_rfl)) (fun _ _ _ h => h) (Or.inl ⟨by rfl, ?_⟩) hHeld ?_ ?_
       rotate_left
       ·intro w' s0
        go_simp
        with_reducible rfl
       rotate_left
       ·simp only [Act.put, List.setIfInBounds_toArray, List.set_cons_zero, List.set_cons_succ, i64_w, i32_w]
        rfl
       refine one_ (i := 2) (N := some 49) #[true, true, true, true, true, true, true, true, true, false, false, false] rfl rfl (one_of HT_.out (by kernel_rfl)) (by decide) (fun K hK => ?_)
       refine goes_ Try.func74 (by kernel_rfl) rfl #[.int .i64 a0, .slice A1 l1.length c1] (by rfl) rfl rfl av ?_
       with_reducible refine (spec_l3TopOf.calls kj4 a0 _ _ l1 t311 _ ?side1 ?side2 A33.out).mono ?_
       (case side1 => exact cv ((Kd.C_below HR1.out HB.out)))
       (case side2 => exact HC1.out)
       rintro e w42 ⟨v312, rfl, ho0, hb⟩
       have HS0_ := (hb.cell (World.block_lt_of_cell? _ _ (hHeld))).trans (hHeld)
       refine ⟨_, rfl, ?_⟩
       have n0_ := Aside0.mk (Kd.N_elder' (mv HO310.out) (Kd.R_base ho0) hb)
       have n1_ := Aside0.mk (Kd.V_elder' (mv HL314_0.out) (Kd.R_base ho0) hb)
       have n2_ := Aside0.mk (Kd.R_lower (Kd.R_newM (M := fun k_ => (w.heap.size ≤ k_)) ho0 (below_size (by repeat (first | (with_reducible first | exact HB.out | apply below_alloc | apply pw_below_drewN | apply below_drew1 | refine below_set ?_ GE292.out | refine below_set ?_ GE293.out) | exact HB.out))) (fun k_ h_ => h_)) (below_size (by repeat (first | (with_reducible first | exact HB.out | apply below_alloc | apply pw_below_drewN | apply below_drew1 | refine below_set ?_ GE292.out | refine below_set ?_ GE293.out) | exact HB.out))))
       have n3_ := Aside0.mk (blk_below (g := gb292) (o := .cells #[.int .i64 a2_0, .int .i64 a2_1, .slice A2_2 l2_2.length c2_2, .slice A2_3 l2_3.length c2_3] 31 (0, 0)) (mb BK292.out) hb)
       have n4_ := Aside0.mk (blk_below (g := gb293) (o := .cells #[.slice none 0 0, .slice none 0 0] 33 (0, 0)) (mb BK293.out) hb)
       have n5_ := Aside0.mk (Kd.C_below (by repeat (first | (with_reducible exact HR314_0.out) | (with_reducible refine Kd.C_alloc ?_ _) | (with_reducible refine Kd.C_drewN ?_ _) | (with_reducible refine Kd.C_drew ?_) | exact HR314_0.out)) hb)
       have n6_ := Aside0.mk (below_step (by repeat (first | (with_reducible first | exact HB.out | apply below_alloc | apply pw_below_drewN | apply below_drew1 | refine below_set ?_ GE292.out | refine below_set ?_ GE293.out) | exact HB.out)) hb)
       clear HO310
       clear HL314_0
       clear BK292
       clear BK293
       clear HR314_0
       clear HB
       have HO310 := n0_
       have HL314_0 := n1_
       have HO313 := n2_
       have BK292 := n3_
       have BK293 := n4_
       have HR314_0 := n5_
       have HB := n6_
       clear n0_ n1_ n2_ n3_ n4_ n5_ n6_
       (try clear hb)
       (try clear hb2)
       (try clear hk)
       (try clear hi)
       (try clear ho0)
       obtain ⟨Ao43, co43, eo43⟩ := Kd.R_slice HO313.out
       (first | subst eo43 | (injection eo43 with f1_ f2_ f3_; have f4_ := f1_.symm; have f5_ := f3_.symm; clear f1_ f2_ f3_; subst f4_; subst f5_))
       refine hK.out _ _ (HS0_) (fun hHeld => ?_)
       clear hK K
       refine nz (N := some 49) ?_
       refine pz (i := 9) (N := some 56) #[true, true, true, true, true, true, true, true, true, true, false, false] rfl rfl HT_.out ?_
       refine one_ (i := 10) (N := none) #[true, true, true, true, true, true, true, true, true, true, true, false] rfl rfl (one_of HT_.out (by kernel_rfl)) (by decide) (fun K hK => ?_)
       have hs44 : w42.cell? ⟨gb293, 0, none⟩ = some (.slice none 0 0) := (blk_cell BK293.out 0).trans rfl
       have hfs44 := blk_frozen BK293.out 0
       have hns44_0 := NB292_293.out
       have hms44_0 := NB293_292.out
       have hs45 : w42.cell? ⟨gb293, 1, none⟩ = some (.slice none 0 0) := (blk_cell BK293.out 1).trans rfl
       have hfs45 := blk_frozen BK293.out 1
       have hns45_0 := NB292_293.out
       have hms45_0 := NB293_292.out
       refine skip_ (w1 := ?_) (by rfl) rfl ?_ ?_
       rotate_left
       ·go_simp
        rfl
       refine hK.out _ _ (((cell_far (p := ⟨gb293, _, none⟩) (by first | exact Kd.own_blk (Kd.N_away HO310.out (fun _ hk => hk.1.2.2)) | (rw [add_block]; exact Kd.own_blk (Kd.N_away HO310.out (fun _ hk => hk.1.2.2))) | (show (Addr.add _ _).block ≠ _; rw [add_block]; exact Kd.own_blk (Kd.N_away HO310.out (fun _ hk => hk.1.2.2))) | (dsimp only; exact Kd.own_blk (Kd.N_away HO310.out (fun _ hk => hk.1.2.2)))) _).trans (((cell_far (p := ⟨gb293, _, none⟩) (by first | exact Kd.own_blk (Kd.N_away HO310.out (fun _ hk => hk.1.2.2)) | (rw [add_block]; exact Kd.own_blk (Kd.N_away HO310.out (fun _ hk => hk.1.2.2))) | (show (Addr.add _ _).block ≠ _; rw [add_block]; exact Kd.own_blk (Kd.N_away HO310.out (fun _ hk => hk.1.2.2))) | (dsimp only; exact Kd.own_blk (Kd.N_away HO310.out (fun _ hk => hk.1.2.2)))) _).trans (hHeld))))) (fun hHeld => ?_)
       clear hK K
       refine pz (i := 11) (N := some 7) #[true, true, true, true, true, true, true, true, true, true, true, true] rfl rfl HT_.out ?_
       refine done_ (done_of HT_.out (by kernel_rfl)) ?_
       (try simp only [Dig.setCell_drewN])
       try go_wp2
       refine bodyPost_ret (results_ct rfl _ _ gb293 33 #[.slice Ao43 t311.length co43, .slice A314_0 (rd_L1 t308 (ji34)).length c314_0] (0, 0) _ rfl (by (with_reducible repeat (first | refine blk_drewN ?_ _ | refine blk_drew ?_ | refine blk_alloc ?_ _)); refine blk_put (cs := #[.slice Ao43 t311.length co43, .slice none 0 0]) ?_ 1 _ rfl; (with_reducible repeat (first | refine blk_drewN ?_ _ | refine blk_drew ?_ | refine blk_alloc ?_ _)); refine blk_put (cs := #[.slice none 0 0, .slice none 0 0]) ?_ 0 _ rfl; (with_reducible repeat (first | refine blk_drewN ?_ _ | refine blk_drew ?_ | refine blk_alloc ?_ _)); exact BK293.out) Try.underlying33 rfl (by kernel_rfl)) rfl ?_
       exact ⟨_, _, by first | rfl | (simp [errW_none, errW_some] <;> rfl) | (simp only [← hji34]; first | rfl | (simp [errW_none, errW_some] <;> rfl)) | (simp [*, errW_none, errW_some] <;> rfl), Kd.R_V (by (with_reducible repeat (first | apply Kd.R_alloc | apply Kd.R_drewN | apply Kd.R_drew)); exact Kd.R_mono (Kd.R_far (p := ⟨gb293, 1, none⟩) (Kd.R_far (p := ⟨gb293, 0, none⟩) (Kd.R_types HO313.out BK293.out (by decide)) (fun _ hk => hk.2) (.slice Ao43 t311.length co43)) (fun _ hk => hk.2) (.slice A314_0 (rd_L1 t308 (ji34)).length c314_0)) (fun _ hk => hk.1.1)), by (with_reducible repeat (first | apply Kd.V_alloc | apply Kd.V_drewN | apply Kd.V_drew)); exact Kd.V_mono (Kd.V_far (p := ⟨gb293, 1, none⟩) (Kd.V_far (p := ⟨gb293, 0, none⟩) (Kd.V_mono HL314_0.out (fun k_ hk => (⟨hk, hk.1.1.2.2⟩ : _ ∧ k_ ≠ gb293))) (fun _ hk => hk.2) (.slice Ao43 t311.length co43)) (fun _ hk => hk.2) (.slice A314_0 (rd_L1 t308 (ji34)).length c314_0)) (fun _ hk => hk.1.1.1.1), by repeat (first | (with_reducible first | exact HB.out | apply below_alloc | apply pw_below_drewN | apply below_drew1 | refine below_set ?_ GE292.out | refine below_set ?_ GE293.out) | exact HB.out)⟩
      ·rw [if_neg c36] at H
       exact absurd H (by simp)
     ·rw [if_neg c35] at H
      exact absurd H (by simp)

end Go.Proofs.Ytchjajbkaiefdaa.PFnExactFirstLiar
