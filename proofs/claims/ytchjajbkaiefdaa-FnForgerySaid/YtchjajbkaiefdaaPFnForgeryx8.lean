-- Written by a program of this workplace (wip/mp.py) out of the translation.
import Derived.Test.YtchjajbkaiefdaaPFnForgeryx0
import Derived.Test.YtchjajbkaiefdaaPFnForgeryx4
import Derived.Test.YtchjajbkaiefdaaPFnForgeryx5
import Derived.Test.YtchjajbkaiefdaaPFnForgeryx6
import Derived.Test.YtchjajbkaiefdaaPFnForgeryx7
namespace Go.Proofs.Ytchjajbkaiefdaa.PFnForgery
open Go.RowKit Go.Proofs.YtchjajbkaiefdaaW.PrintWords Go.Proofs.YtchjajbkaiefdaaW.PrintLast Go.Proofs.YtchjajbkaiefdaaW.PrintMore Go.Proofs.Ytchjajbkaiefdaa.Slim
attribute [local go_sem] max2_int min2_int max_two min_two max_three min_three max_four min_four   -- for this text's walks alone
set_option linter.unusedVariables false
set_option linter.unusedSimpArgs false

/-! ### spec_Honest: function 68 -/
def spec_Honest.f (k : Nat) (a0 : Int) (l1 : List (List Int)) (a2 : Int) : Option (Int × Int × List Int × List Int × Bool) := (spec_Path.f k a0 l1 a2).bind fun bt379 => (if bt379.2 = true then (if 0 ≤ a2 then (if a2 < (l1.length : Int) then ((spec_l1Bytes.f (rd_L1 l1 a2)).bind fun t384 => (some ((l1.length : Int), a2, t384, bt379.1, true))) else (none)) else (none)) else (some (0, 0, ([] : List Int), ([] : List Int), false)))
set_option maxHeartbeats 8000000 in
set_option maxRecDepth 100000 in
theorem spec_Honest.calls (k : Nat) (a0 : Int) (A1 : Option Addr) (c1 : Nat) (l1 : List (List Int)) (a2 : Int) (r1 : Int) (r2 : Int) (r3 : List Int) (r4 : List Int) (r5 : Bool) (w : World) (hr1 : Kd.C (Kd.slice 5 (Kd.int .u8)) w A1 l1.length l1) (hc1 : l1.length ≤ c1) (h : spec_Honest.f k a0 l1 a2 = some (r1, r2, r3, r4, r5)) :
  Calls Try.prog 68 #[.int .i64 a0, .slice A1 l1.length c1, .int .i64 a2] w fun e w' => ∃ v2_ v3_ : Value, e = .returned (.tuple #[.agg #[.int .i64 r1, .int .i64 r2, v2_, v3_], .bool r5]) ∧ Kd.R (Kd.int .u8) 5 w' w.heap.size (fun _ => True) v2_ r3 ∧ Kd.R (Kd.int .i64) 3 w' w.heap.size (fun _ => True) v3_ r4 ∧ Below w.heap.size w w' := by
 have hu31 := Try.underlying31
 have HR1 := am hr1
 have HC1 := am hc1
 clear hr1 hc1
 have HB := am (Below.refl w.heap.size w)
 have H : ((spec_Path.f k a0 l1 a2).bind fun bt379 => (if bt379.2 = true then (if 0 ≤ a2 then (if a2 < (l1.length : Int) then ((spec_l1Bytes.f (rd_L1 l1 a2)).bind fun t384 => (some ((l1.length : Int), a2, t384, bt379.1, true))) else (none)) else (none)) else (some (0, 0, ([] : List Int), ([] : List Int), false)))) = some (r1, r2, r3, r4, r5) := h
 clear h
 replace H := Option.bind_eq_some_iff.mp H
 obtain ⟨⟨t379, t380⟩, A40, H⟩ := H
 (try dsimp -simprocs only at H)
 have A4 := am A40
 clear A40
 by_cases c5 : t380 = true
 ·subst c5
  rw [if_pos rfl] at H
  by_cases c6 : 0 ≤ a2
  ·rw [if_pos c6] at H
   have c6b0 : decide (0 ≤ a2) = true := decide_eq_true c6
   clear c6
   by_cases c7 : a2 < (l1.length : Int)
   ·rw [if_pos c7] at H
    have c7b0 : decide (a2 < (l1.length : Int)) = true := decide_eq_true c7
    clear c7
    replace H := Option.bind_eq_some_iff.mp H
    obtain ⟨t384, A80, H⟩ := H
    (try dsimp -simprocs only at H)
    have A8 := am A80
    clear A80
    simp only [Option.some.injEq, Prod.mk.injEq] at H
    obtain ⟨rfl, rfl, rfl, rfl, rfl⟩ := H
    go_enter Try.func68, Try.ntmps68
    go_wp2_with (first | ((with_reducible refine gate_dst (N := 6) rfl ?_); refine box_event ?hg (N := 6) ?hd (cs := #[.int .i64 0, .int .i64 0, .slice none 0 0, .slice none 0 0]) (t := 31) ?hr ?_; (case hd => rfl); (case hg => rfl); (case hr => first | (go_simp; done) | (go_simp; rfl)); intro gb378 hg w9 hbox hb; have BK378 := am (hbox); have GW378 := am ((by rw [hg]; exact (below_size (bt)) : w.heap.size ≤ gb378)); have GE378 := am ((by rw [hg]; exact (below_size (bt)) : w.heap.size ≤ gb378)); replace HB := am (below_step (bt) hb); clear hb hbox hg) | ((with_reducible refine gate_callee (f := 76) rfl ?_); refine goesL_ (some 14) rfl rfl Try.func76 (by kernel_rfl) rfl #[.int .i64 a0, .slice A1 l1.length c1, .int .i64 a2] rfl av ?_; (with_reducible refine (spec_Path.calls k a0 _ _ l1 a2 t379 true _ ?side1 ?side2 A4.out).mono ?_); (case side1 => exact cv ((Kd.C_below HR1.out HB.out))); (case side2 => exact HC1.out); rintro e w10 ⟨v381, rfl, ho0, hb⟩; refine ⟨_, rfl, ?_⟩; have HO382 := am (Kd.R_lower ho0 (below_size (b1 GE378.out))); replace BK378 := am (blk_below (g := gb378) (o := .cells #[.int .i64 0, .int .i64 0, .slice none 0 0, .slice none 0 0] 31 (0, 0)) (mb BK378.out) hb); replace HB := am (below_step (b1 GE378.out) hb); (try clear hb); (try clear hb2); (try clear hk); (try clear hi); (try clear ho0); have p383 : 0 ≤ (a2 : Int) := of_decide_eq_true asm; have q383 : a2 < (l1.length : Int) := of_decide_eq_true asm; obtain ⟨ad383, A383_0, c383_0, e383, hx383_0, hl383_0, hi383_0⟩ := at_L1 HR1.out a2 p383 q383; cases e383; (try (replace hx383_0 := (HB.out.cell (World.block_lt_of_cell? w _ hx383_0)).trans hx383_0)); have HR383_0 := am hi383_0; have HC383_0 := am hl383_0; clear hi383_0 hl383_0; replace p383 := eq_true p383; replace q383 := eq_true q383) | ((with_reducible refine gate_callee (f := 98) rfl ?_); refine goesL_ (some 27) rfl rfl Try.func98 (by kernel_rfl) rfl #[.slice A383_0 (rd_L1 l1 a2).length c383_0] rfl av ?_; (with_reducible refine (spec_l1Bytes.calls _ _ (rd_L1 l1 a2) t384 _ ?side1 ?side2 A8.out).mono ?_); (case side1 => exact cv ((Kd.C_below HR383_0.out HB.out))); (case side2 => exact HC383_0.out); rintro e w11 ⟨v385, rfl, ho0, hb⟩; refine ⟨_, rfl, ?_⟩; replace HO382 := am (Kd.R_below (mv HO382.out) hb); have HO386 := am (Kd.R_lower ho0 (below_size (b1 GE378.out))); replace BK378 := am (blk_below (g := gb378) (o := .cells #[.int .i64 0, .int .i64 0, .slice none 0 0, .slice none 0 0] 31 (0, 0)) (mb BK378.out) hb); replace HB := am (below_step (b1 GE378.out) hb); (try clear hb); (try clear hb2); (try clear hk); (try clear hi); (try clear ho0); obtain ⟨Ao12, co12, eo12⟩ := Kd.R_slice HO382.out; subst eo12; obtain ⟨Ao13, co13, eo13⟩ := Kd.R_slice HO386.out; subst eo13; have hcz14_0 : w11.cell? ⟨gb378, 0, none⟩ = some (.int .i64 0) := (blk_cell BK378.out 0).trans rfl; have hcz14_1 : w11.cell? ⟨gb378, 1, none⟩ = some (.int .i64 0) := (blk_cell BK378.out 1).trans rfl; have hcz14_2 : w11.cell? ⟨gb378, 2, none⟩ = some (.slice none 0 0) := (blk_cell BK378.out 2).trans rfl; have hcz14_3 : w11.cell? ⟨gb378, 3, none⟩ = some (.slice none 0 0) := (blk_cell BK378.out 3).trans rfl; have hfz14_0 := blk_frozen BK378.out 0; have hfz14_1 := blk_frozen BK378.out 1; have hfz14_2 := blk_frozen BK378.out 2; have hfz14_3 := blk_frozen BK378.out 3))
    refine bodyPost_ret (results_ct rfl _ _ gb378 31 #[.int .i64 (l1.length : Int), .int .i64 a2, .slice Ao13 t384.length co13, .slice Ao12 t379.length co12] (0, 0) _ rfl (by (with_reducible repeat (first | refine blk_drewN ?_ _ | refine blk_drew ?_ | refine blk_alloc ?_ _)); refine blk_put (cs := #[.int .i64 (l1.length : Int), .int .i64 a2, .slice Ao13 t384.length co13, .slice none 0 0]) ?_ 3 _ rfl; (with_reducible repeat (first | refine blk_drewN ?_ _ | refine blk_drew ?_ | refine blk_alloc ?_ _)); refine blk_put (cs := #[.int .i64 (l1.length : Int), .int .i64 a2, .slice none 0 0, .slice none 0 0]) ?_ 2 _ rfl; (with_reducible repeat (first | refine blk_drewN ?_ _ | refine blk_drew ?_ | refine blk_alloc ?_ _)); refine blk_put (cs := #[.int .i64 (l1.length : Int), .int .i64 0, .slice none 0 0, .slice none 0 0]) ?_ 1 _ rfl; (with_reducible repeat (first | refine blk_drewN ?_ _ | refine blk_drew ?_ | refine blk_alloc ?_ _)); refine blk_put (cs := #[.int .i64 0, .int .i64 0, .slice none 0 0, .slice none 0 0]) ?_ 0 _ rfl; (with_reducible repeat (first | refine blk_drewN ?_ _ | refine blk_drew ?_ | refine blk_alloc ?_ _)); exact BK378.out) Try.underlying31 rfl (by kernel_rfl)) rfl ?_
    exact ⟨_, _, by first | rfl | (simp [errW_none, errW_some] <;> rfl) | (simp [*, errW_none, errW_some] <;> rfl), by (with_reducible repeat (first | apply Kd.R_alloc | apply Kd.R_drewN | apply Kd.R_drew)); exact Kd.R_mono (Kd.R_far (p := ⟨gb378, 3, none⟩) (Kd.R_far (p := ⟨gb378, 2, none⟩) (Kd.R_far (p := ⟨gb378, 1, none⟩) (Kd.R_far (p := ⟨gb378, 0, none⟩) (Kd.R_types HO386.out BK378.out (by decide)) (fun _ hk => hk.2) (.int .i64 (l1.length : Int))) (fun _ hk => hk.2) (.int .i64 a2)) (fun _ hk => hk.2) (.slice Ao13 t384.length co13)) (fun _ hk => hk.2) (.slice Ao12 t379.length co12)) (fun _ hk => trivial), by (with_reducible repeat (first | apply Kd.R_alloc | apply Kd.R_drewN | apply Kd.R_drew)); exact Kd.R_mono (Kd.R_far (p := ⟨gb378, 3, none⟩) (Kd.R_far (p := ⟨gb378, 2, none⟩) (Kd.R_far (p := ⟨gb378, 1, none⟩) (Kd.R_far (p := ⟨gb378, 0, none⟩) (Kd.R_types HO382.out BK378.out (by decide)) (fun _ hk => hk.2) (.int .i64 (l1.length : Int))) (fun _ hk => hk.2) (.int .i64 a2)) (fun _ hk => hk.2) (.slice Ao13 t384.length co13)) (fun _ hk => hk.2) (.slice Ao12 t379.length co12)) (fun _ hk => trivial), b1 GE378.out⟩
   ·rw [if_neg c7] at H
    exact absurd H (by simp)
  ·rw [if_neg c6] at H
   exact absurd H (by simp)
 ·replace c5 := Bool.eq_false_iff.mpr c5
  subst c5
  rw [if_neg (show ¬ (false = true) by decide)] at H
  simp only [Option.some.injEq, Prod.mk.injEq] at H
  obtain ⟨rfl, rfl, rfl, rfl, rfl⟩ := H
  go_enter Try.func68, Try.ntmps68
  go_wp2_with (first | ((with_reducible refine gate_dst (N := 6) rfl ?_); refine box_event ?hg (N := 6) ?hd (cs := #[.int .i64 0, .int .i64 0, .slice none 0 0, .slice none 0 0]) (t := 31) ?hr ?_; (case hd => rfl); (case hg => rfl); (case hr => first | (go_simp; done) | (go_simp; rfl)); intro gb378 hg w15 hbox hb; have BK378 := am (hbox); have GW378 := am ((by rw [hg]; exact (below_size (bt)) : w.heap.size ≤ gb378)); have GE378 := am ((by rw [hg]; exact (below_size (bt)) : w.heap.size ≤ gb378)); replace HB := am (below_step (bt) hb); clear hb hbox hg) | ((with_reducible refine gate_callee (f := 76) rfl ?_); refine goesL_ (some 14) rfl rfl Try.func76 (by kernel_rfl) rfl #[.int .i64 a0, .slice A1 l1.length c1, .int .i64 a2] rfl av ?_; (with_reducible refine (spec_Path.calls k a0 _ _ l1 a2 t379 false _ ?side1 ?side2 A4.out).mono ?_); (case side1 => exact cv ((Kd.C_below HR1.out HB.out))); (case side2 => exact HC1.out); rintro e w16 ⟨v381, rfl, ho0, hb⟩; refine ⟨_, rfl, ?_⟩; have HO382 := am (Kd.R_lower ho0 (below_size (b1 GE378.out))); replace BK378 := am (blk_below (g := gb378) (o := .cells #[.int .i64 0, .int .i64 0, .slice none 0 0, .slice none 0 0] 31 (0, 0)) (mb BK378.out) hb); replace HB := am (below_step (b1 GE378.out) hb); (try clear hb); (try clear hb2); (try clear hk); (try clear hi); (try clear ho0); have hcz17_0 : w16.cell? ⟨gb378, 0, none⟩ = some (.int .i64 0) := (blk_cell BK378.out 0).trans rfl; have hcz17_1 : w16.cell? ⟨gb378, 1, none⟩ = some (.int .i64 0) := (blk_cell BK378.out 1).trans rfl; have hcz17_2 : w16.cell? ⟨gb378, 2, none⟩ = some (.slice none 0 0) := (blk_cell BK378.out 2).trans rfl; have hcz17_3 : w16.cell? ⟨gb378, 3, none⟩ = some (.slice none 0 0) := (blk_cell BK378.out 3).trans rfl; have hfz17_0 := blk_frozen BK378.out 0; have hfz17_1 := blk_frozen BK378.out 1; have hfz17_2 := blk_frozen BK378.out 2; have hfz17_3 := blk_frozen BK378.out 3))
  refine bodyPost_ret (results_ct rfl _ _ gb378 31 #[.int .i64 0, .int .i64 0, .slice none 0 0, .slice none 0 0] (0, 0) _ rfl (by (with_reducible repeat (first | refine blk_drewN ?_ _ | refine blk_drew ?_ | refine blk_alloc ?_ _)); refine blk_put (cs := #[.int .i64 0, .int .i64 0, .slice none 0 0, .slice none 0 0]) ?_ 3 _ rfl; (with_reducible repeat (first | refine blk_drewN ?_ _ | refine blk_drew ?_ | refine blk_alloc ?_ _)); refine blk_put (cs := #[.int .i64 0, .int .i64 0, .slice none 0 0, .slice none 0 0]) ?_ 2 _ rfl; (with_reducible repeat (first | refine blk_drewN ?_ _ | refine blk_drew ?_ | refine blk_alloc ?_ _)); refine blk_put (cs := #[.int .i64 0, .int .i64 0, .slice none 0 0, .slice none 0 0]) ?_ 1 _ rfl; (with_reducible repeat (first | refine blk_drewN ?_ _ | refine blk_drew ?_ | refine blk_alloc ?_ _)); refine blk_put (cs := #[.int .i64 0, .int .i64 0, .slice none 0 0, .slice none 0 0]) ?_ 0 _ rfl; (with_reducible repeat (first | refine blk_drewN ?_ _ | refine blk_drew ?_ | refine blk_alloc ?_ _)); exact BK378.out) Try.underlying31 rfl (by kernel_rfl)) rfl ?_
  exact ⟨_, _, by first | rfl | (simp [errW_none, errW_some] <;> rfl) | (simp [*, errW_none, errW_some] <;> rfl), by first | exact Kd.R_nil _ _ _ _ _ | exact Kd.N_nil _ _ _ _ _ | exact Kd.V_nil _ _ _ _ _ | exact Kd.Q_nil _ _ _ _ _ | exact Kd.S_nil _ _ _ _ _, by first | exact Kd.R_nil _ _ _ _ _ | exact Kd.N_nil _ _ _ _ _ | exact Kd.V_nil _ _ _ _ _ | exact Kd.Q_nil _ _ _ _ _ | exact Kd.S_nil _ _ _ _ _, b1 GE378.out⟩

/-! ### spec_l2Top: function 113 -/
def spec_l2Top.f (k : Nat) (a0 : Int) (a1 : Int) : Option (List Int) := (some (([2, (a0) % 256] : List Int) : List Int)).bind fun y387 => ((spec_Eight.f k a1).bind fun t390 => (if y387.length + t390.length < 140737488355328 then (some (y387 ++ t390)) else (none)))
set_option maxHeartbeats 8000000 in
set_option maxRecDepth 100000 in
theorem spec_l2Top.calls (k : Nat) (a0 : Int) (a1 : Int) (r : List Int) (w : World) (h : spec_l2Top.f k a0 a1 = some r) :
  Calls Try.prog 113 #[.int .i64 a0, .int .i64 a1] w fun e w' => ∃ v0_ : Value, e = .returned (v0_) ∧ Kd.R (Kd.int .u8) 5 w' w.heap.size (fun _ => True) v0_ r ∧ Below w.heap.size w w' := by
 have HB := am (Below.refl w.heap.size w)
 have H : ((some (([2, (a0) % 256] : List Int) : List Int)).bind fun y387 => ((spec_Eight.f k a1).bind fun t390 => (if y387.length + t390.length < 140737488355328 then (some (y387 ++ t390)) else (none)))) = some r := h
 clear h
 obtain ⟨y387, hy387⟩ : ∃ y_ : List Int, y_ = (([2, (a0) % 256] : List Int)) := ⟨_, rfl⟩
 replace H : ((spec_Eight.f k a1).bind fun t390 => (if y387.length + t390.length < 140737488355328 then (some (y387 ++ t390)) else (none))) = some r := by first | (rw [hy387]; exact H) | exact H
 have Ny387 := am hy387
 clear hy387
 replace H := Option.bind_eq_some_iff.mp H
 obtain ⟨t390, A30, H⟩ := H
 (try dsimp -simprocs only at H)
 have A3 := am A30
 clear A30
 by_cases c4 : y387.length + t390.length < 140737488355328
 ·rw [if_pos c4] at H
  have LMc4 := am c4
  clear c4
  obtain ⟨y393, hy393⟩ : ∃ y_ : List Int, y_ = (y387 ++ t390) := ⟨_, rfl⟩
  replace H : (some y393) = some r := by first | (rw [hy393]; exact H) | exact H
  have Ny393 := am hy393
  clear hy393
  obtain rfl := Option.some.inj H
  go_enter Try.func113, Try.ntmps113
  go_wp2_with (first | ((with_reducible refine gate_dst (N := 7) rfl ?_); refine Kd.R_lit (Kd.int .u8) _ 5 ?hg (N := 7) ?hd (xs := ([2, (a0) % 256] : List Int)) (inner := [.int .u8 2, .int .u8 ((a0) % 256)]) (ok := fun _ => True) (okp := fun _ => True) ?hr ?hp (fun _ hk => hk) trivial (Below.refl _ _) (Nat.le_refl _) (by simp) ?_; (case hd => rfl); (case hg => rfl); (case hr => first | (go_simp; done) | (go_simp; rfl)); (case hp => exact (Reps.one (show Kd.M (Kd.int .u8) _ _ _ 2 [.int .u8 2] from rfl) (Reps.one (show Kd.M (Kd.int .u8) _ _ _ ((a0) % 256) [.int .u8 ((a0) % 256)] from rfl) (Reps.none _ _)))); intro v388 w5 ho6 hb hg_ hnew_; clear hg_ hnew_; (first | rw [← Ny387.out] at ho6 | (simp only [Int.reduceToNat] at ho6; rw [← Ny387.out] at ho6)); have HO389 := am (Kd.R_lower ho6 (below_size (bt))); replace HB := am (below_step (bt) hb); clear hb ho6) | ((with_reducible refine gate_callee (f := 138) rfl ?_); refine goesL_ (some 9) rfl rfl Try.func138 (by kernel_rfl) rfl #[.int .i64 a1] rfl av ?_; (with_reducible refine (spec_Eight.calls k a1 t390 _ A3.out).mono ?_); rintro e w7 ⟨v391, rfl, ho0, hb⟩; refine ⟨_, rfl, ?_⟩; have HO392 := am (Kd.R_lower (Kd.R_new' ho0 (Kd.R_lt (mv HO389.out))) (below_size (bt))); replace HO389 := am (Kd.R_elder' (mv HO389.out) (Kd.R_base ho0) hb); replace HB := am (below_step (bt) hb); (try clear hb); (try clear hb2); (try clear hk); (try clear hi); (try clear ho0); obtain ⟨Ao9, co9, eo9⟩ := Kd.R_slice HO392.out; subst eo9) | ((with_reducible refine gate_builtin (b := .append) (xs := #[.tmp 7, .tmp 9]) rfl ?_); at_builtin; refine Kd.R_append_rows (Kd.int .u8) (w0 := w) w.heap.size rfl (.tmp 7) (.tmp 9) 22 5 (.int .u8 0) 1 rfl Try.underlying22 info5 rfl (by decide) (by omega) v388 y387 t390 _ _ _ (fun k_ => some k_ ≠ (.slice Ao9 t390.length co9 : Value).ownBlock) (fun _ => False) rfl rfl ?aO ?aR (fun _ _ h => h) (fun _ h => h.elim) ?aF ?aB ?aS ?aL ?_; (case aR => exact cv ((Kd.R_reads' HO392.out).2.2)); (case aB => exact (bt)); (case aF => exact (fun k_ hk => Kd.fresh' (Kd.R_lt (mv HO392.out)) k_ hk)); (case aO => exact (by (with_reducible repeat (first | apply Kd.R_alloc | apply Kd.R_drewN | apply Kd.R_drew)); exact Kd.R_mono HO389.out (fun _ hk => hk.2))); (case aS => exact (below_size (bt))); (case aL => have := LMc4.out; omega); intro v394 w8 ho hb hg hat; rw [← Ny393.out] at ho; replace HO392 := am (Kd.R_after (ok := (fun _ => True)) (mv HO392.out) hg hat); replace HB := am (hb); have HO395 := am (ho); clear HO389; clear ho hb hg hat))
  go_ret
  exact ⟨_, by first | rfl | (simp [errW_none, errW_some] <;> rfl) | (simp [*, errW_none, errW_some] <;> rfl), by (with_reducible repeat (first | apply Kd.R_alloc | apply Kd.R_drewN | apply Kd.R_drew)); exact Kd.R_mono HO395.out (fun _ hk => trivial), bt⟩
 ·rw [if_neg c4] at H
  exact absurd H (by simp)

/-! ### spec_TreeRoot: function 73 -/
def spec_TreeRoot.f (k : Nat) (a0 : Int) (l1 : List (List Int)) : Option (Int) := (spec_l2Leaves.f k a0 l1).bind fun t396 => (if t396 = true then ((spec_l2Levels.f k a0 l1).bind fun t397 => (if 0 ≤ (wrap64 ((t397.length : Int) - 1)) then (if (wrap64 ((t397.length : Int) - 1)) < (t397.length : Int) then (if 0 < ((rd_L3 t397 (wrap64 ((t397.length : Int) - 1))).length : Int) then ((spec_l2Top.f k (l1.length : Int) (rd (rd_L3 t397 (wrap64 ((t397.length : Int) - 1))) 0)).bind fun t402 => ((spec_Digest.f k a0 t402).bind fun t405 => (some t405))) else (none)) else (none)) else (none))) else (some (-1)))
set_option maxHeartbeats 8000000 in
set_option maxRecDepth 100000 in
theorem spec_TreeRoot.calls (k : Nat) (a0 : Int) (A1 : Option Addr) (c1 : Nat) (l1 : List (List Int)) (r : Int) (w : World) (hr1 : Kd.C (Kd.slice 5 (Kd.int .u8)) w A1 l1.length l1) (hc1 : l1.length ≤ c1) (h : spec_TreeRoot.f k a0 l1 = some r) :
  Calls Try.prog 73 #[.int .i64 a0, .slice A1 l1.length c1] w fun e w' => e = .returned (.int .i64 r) ∧ Below w.heap.size w w' := by
 have HR1 := am hr1
 have HC1 := am hc1
 clear hr1 hc1
 have HB := am (Below.refl w.heap.size w)
 have H : ((spec_l2Leaves.f k a0 l1).bind fun t396 => (if t396 = true then ((spec_l2Levels.f k a0 l1).bind fun t397 => (if 0 ≤ (wrap64 ((t397.length : Int) - 1)) then (if (wrap64 ((t397.length : Int) - 1)) < (t397.length : Int) then (if 0 < ((rd_L3 t397 (wrap64 ((t397.length : Int) - 1))).length : Int) then ((spec_l2Top.f k (l1.length : Int) (rd (rd_L3 t397 (wrap64 ((t397.length : Int) - 1))) 0)).bind fun t402 => ((spec_Digest.f k a0 t402).bind fun t405 => (some t405))) else (none)) else (none)) else (none))) else (some (-1)))) = some r := h
 clear h
 replace H := Option.bind_eq_some_iff.mp H
 obtain ⟨t396, A30, H⟩ := H
 (try dsimp -simprocs only at H)
 have A3 := am A30
 clear A30
 by_cases c4 : t396 = true
 ·subst c4
  rw [if_pos rfl] at H
  replace H := Option.bind_eq_some_iff.mp H
  obtain ⟨t397, A50, H⟩ := H
  (try dsimp -simprocs only at H)
  have A5 := am A50
  clear A50
  obtain ⟨ji6, hji6⟩ : ∃ j_ : Int, (wrap64 ((t397.length : Int) - 1)) = j_ := ⟨_, rfl⟩
  replace H : (if 0 ≤ (ji6) then (if (ji6) < (t397.length : Int) then (if 0 < ((rd_L3 t397 (ji6)).length : Int) then ((spec_l2Top.f k (l1.length : Int) (rd (rd_L3 t397 (ji6)) 0)).bind fun t402 => ((spec_Digest.f k a0 t402).bind fun t405 => (some t405))) else (none)) else (none)) else (none)) = some r := by first | (rw [hji6] at H; exact H) | (simp only [hji6] at H ⊢; exact H)
  (try rw [hji6] at A3)
  (try rw [hji6] at A5)
  have hji6w : (IntKind.i64.wrap ((t397.length : Int) - 1)) = ji6 := (i64_w _).trans hji6
  by_cases c7 : 0 ≤ (ji6)
  ·rw [if_pos c7] at H
   have c7b0 : decide (0 ≤ (ji6)) = true := decide_eq_true c7
   clear c7
   by_cases c8 : (ji6) < (t397.length : Int)
   ·rw [if_pos c8] at H
    have c8b0 : decide ((ji6) < (t397.length : Int)) = true := decide_eq_true c8
    clear c8
    by_cases c9 : 0 < ((rd_L3 t397 (ji6)).length : Int)
    ·rw [if_pos c9] at H
     have c9b0 : decide (0 < ((rd_L3 t397 (ji6)).length : Int)) = true := decide_eq_true c9
     have c9b1 : decide (0 < (rd_L3 t397 (ji6)).length) = true := decide_eq_true (by omega)
     clear c9
     replace H := Option.bind_eq_some_iff.mp H
     obtain ⟨t402, A100, H⟩ := H
     (try dsimp -simprocs only at H)
     have A10 := am A100
     clear A100
     replace H := Option.bind_eq_some_iff.mp H
     obtain ⟨t405, A110, H⟩ := H
     (try dsimp -simprocs only at H)
     have A11 := am A110
     clear A110
     obtain rfl := Option.some.inj H
     go_enter Try.func73, Try.ntmps73
     go_wp2_with (first | ((with_reducible refine gate_callee (f := 110) rfl ?_); refine goesL_ (some 8) rfl rfl Try.func110 (by kernel_rfl) rfl #[.int .i64 a0, .slice A1 l1.length c1] rfl av ?_; (with_reducible refine (spec_l2Leaves.calls k a0 _ _ l1 true _ ?side1 ?side2 A3.out).mono ?_); (case side1 => exact cv (HR1.out)); (case side2 => exact HC1.out); rintro e w' ⟨rfl, ⟨nd, rfl⟩⟩; refine ⟨_, rfl, ?_⟩) | ((with_reducible refine gate_callee (f := 111) rfl ?_); refine goesL_ (some 12) rfl rfl Try.func111 (by kernel_rfl) rfl #[.int .i64 a0, .slice A1 l1.length c1] rfl av ?_; (with_reducible refine (spec_l2Levels.calls k a0 _ _ l1 t397 _ ?side1 ?side2 A5.out).mono ?_); (case side1 => exact cv (HR1.out)); (case side2 => exact HC1.out); rintro e w12 ⟨v398, rfl, ho0, hb⟩; refine ⟨_, rfl, ?_⟩; have HO399 := am (Kd.N_lower (Kd.N_mono (ok' := fun k_ => True) ho0 (fun k_ hk_ => trivial)) (below_size (bt))); replace HB := am (below_step (bt) hb); (try clear hb); (try clear hb2); (try clear hk); (try clear hi); (try clear ho0); obtain ⟨Ao13, co13, eo13⟩ := Kd.N_slice HO399.out; subst eo13; have p400 : 0 ≤ ((ji6) : Int) := of_decide_eq_true asm; have q400 : (ji6) < (t397.length : Int) := of_decide_eq_true asm; obtain ⟨ad400, A400_0, c400_0, e400, hx400_0, hl400_0, hi400_0⟩ := at_L3 (Kd.N_reads' HO399.out).2.2 (ji6) p400 q400; cases e400; obtain ⟨ce400, hce400, hMe400, hcc400⟩ := Kd.N_get HO399.out [] (ji6) p400 (by first | exact q400 | exact of_decide_eq_true asm | (have e_ := (Kd.N_reads' HO399.out).1; omega)); obtain ⟨ua400_0, uc400_0, rfl, ul400_0, ge400_0⟩ := Kd.FK_slice_open hMe400; have hv400_0 := hcc400 0 _ rfl; rw [Nat.add_zero, show ((Kd.slice 3 (Kd.int .i64))).sz = 1 from rfl, Nat.mul_one] at hv400_0; replace hv400_0 := Option.some.inj (hv400_0.symm.trans hx400_0); injection hv400_0 with hva_ hvn_ hvc_; rw [hva_] at ge400_0; rw [hvc_] at ul400_0; have HL400_0 := am (show Kd.V (Kd.int .i64) 3 _ w.heap.size _ _ (rd_L3 t397 (ji6)) from Kd.V_mk ul400_0 ge400_0); clear hva_ hvn_ hvc_ ge400_0 ul400_0; clear hcc400 hce400; have HR400_0 := am hi400_0; have HC400_0 := am hl400_0; clear hi400_0 hl400_0; replace p400 := eq_true p400; replace q400 := eq_true q400; have p401 : 0 ≤ (0 : Int) := (by omega); have q401 : 0 < ((rd_L3 t397 (ji6)).length : Int) := of_decide_eq_true asm; obtain ⟨ad401, e401, hx401_0⟩ := Kd.at_int (cv HR400_0.out) 0 p401 q401; cases e401; have qi401 : (0 < (rd_L3 t397 (ji6)).length) = True := eq_true (by omega); (try rw [show ((0 : Int)).toNat = 0 from rfl] at hx401_0); (try rw [Addr.add_zero'] at hx401_0); replace p401 := eq_true p401; replace q401 := eq_true q401) | ((with_reducible refine gate_callee (f := 113) rfl ?_); refine goesL_ (some 24) rfl rfl Try.func113 (by kernel_rfl) rfl #[.int .i64 (l1.length : Int), .int .i64 (rd (rd_L3 t397 (ji6)) 0)] rfl (by (try simp only [List.map_toArray, List.map_cons, List.map_nil]); first | done | (simp only [hji6]; rfl) | rfl | (simp only [List.length_drop, List.length_take]; rfl)) ?_; (with_reducible refine (spec_l2Top.calls k (l1.length : Int) (rd (rd_L3 t397 (ji6)) 0) t402 _ A10.out).mono ?_); rintro e w14 ⟨v403, rfl, ho0, hb⟩; refine ⟨_, rfl, ?_⟩; replace HO399 := am (Kd.N_elder' (mv HO399.out) (Kd.R_base ho0) hb); replace HL400_0 := am (Kd.V_elder' (mv HL400_0.out) (Kd.R_base ho0) hb); have HO404 := am (Kd.R_lower ho0 (below_size (bt))); replace HR400_0 := am (Kd.C_below (cv HR400_0.out) hb); replace HB := am (below_step (bt) hb); (try clear hb); (try clear hb2); (try clear hk); (try clear hi); (try clear ho0); obtain ⟨Ao15, co15, eo15⟩ := Kd.R_slice HO404.out; subst eo15) | ((with_reducible refine gate_callee (f := 112) rfl ?_); refine goesL_ (some 25) rfl rfl Try.func112 (by kernel_rfl) rfl #[.int .i64 a0, .slice Ao15 t402.length co15] rfl av ?_; (with_reducible refine (spec_Digest.calls k a0 _ _ t402 t405 _ ?side1 ?side2 A11.out).mono ?_); (case side1 => exact cv ((Kd.R_reads' HO404.out).2.2)); (case side2 => exact (Kd.R_reads' HO404.out).2.1); rintro e w16 ⟨rfl, hb⟩; refine ⟨_, rfl, ?_⟩; replace HO399 := am (Kd.N_below (mv HO399.out) hb); replace HL400_0 := am (Kd.V_below (mv HL400_0.out) hb); replace HO404 := am (Kd.R_below (mv HO404.out) hb); replace HR400_0 := am (Kd.C_below (cv HR400_0.out) hb); replace HB := am (below_step (bt) hb); (try clear hb); (try clear hb2); (try clear hk); (try clear hi)))
     go_ret
     exact ⟨by first | rfl | (simp [errW_none, errW_some] <;> rfl) | (simp only [← hji6]; first | rfl | (simp [errW_none, errW_some] <;> rfl)) | (simp [*, errW_none, errW_some] <;> rfl), bt⟩
    ·rw [if_neg c9] at H
     exact absurd H (by simp)
   ·rw [if_neg c8] at H
    exact absurd H (by simp)
  ·rw [if_neg c7] at H
   exact absurd H (by simp)
 ·replace c4 := Bool.eq_false_iff.mpr c4
  subst c4
  rw [if_neg (show ¬ (false = true) by decide)] at H
  obtain rfl := Option.some.inj H
  go_enter Try.func73, Try.ntmps73
  go_wp2_with (first | ((with_reducible refine gate_callee (f := 110) rfl ?_); refine goesL_ (some 8) rfl rfl Try.func110 (by kernel_rfl) rfl #[.int .i64 a0, .slice A1 l1.length c1] rfl av ?_; (with_reducible refine (spec_l2Leaves.calls k a0 _ _ l1 false _ ?side1 ?side2 A3.out).mono ?_); (case side1 => exact cv (HR1.out)); (case side2 => exact HC1.out); rintro e w' ⟨rfl, ⟨nd, rfl⟩⟩; refine ⟨_, rfl, ?_⟩))
  go_ret
  exact ⟨by first | rfl | (simp [errW_none, errW_some] <;> rfl) | (simp [*, errW_none, errW_some] <;> rfl), bt⟩

/-! ### spec_l1Same: function 75 -/
def spec_l1Same.f (l0 : List Int) (l1 : List Int) : Option (Bool) := some ((strOfNums l0).toList == (strOfNums l1).toList)
set_option maxHeartbeats 8000000 in
set_option maxRecDepth 100000 in
theorem spec_l1Same.calls (A0 : Option Addr) (c0 : Nat) (l0 : List Int) (A1 : Option Addr) (c1 : Nat) (l1 : List Int) (r : Bool) (w : World) (hr0 : Kd.C (Kd.int .u8) w A0 l0.length l0) (hc0 : l0.length ≤ c0) (hr1 : Kd.C (Kd.int .u8) w A1 l1.length l1) (hc1 : l1.length ≤ c1) (h : spec_l1Same.f l0 l1 = some r) :
  Calls Try.prog 75 #[.slice A0 l0.length c0, .slice A1 l1.length c1] w fun e w' => e = .returned (.bool r) ∧ Drawn0 w w' := by
 have HR0 := am hr0
 have HC0 := am hc0
 clear hr0 hc0
 have HR1 := am hr1
 have HC1 := am hc1
 clear hr1 hc1
 have H : (some ((strOfNums l0).toList == (strOfNums l1).toList)) = some r := h
 clear h
 obtain rfl := Option.some.inj H
 have hcv3 := Kd.C_string (P := Try.prog) (A := A0) (c := c0) Try.underlying22 Try.underlying5 Try.underlying9 HR0.out
 have hcv4 := Kd.C_string (P := Try.prog) (A := A1) (c := c1) Try.underlying22 Try.underlying5 Try.underlying9 HR1.out
 go_enter Try.func75, Try.ntmps75
 go_wp2
 go_ret
 exact ⟨by first | rfl | (simp; done) | (simp [*]; done), by repeat (first | exact Drawn0.refl _ | apply Drawn0.step)⟩

/-! ### spec_RootFrom: function 114 -/
mutual
def spec_RootFrom.j0 : Nat → Int → Int → Int → List Int → List Int → Bool → Option (Int)
 | 0, _, _, _, _, _, _ => none
 | k + 1, x0, x1, x2, x3, x4, x34 => if x34 = true then (some (-1)) else ((spec_LeafOf.f k x0 x3).bind fun t409 => (spec_RootFrom.l0 k x0 x1 x2 x4 t409 0 x1))
def spec_RootFrom.l0 : Nat → Int → Int → Int → List Int → Int → Int → Int → Option (Int)
 | 0, _, _, _, _, _, _, _ => none
 | k + 1, x0, x1, x2, x4, x11, x12, x13 => if x13 > 1 then (if (wrap64 ((wrap64 (x2 + 1)) - (wrap64 (2 * (Int.tmod x2 2))))) < x13 then (if x12 = (x4.length : Int) then (spec_RootFrom.j2 k x0 x1 x2 x4 x11 x12 x13 (wrap64 ((wrap64 (x2 + 1)) - (wrap64 (2 * (Int.tmod x2 2))))) true) else (if 0 ≤ x12 then (if x12 < (x4.length : Int) then ((spec_l2Digest.f x0 (rd x4 x12)).bind fun t411 => (spec_RootFrom.j2 k x0 x1 x2 x4 x11 x12 x13 (wrap64 ((wrap64 (x2 + 1)) - (wrap64 (2 * (Int.tmod x2 2))))) (!t411))) else (none)) else (none))) else (spec_RootFrom.l0 k x0 x1 (wrap64 (Int.tdiv x2 2)) x4 x11 x12 (wrap64 (Int.tdiv (wrap64 (x13 + 1)) 2)))) else (if x12 = (x4.length : Int) then ((spec_l2Top.f k x1 x11).bind fun t416 => ((spec_Digest.f k x0 t416).bind fun t419 => (some t419))) else (some (-1)))
def spec_RootFrom.j2 : Nat → Int → Int → Int → List Int → Int → Int → Int → Int → Bool → Option (Int)
 | 0, _, _, _, _, _, _, _, _, _ => none
 | k + 1, x0, x1, x2, x4, x11, x12, x13, x14, x65 => if x65 = true then (some (-1)) else (if x14 > x2 then (if 0 ≤ x12 then (if x12 < (x4.length : Int) then ((spec_NodeOf.f k x0 x11 (rd x4 x12)).bind fun t413 => (spec_RootFrom.l0 k x0 x1 (wrap64 (Int.tdiv x2 2)) x4 t413 (wrap64 (x12 + 1)) (wrap64 (Int.tdiv (wrap64 (x13 + 1)) 2)))) else (none)) else (none)) else (if 0 ≤ x12 then (if x12 < (x4.length : Int) then ((spec_NodeOf.f k x0 (rd x4 x12) x11).bind fun t415 => (spec_RootFrom.l0 k x0 x1 (wrap64 (Int.tdiv x2 2)) x4 t415 (wrap64 (x12 + 1)) (wrap64 (Int.tdiv (wrap64 (x13 + 1)) 2)))) else (none)) else (none)))
end
def spec_RootFrom.f (k : Nat) (a0 : Int) (a1 : Int) (a2 : Int) (l3 : List Int) (l4 : List Int) : Option (Int) := (spec_l1In.f a0 2 60).bind fun t406 => (if t406 = true then ((spec_l1In.f a1 1 16).bind fun t407 => (if t407 = true then ((spec_l1In.f a2 0 (wrap64 (a1 - 1))).bind fun t408 => (if t408 = true then (spec_RootFrom.j0 k a0 a1 a2 l3 l4 (decide ((l3.length : Int) ≥ 4000))) else (spec_RootFrom.j0 k a0 a1 a2 l3 l4 true))) else (spec_RootFrom.j0 k a0 a1 a2 l3 l4 true))) else (spec_RootFrom.j0 k a0 a1 a2 l3 l4 true))
set_option maxHeartbeats 8000000 in
set_option maxRecDepth 100000 in
theorem spec_RootFrom.calls (k : Nat) (a0 : Int) (a1 : Int) (a2 : Int) (A3 : Option Addr) (c3 : Nat) (l3 : List Int) (A4 : Option Addr) (c4 : Nat) (l4 : List Int) (r : Int) (w : World) (hr3 : Kd.C (Kd.int .u8) w A3 l3.length l3) (hc3 : l3.length ≤ c3) (hr4 : Kd.C (Kd.int .i64) w A4 l4.length l4) (hc4 : l4.length ≤ c4) (h : spec_RootFrom.f k a0 a1 a2 l3 l4 = some r) :
  Calls Try.prog 114 #[.int .i64 a0, .int .i64 a1, .int .i64 a2, .slice A3 l3.length c3, .slice A4 l4.length c4] w fun e w' => e = .returned (.int .i64 r) ∧ Below w.heap.size w w' := by
 have HR3 := am hr3
 have HC3 := am hc3
 clear hr3 hc3
 have HR4 := am hr4
 have HC4 := am hc4
 clear hr4 hc4
 have HB := am (Below.refl w.heap.size w)
 have H : ((spec_l1In.f a0 2 60).bind fun t406 => (if t406 = true then ((spec_l1In.f a1 1 16).bind fun t407 => (if t407 = true then ((spec_l1In.f a2 0 (wrap64 (a1 - 1))).bind fun t408 => (if t408 = true then (spec_RootFrom.j0 k a0 a1 a2 l3 l4 (decide ((l3.length : Int) ≥ 4000))) else (spec_RootFrom.j0 k a0 a1 a2 l3 l4 true))) else (spec_RootFrom.j0 k a0 a1 a2 l3 l4 true))) else (spec_RootFrom.j0 k a0 a1 a2 l3 l4 true))) = some r := h
 clear h
 have HC6 := am H
 clear H
 go_enter Try.func114, Try.ntmps114
 go_upto_region 1 with (fail)
 go_cut [34] (fun v34 wc => ∃ (kq : Nat) (x34_5 : Bool), v34 = .bool x34_5 ∧ Aside0 (spec_RootFrom.j0 kq a0 a1 a2 l3 l4 x34_5 = some r) ∧ Aside0 (kq ≤ k) ∧ Aside0 (Below w.heap.size w wc))
 case first =>
  have H := HC6.out
  clear HC6
  replace H := Option.bind_eq_some_iff.mp H
  obtain ⟨t406, A70, H⟩ := H
  (try dsimp -simprocs only at H)
  have A7 := am A70
  clear A70
  by_cases c8 : t406 = true
  ·subst c8
   rw [if_pos rfl] at H
   replace H := Option.bind_eq_some_iff.mp H
   obtain ⟨t407, A90, H⟩ := H
   (try dsimp -simprocs only at H)
   have A9 := am A90
   clear A90
   by_cases c10 : t407 = true
   ·subst c10
    rw [if_pos rfl] at H
    replace H := Option.bind_eq_some_iff.mp H
    obtain ⟨t408, A110, H⟩ := H
    (try dsimp -simprocs only at H)
    have A11 := am A110
    clear A110
    by_cases c12 : t408 = true
    ·subst c12
     rw [if_pos rfl] at H
     have H' := am H
     clear H
     go_wp2_with (first | ((with_reducible refine gate_callee (f := 97) rfl ?_); refine goesL_ (some 16) rfl rfl Try.func97 (by kernel_rfl) rfl #[.int .i64 a0, .int .i64 2, .int .i64 60] rfl av ?_; (with_reducible refine (spec_l1In.calls a0 2 60 true _ A7.out).mono ?_); rintro e w' ⟨rfl, ⟨nd, rfl⟩⟩; refine ⟨_, rfl, ?_⟩) | (go_at_call 97; (with_reducible refine (spec_l1In.calls a1 1 16 true _ A9.out).mono ?_); rintro e w' ⟨rfl, ⟨nd, rfl⟩⟩) | (go_at_call 97; (with_reducible refine (spec_l1In.calls a2 0 (wrap64 (a1 - 1)) true _ A11.out).mono ?_); rintro e w' ⟨rfl, ⟨nd, rfl⟩⟩))
     go_meet
     case rel => exact ⟨_, (decide ((l3.length : Int) ≥ 4000)), (by first | rfl | (simp; done) | (simp [*]; done)), H', ⟨by first | omega | exact Nat.le_refl _⟩, ⟨bt⟩⟩
    ·replace c12 := Bool.eq_false_iff.mpr c12
     subst c12
     rw [if_neg (show ¬ (false = true) by decide)] at H
     have H' := am H
     clear H
     go_wp2_with (first | ((with_reducible refine gate_callee (f := 97) rfl ?_); refine goesL_ (some 16) rfl rfl Try.func97 (by kernel_rfl) rfl #[.int .i64 a0, .int .i64 2, .int .i64 60] rfl av ?_; (with_reducible refine (spec_l1In.calls a0 2 60 true _ A7.out).mono ?_); rintro e w' ⟨rfl, ⟨nd, rfl⟩⟩; refine ⟨_, rfl, ?_⟩) | (go_at_call 97; (with_reducible refine (spec_l1In.calls a1 1 16 true _ A9.out).mono ?_); rintro e w' ⟨rfl, ⟨nd, rfl⟩⟩) | (go_at_call 97; (with_reducible refine (spec_l1In.calls a2 0 (wrap64 (a1 - 1)) false _ A11.out).mono ?_); rintro e w' ⟨rfl, ⟨nd, rfl⟩⟩))
     go_meet
     case rel => exact ⟨_, (true), (by first | rfl | (simp; done) | (simp [*]; done)), H', ⟨by first | omega | exact Nat.le_refl _⟩, ⟨bt⟩⟩
   ·replace c10 := Bool.eq_false_iff.mpr c10
    subst c10
    rw [if_neg (show ¬ (false = true) by decide)] at H
    have H' := am H
    clear H
    go_wp2_with (first | ((with_reducible refine gate_callee (f := 97) rfl ?_); refine goesL_ (some 16) rfl rfl Try.func97 (by kernel_rfl) rfl #[.int .i64 a0, .int .i64 2, .int .i64 60] rfl av ?_; (with_reducible refine (spec_l1In.calls a0 2 60 true _ A7.out).mono ?_); rintro e w' ⟨rfl, ⟨nd, rfl⟩⟩; refine ⟨_, rfl, ?_⟩) | (go_at_call 97; (with_reducible refine (spec_l1In.calls a1 1 16 false _ A9.out).mono ?_); rintro e w' ⟨rfl, ⟨nd, rfl⟩⟩))
    go_meet
    case rel => exact ⟨_, (true), (by first | rfl | (simp; done) | (simp [*]; done)), H', ⟨by first | omega | exact Nat.le_refl _⟩, ⟨bt⟩⟩
  ·replace c8 := Bool.eq_false_iff.mpr c8
   subst c8
   rw [if_neg (show ¬ (false = true) by decide)] at H
   have H' := am H
   clear H
   go_wp2_with (first | ((with_reducible refine gate_callee (f := 97) rfl ?_); refine goesL_ (some 16) rfl rfl Try.func97 (by kernel_rfl) rfl #[.int .i64 a0, .int .i64 2, .int .i64 60] rfl av ?_; (with_reducible refine (spec_l1In.calls a0 2 60 false _ A7.out).mono ?_); rintro e w' ⟨rfl, ⟨nd, rfl⟩⟩; refine ⟨_, rfl, ?_⟩))
   go_meet
   case rel => exact ⟨_, (true), (by first | rfl | (simp; done) | (simp [*]; done)), H', ⟨by first | omega | exact Nat.le_refl _⟩, ⟨bt⟩⟩
 case rest =>
  clear HC6
  try clear c1
  try clear p2
  try clear c3
  try clear c4
  try clear p6
  try clear c8
  try clear c9
  try clear c10
  try clear c11
  try clear c12
  obtain ⟨kq, x34_5, rfl, HA, HJ5, HB⟩ := hcut
  cases kq with
  | zero => exact absurd HA.out (by simp [spec_RootFrom.j0])
  | succ kj5 =>
   have H := HA.out
   clear HA
   simp only [spec_RootFrom.j0] at H
   by_cases c13 : x34_5 = true
   ·subst c13
    rw [if_pos rfl] at H
    obtain rfl := Option.some.inj H
    go_wp2
    go_ret
    exact ⟨by first | rfl | (simp [errW_none, errW_some] <;> rfl) | (simp [*, errW_none, errW_some] <;> rfl), bt⟩
   ·replace c13 := Bool.eq_false_iff.mpr c13
    subst c13
    rw [if_neg (show ¬ (false = true) by decide)] at H
    replace H := Option.bind_eq_some_iff.mp H
    obtain ⟨t409, A140, H⟩ := H
    (try dsimp -simprocs only at H)
    have A14 := am A140
    clear A140
    have H' := am H
    clear H
    go_wp2_with (first | ((with_reducible refine gate_callee (f := 117) rfl ?_); refine goesL_ (some 37) rfl rfl Try.func117 (by kernel_rfl) rfl #[.int .i64 a0, .slice A3 l3.length c3] rfl av ?_; (with_reducible refine (spec_LeafOf.calls kj5 a0 _ _ l3 t409 _ ?side1 ?side2 A14.out).mono ?_); (case side1 => exact cv ((Kd.C_below HR3.out HB.out))); (case side2 => exact HC3.out); rintro e w15 ⟨rfl, hb⟩; refine ⟨_, rfl, ?_⟩; replace HB := am (below_step (bt) hb); (try clear hb); (try clear hb2); (try clear hk); (try clear hi)))
    go_loopg [2, 11, 12, 13] kj5 (fun kq v2 v11 v12 v13 w' => ∃ (x2_2 : Int) (x11_2 : Int) (x12_2 : Int) (x13_2 : Int), v2 = .int .i64 x2_2 ∧ v11 = .int .i64 x11_2 ∧ v12 = .int .i64 x12_2 ∧ v13 = .int .i64 x13_2 ∧ Aside0 (spec_RootFrom.l0 kq a0 a1 x2_2 l4 x11_2 x12_2 x13_2 = some r) ∧ Aside0 (kq ≤ kj5) ∧ Aside0 (Below w.heap.size w w'))
    case atStart => exact ⟨(a2), (t409), (0), (a1), (by first | rfl | (simp; done) | (simp [*]; done)), (by first | rfl | (simp; done) | (simp [*]; done)), (by first | rfl | (simp; done) | (simp [*]; done)), (by first | rfl | (simp; done) | (simp [*]; done)), H', ⟨Nat.le_refl _⟩, ⟨bt⟩⟩
    case round =>
     clear H'
     try clear c1
     try clear p2
     try clear c3
     try clear c4
     try clear p6
     try clear c8
     try clear c9
     try clear c10
     try clear c11
     try clear c12
     try clear c13
     try clear p2
     try clear p6
     obtain ⟨x2_2, x11_2, x12_2, x13_2, rfl, rfl, rfl, rfl, HA, HK2, HB⟩ := hrel
     cases gk with
     | zero => exact absurd HA.out (by simp [spec_RootFrom.l0])
     | succ k2 =>
      have H := HA.out
      clear HA
      simp only [spec_RootFrom.l0] at H
      by_cases c16 : x13_2 > 1
      ·rw [if_pos c16] at H
       have c16b0 : decide (1 < x13_2) = true := decide_eq_true c16
       clear c16
       by_cases c17 : (wrap64 ((wrap64 (x2_2 + 1)) - (wrap64 (2 * (Int.tmod x2_2 2))))) < x13_2
       ·rw [if_pos c17] at H
        have c17b0 : decide ((wrap64 ((wrap64 (x2_2 + 1)) - (wrap64 (2 * (Int.tmod x2_2 2))))) < x13_2) = true := decide_eq_true c17
        clear c17
        have HC18 := am H
        clear H
        go_upto_region 10 with (fail)
        go_cut [65] (fun v65 wc => ∃ (kq : Nat) (x65_17 : Bool), v65 = .bool x65_17 ∧ Aside0 (spec_RootFrom.j2 kq a0 a1 x2_2 l4 x11_2 x12_2 x13_2 (wrap64 ((wrap64 (x2_2 + 1)) - (wrap64 (2 * (Int.tmod x2_2 2))))) x65_17 = some r) ∧ Aside0 (kq ≤ k2) ∧ Aside0 (Below w.heap.size w wc))
        case first =>
         have H := HC18.out
         clear HC18
         by_cases c19 : x12_2 = (l4.length : Int)
         ·rw [if_pos c19] at H
          have c19b0 : (x12_2 == (l4.length : Int)) = true := beq_iff_eq.mpr c19
          have c19b1 : (x12_2 != (l4.length : Int)) = false := bne_eq_false_iff_eq.mpr c19
          clear c19
          (first | rw [c19b0] | (simp only [i64_w, i32_w]; rw [c19b0]) | skip)
          have H' := am H
          clear H
          go_wp2
          go_meet
          case rel => exact ⟨_, (true), (by first | rfl | (simp; done) | (simp [*]; done)), H', ⟨by have := HJ5.out; have := HK2.out; first | omega | exact Nat.le_refl _⟩, ⟨bt⟩⟩
         ·rw [if_neg c19] at H
          have c19b0 : (x12_2 == (l4.length : Int)) = false := beq_eq_false_iff_ne.mpr c19
          have c19b1 : (x12_2 != (l4.length : Int)) = true := bne_iff_ne.mpr c19
          (first | rw [c19b0] | (simp only [i64_w, i32_w]; rw [c19b0]) | skip)
          by_cases c20 : 0 ≤ x12_2
          ·rw [if_pos c20] at H
           have c20b0 : decide (0 ≤ x12_2) = true := decide_eq_true c20
           clear c20
           by_cases c21 : x12_2 < (l4.length : Int)
           ·rw [if_pos c21] at H
            have c21b0 : decide (x12_2 < (l4.length : Int)) = true := decide_eq_true c21
            clear c21
            replace H := Option.bind_eq_some_iff.mp H
            obtain ⟨t411, A220, H⟩ := H
            (try dsimp -simprocs only at H)
            have A22 := am A220
            clear A220
            have H' := am H
            clear H
            have p410 : 0 ≤ (x12_2 : Int) := of_decide_eq_true asm
            have q410 : x12_2 < (l4.length : Int) := of_decide_eq_true asm
            obtain ⟨ad410, e410, hx410_0⟩ := Kd.at_int HR4.out x12_2 p410 q410
            cases e410
            replace hx410_0 := (HB.out.cell (World.block_lt_of_cell? w _ hx410_0)).trans hx410_0
            replace p410 := eq_true p410
            replace q410 := eq_true q410
            go_wp2_with (first | (go_at_call 139; (with_reducible refine (spec_l2Digest.calls a0 (rd l4 x12_2) t411 _ A22.out).mono ?_); rintro e w' ⟨rfl, ⟨nd, rfl⟩⟩))
            go_meet
            case rel => exact ⟨_, (!t411), (by first | rfl | (simp; done) | (simp [*]; done)), H', ⟨by have := HJ5.out; have := HK2.out; first | omega | exact Nat.le_refl _⟩, ⟨bt⟩⟩
           ·rw [if_neg c21] at H
            exact absurd H (by simp)
          ·rw [if_neg c20] at H
           exact absurd H (by simp)
        case rest =>
         clear HC18
         try clear c1
         try clear c2
         try clear p2
         try clear c3
         try clear c4
         try clear p4
         try clear q4
         try clear hx4
         try clear p6
         try clear c8
         try clear c9
         try clear c10
         try clear c11
         try clear c12
         try clear c13
         try clear c16
         try clear c16b0
         try clear c17
         try clear c17b0
         try clear c19
         try clear c19b0
         try clear c19b1
         try clear c20
         try clear c20b0
         try clear c21
         try clear c21b0
         try clear hx410_0
         try clear p2
         try clear p410
         try clear p6
         try clear q410
         obtain ⟨kq, x65_17, rfl, HA, HJ17, HB⟩ := hcut
         cases kq with
         | zero => exact absurd HA.out (by simp [spec_RootFrom.j2])
         | succ kj17 =>
          have H := HA.out
          clear HA
          simp only [spec_RootFrom.j2] at H
          by_cases c23 : x65_17 = true
          ·subst c23
           rw [if_pos rfl] at H
           obtain rfl := Option.some.inj H
           go_wp2
           go_ret
           exact ⟨by first | rfl | (simp [errW_none, errW_some] <;> rfl) | (simp [*, errW_none, errW_some] <;> rfl), bt⟩
          ·replace c23 := Bool.eq_false_iff.mpr c23
           subst c23
           rw [if_neg (show ¬ (false = true) by decide)] at H
           by_cases c24 : (wrap64 ((wrap64 (x2_2 + 1)) - (wrap64 (2 * (Int.tmod x2_2 2))))) > x2_2
           ·rw [if_pos c24] at H
            have c24b0 : decide (x2_2 < (wrap64 ((wrap64 (x2_2 + 1)) - (wrap64 (2 * (Int.tmod x2_2 2)))))) = true := decide_eq_true c24
            clear c24
            by_cases c25 : 0 ≤ x12_2
            ·rw [if_pos c25] at H
             have c25b0 : decide (0 ≤ x12_2) = true := decide_eq_true c25
             clear c25
             by_cases c26 : x12_2 < (l4.length : Int)
             ·rw [if_pos c26] at H
              have c26b0 : decide (x12_2 < (l4.length : Int)) = true := decide_eq_true c26
              clear c26
              replace H := Option.bind_eq_some_iff.mp H
              obtain ⟨t413, A270, H⟩ := H
              (try dsimp -simprocs only at H)
              have A27 := am A270
              clear A270
              have H' := am H
              clear H
              have p412 : 0 ≤ (x12_2 : Int) := of_decide_eq_true asm
              have q412 : x12_2 < (l4.length : Int) := of_decide_eq_true asm
              obtain ⟨ad412, e412, hx412_0⟩ := Kd.at_int HR4.out x12_2 p412 q412
              cases e412
              replace hx412_0 := (HB.out.cell (World.block_lt_of_cell? w _ hx412_0)).trans hx412_0
              replace p412 := eq_true p412
              replace q412 := eq_true q412
              go_wp2_with (first | ((with_reducible refine gate_callee (f := 135) rfl ?_); refine goesL_ (some 75) rfl rfl Try.func135 (by kernel_rfl) rfl #[.int .i64 a0, .int .i64 x11_2, .int .i64 (rd l4 x12_2)] rfl av ?_; (with_reducible refine (spec_NodeOf.calls kj17 a0 x11_2 (rd l4 x12_2) t413 _ A27.out).mono ?_); rintro e w28 ⟨rfl, hb⟩; refine ⟨_, rfl, ?_⟩; replace HB := am (below_step (bt) hb); (try clear hb); (try clear hb2); (try clear hk); (try clear hi)))
              go_roundg kj17
              case measure => have := HJ5.out; have := HK2.out; have := HJ17.out; omega
              case rel => exact ⟨(wrap64 (Int.tdiv x2_2 2)), (t413), (wrap64 (x12_2 + 1)), (wrap64 (Int.tdiv (wrap64 (x13_2 + 1)) 2)), (by first | rfl | (simp; done) | (simp [*]; done)), (by first | rfl | (simp; done) | (simp [*]; done)), (by first | rfl | (simp; done) | (simp [*]; done)), (by first | rfl | (simp; done) | (simp [*]; done)), H', ⟨by have := HJ5.out; have := HK2.out; have := HJ17.out; omega⟩, ⟨bt⟩⟩
             ·rw [if_neg c26] at H
              exact absurd H (by simp)
            ·rw [if_neg c25] at H
             exact absurd H (by simp)
           ·rw [if_neg c24] at H
            have c24b0 : decide (x2_2 < (wrap64 ((wrap64 (x2_2 + 1)) - (wrap64 (2 * (Int.tmod x2_2 2)))))) = false := decide_eq_false c24
            clear c24
            by_cases c29 : 0 ≤ x12_2
            ·rw [if_pos c29] at H
             have c29b0 : decide (0 ≤ x12_2) = true := decide_eq_true c29
             clear c29
             by_cases c30 : x12_2 < (l4.length : Int)
             ·rw [if_pos c30] at H
              have c30b0 : decide (x12_2 < (l4.length : Int)) = true := decide_eq_true c30
              clear c30
              replace H := Option.bind_eq_some_iff.mp H
              obtain ⟨t415, A310, H⟩ := H
              (try dsimp -simprocs only at H)
              have A31 := am A310
              clear A310
              have H' := am H
              clear H
              have p414 : 0 ≤ (x12_2 : Int) := of_decide_eq_true asm
              have q414 : x12_2 < (l4.length : Int) := of_decide_eq_true asm
              obtain ⟨ad414, e414, hx414_0⟩ := Kd.at_int HR4.out x12_2 p414 q414
              cases e414
              replace hx414_0 := (HB.out.cell (World.block_lt_of_cell? w _ hx414_0)).trans hx414_0
              replace p414 := eq_true p414
              replace q414 := eq_true q414
              go_wp2_with (first | ((with_reducible refine gate_callee (f := 135) rfl ?_); refine goesL_ (some 82) rfl rfl Try.func135 (by kernel_rfl) rfl #[.int .i64 a0, .int .i64 (rd l4 x12_2), .int .i64 x11_2] rfl av ?_; (with_reducible refine (spec_NodeOf.calls kj17 a0 (rd l4 x12_2) x11_2 t415 _ A31.out).mono ?_); rintro e w32 ⟨rfl, hb⟩; refine ⟨_, rfl, ?_⟩; replace HB := am (below_step (bt) hb); (try clear hb); (try clear hb2); (try clear hk); (try clear hi)))
              go_roundg kj17
              case measure => have := HJ5.out; have := HK2.out; have := HJ17.out; omega
              case rel => exact ⟨(wrap64 (Int.tdiv x2_2 2)), (t415), (wrap64 (x12_2 + 1)), (wrap64 (Int.tdiv (wrap64 (x13_2 + 1)) 2)), (by first | rfl | (simp; done) | (simp [*]; done)), (by first | rfl | (simp; done) | (simp [*]; done)), (by first | rfl | (simp; done) | (simp [*]; done)), (by first | rfl | (simp; done) | (simp [*]; done)), H', ⟨by have := HJ5.out; have := HK2.out; have := HJ17.out; omega⟩, ⟨bt⟩⟩
             ·rw [if_neg c30] at H
              exact absurd H (by simp)
            ·rw [if_neg c29] at H
             exact absurd H (by simp)
       ·rw [if_neg c17] at H
        have c17b0 : decide ((wrap64 ((wrap64 (x2_2 + 1)) - (wrap64 (2 * (Int.tmod x2_2 2))))) < x13_2) = false := decide_eq_false c17
        clear c17
        have H' := am H
        clear H
        go_wp2
        go_roundg k2
        case measure => have := HJ5.out; have := HK2.out; omega
        case rel => exact ⟨(wrap64 (Int.tdiv x2_2 2)), (x11_2), (x12_2), (wrap64 (Int.tdiv (wrap64 (x13_2 + 1)) 2)), (by first | rfl | (simp; done) | (simp [*]; done)), (by first | rfl | (simp; done) | (simp [*]; done)), (by first | rfl | (simp; done) | (simp [*]; done)), (by first | rfl | (simp; done) | (simp [*]; done)), H', ⟨by have := HJ5.out; have := HK2.out; omega⟩, ⟨bt⟩⟩
      ·rw [if_neg c16] at H
       have c16b0 : decide (1 < x13_2) = false := decide_eq_false c16
       clear c16
       by_cases c33 : x12_2 = (l4.length : Int)
       ·rw [if_pos c33] at H
        have c33b0 : (x12_2 == (l4.length : Int)) = true := beq_iff_eq.mpr c33
        have c33b1 : (x12_2 != (l4.length : Int)) = false := bne_eq_false_iff_eq.mpr c33
        clear c33
        replace H := Option.bind_eq_some_iff.mp H
        obtain ⟨t416, A340, H⟩ := H
        (try dsimp -simprocs only at H)
        have A34 := am A340
        clear A340
        replace H := Option.bind_eq_some_iff.mp H
        obtain ⟨t419, A350, H⟩ := H
        (try dsimp -simprocs only at H)
        have A35 := am A350
        clear A350
        obtain rfl := Option.some.inj H
        go_wp2_with (first | ((with_reducible refine gate_callee (f := 113) rfl ?_); refine goesL_ (some 94) rfl rfl Try.func113 (by kernel_rfl) rfl #[.int .i64 a1, .int .i64 x11_2] rfl av ?_; (with_reducible refine (spec_l2Top.calls k2 a1 x11_2 t416 _ A34.out).mono ?_); rintro e w36 ⟨v417, rfl, ho0, hb⟩; refine ⟨_, rfl, ?_⟩; have HO418 := am (Kd.R_lower ho0 (below_size (bt))); replace HB := am (below_step (bt) hb); (try clear hb); (try clear hb2); (try clear hk); (try clear hi); (try clear ho0); obtain ⟨Ao37, co37, eo37⟩ := Kd.R_slice HO418.out; subst eo37) | ((with_reducible refine gate_callee (f := 112) rfl ?_); refine goesL_ (some 95) rfl rfl Try.func112 (by kernel_rfl) rfl #[.int .i64 a0, .slice Ao37 t416.length co37] rfl av ?_; (with_reducible refine (spec_Digest.calls k2 a0 _ _ t416 t419 _ ?side1 ?side2 A35.out).mono ?_); (case side1 => exact cv ((Kd.R_reads' HO418.out).2.2)); (case side2 => exact (Kd.R_reads' HO418.out).2.1); rintro e w38 ⟨rfl, hb⟩; refine ⟨_, rfl, ?_⟩; replace HO418 := am (Kd.R_below (mv HO418.out) hb); replace HB := am (below_step (bt) hb); (try clear hb); (try clear hb2); (try clear hk); (try clear hi)))
        go_ret
        exact ⟨by first | rfl | (simp [errW_none, errW_some] <;> rfl) | (simp [*, errW_none, errW_some] <;> rfl), bt⟩
       ·rw [if_neg c33] at H
        have c33b0 : (x12_2 == (l4.length : Int)) = false := beq_eq_false_iff_ne.mpr c33
        have c33b1 : (x12_2 != (l4.length : Int)) = true := bne_iff_ne.mpr c33
        obtain rfl := Option.some.inj H
        go_wp2
        go_ret
        exact ⟨by first | rfl | (simp [errW_none, errW_some] <;> rfl) | (simp [*, errW_none, errW_some] <;> rfl), bt⟩

/-! ### spec_Proven: function 83 -/
def spec_Proven.f (k : Nat) (a0 : Int) (a1 : Int) (a2 : Int) (a3 : Int) (l4 : List Int) (l5 : List Int) : Option (Bool) := (spec_RootFrom.f k a0 a2 a3 l4 l5).bind fun t420 => (if t420 ≥ 0 then (some (t420 == a1)) else (some false))
set_option maxHeartbeats 8000000 in
set_option maxRecDepth 100000 in
theorem spec_Proven.calls (k : Nat) (a0 : Int) (a1 : Int) (a2 : Int) (a3 : Int) (A4 : Option Addr) (c4 : Nat) (l4 : List Int) (A5 : Option Addr) (c5 : Nat) (l5 : List Int) (r : Bool) (w : World) (hr4 : Kd.C (Kd.int .u8) w A4 l4.length l4) (hc4 : l4.length ≤ c4) (hr5 : Kd.C (Kd.int .i64) w A5 l5.length l5) (hc5 : l5.length ≤ c5) (h : spec_Proven.f k a0 a1 a2 a3 l4 l5 = some r) :
  Calls Try.prog 83 #[.int .i64 a0, .int .i64 a1, .int .i64 a2, .int .i64 a3, .slice A4 l4.length c4, .slice A5 l5.length c5] w fun e w' => e = .returned (.bool r) ∧ Below w.heap.size w w' := by
 have HR4 := am hr4
 have HC4 := am hc4
 clear hr4 hc4
 have HR5 := am hr5
 have HC5 := am hc5
 clear hr5 hc5
 have HB := am (Below.refl w.heap.size w)
 have H : ((spec_RootFrom.f k a0 a2 a3 l4 l5).bind fun t420 => (if t420 ≥ 0 then (some (t420 == a1)) else (some false))) = some r := h
 clear h
 replace H := Option.bind_eq_some_iff.mp H
 obtain ⟨t420, A70, H⟩ := H
 (try dsimp -simprocs only at H)
 have A7 := am A70
 clear A70
 by_cases c8 : t420 ≥ 0
 ·rw [if_pos c8] at H
  have c8b0 : decide (0 ≤ t420) = true := decide_eq_true c8
  clear c8
  obtain rfl := Option.some.inj H
  go_enter Try.func83, Try.ntmps83
  go_wp2_with (first | ((with_reducible refine gate_callee (f := 114) rfl ?_); refine goesL_ (some 19) rfl rfl Try.func114 (by kernel_rfl) rfl #[.int .i64 a0, .int .i64 a2, .int .i64 a3, .slice A4 l4.length c4, .slice A5 l5.length c5] rfl av ?_; (with_reducible refine (spec_RootFrom.calls k a0 a2 a3 _ _ l4 _ _ l5 t420 _ ?side1 ?side2 ?side3 ?side4 A7.out).mono ?_); (case side1 => exact cv (HR4.out)); (case side2 => exact HC4.out); (case side3 => exact cv (HR5.out)); (case side4 => exact HC5.out); rintro e w9 ⟨rfl, hb⟩; refine ⟨_, rfl, ?_⟩; replace HB := am (below_step (bt) hb); (try clear hb); (try clear hb2); (try clear hk); (try clear hi)))
  go_ret
  exact ⟨by first | rfl | (simp [errW_none, errW_some] <;> rfl) | (simp [*, errW_none, errW_some] <;> rfl), bt⟩
 ·rw [if_neg c8] at H
  have c8b0 : decide (0 ≤ t420) = false := decide_eq_false c8
  clear c8
  obtain rfl := Option.some.inj H
  go_enter Try.func83, Try.ntmps83
  go_wp2_with (first | ((with_reducible refine gate_callee (f := 114) rfl ?_); refine goesL_ (some 19) rfl rfl Try.func114 (by kernel_rfl) rfl #[.int .i64 a0, .int .i64 a2, .int .i64 a3, .slice A4 l4.length c4, .slice A5 l5.length c5] rfl av ?_; (with_reducible refine (spec_RootFrom.calls k a0 a2 a3 _ _ l4 _ _ l5 t420 _ ?side1 ?side2 ?side3 ?side4 A7.out).mono ?_); (case side1 => exact cv (HR4.out)); (case side2 => exact HC4.out); (case side3 => exact cv (HR5.out)); (case side4 => exact HC5.out); rintro e w10 ⟨rfl, hb⟩; refine ⟨_, rfl, ?_⟩; replace HB := am (below_step (bt) hb); (try clear hb); (try clear hb2); (try clear hk); (try clear hi)))
  go_ret
  exact ⟨by first | rfl | (simp [errW_none, errW_some] <;> rfl) | (simp [*, errW_none, errW_some] <;> rfl), bt⟩

end Go.Proofs.Ytchjajbkaiefdaa.PFnForgery
