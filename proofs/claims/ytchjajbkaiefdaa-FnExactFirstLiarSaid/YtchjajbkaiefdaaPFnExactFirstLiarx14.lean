-- Written by a program of this workplace (wip/mp.py) out of the translation.
import Derived.Test.YtchjajbkaiefdaaPFnExactFirstLiarx0
import Derived.Test.YtchjajbkaiefdaaPFnExactFirstLiarx13
namespace Go.Proofs.Ytchjajbkaiefdaa.PFnExactFirstLiar
open Go.RowKit Go.Proofs.YtchjajbkaiefdaaW.PrintWords Go.Proofs.YtchjajbkaiefdaaW.PrintLast Go.Proofs.YtchjajbkaiefdaaW.PrintMore Go.Proofs.Ytchjajbkaiefdaa.Slim
attribute [local go_sem] max2_int min2_int max_two min_two max_three min_three max_four min_four   -- for this text's walks alone
set_option linter.unusedVariables false
set_option linter.unusedSimpArgs false

/-! ### impl_FirstLiar: function 16 -/
def impl_FirstLiar.l0 : Nat → Int → List (List Int) → List (S31) → Int → Int → Option (Int × List Int × List Int × Bool)
 | 0, _, _, _, _, _ => none
 | k + 1, x0, x1, x17, x18, x19 => if x19 < x18 then (if 0 ≤ x19 then (if x19 < (x17.length : Int) then ((impl_Liar.f k x0 x1 ((rd_T31 x17 x19).f0) ((rd_T31 x17 x19).f1) ((rd_T31 x17 x19).f2) ((rd_T31 x17 x19).f3)).bind fun bt547 => (if bt547.2.2 = true then (some (x19, bt547.1, bt547.2.1, true)) else (impl_FirstLiar.l0 k x0 x1 x17 x18 (wrap64 (x19 + 1))))) else (none)) else (none)) else (some ((-1), ([] : List Int), ([] : List Int), false))
def impl_FirstLiar.f (k : Nat) (a0 : Int) (l1 : List (List Int)) (l2 : List (S31)) : Option (Int × List Int × List Int × Bool) := if (l2.length : Int) > 60 then (some ((-1), ([] : List Int), ([] : List Int), false)) else (impl_FirstLiar.l0 k a0 l1 l2 (l2.length : Int) 0)
set_option maxHeartbeats 8000000 in
set_option maxRecDepth 100000 in
theorem impl_FirstLiar.calls (k : Nat) (a0 : Int) (A1 : Option Addr) (c1 : Nat) (l1 : List (List Int)) (A2 : Option Addr) (c2 : Nat) (l2 : List (S31)) (r1 : Int) (r2 : List Int) (r3 : List Int) (r4 : Bool) (w : World) (hr1 : Kd.C (Kd.slice 5 (Kd.int .u8)) w A1 l1.length l1) (hc1 : l1.length ≤ c1) (hr2 : Kd.C k31 w A2 l2.length l2) (hc2 : l2.length ≤ c2) (h : impl_FirstLiar.f k a0 l1 l2 = some (r1, r2, r3, r4)) :
  Calls Try.prog 16 #[.int .i64 a0, .slice A1 l1.length c1, .slice A2 l2.length c2] w fun e w' => ∃ v1_ v2_ : Value, e = .returned (.tuple #[.int .i64 r1, .agg #[v1_, v2_], .bool r4]) ∧ Kd.R (Kd.int .u8) 5 w' w.heap.size (fun k_ => some k_ ≠ (v2_ : Value).ownBlock) v1_ r2 ∧ Kd.R (Kd.int .u8) 5 w' w.heap.size (fun k_ => some k_ ≠ (v1_ : Value).ownBlock) v2_ r3 ∧ Below w.heap.size w w' := by
 have hu33 := Try.underlying33
 have hu31 := Try.underlying31
 have HR1 := Aside0.mk hr1
 have HC1 := Aside0.mk hc1
 clear hr1 hc1
 have HR2 := Aside0.mk hr2
 have HC2 := Aside0.mk hc2
 clear hr2 hc2
 have HB := Aside0.mk (Below.refl w.heap.size w)
 have H : (if (l2.length : Int) > 60 then (some ((-1), ([] : List Int), ([] : List Int), false)) else (impl_FirstLiar.l0 k a0 l1 l2 (l2.length : Int) 0)) = some (r1, r2, r3, r4) := h
 clear h
 by_cases c4 : (l2.length : Int) > 60
 ·rw [if_pos c4] at H
  have c4b0 : decide (60 < (l2.length : Int)) = true := decide_eq_true c4
  have c4b1 : decide (60 < l2.length) = true := decide_eq_true (by omega)
  clear c4
  simp only [Option.some.injEq, Prod.mk.injEq] at H
  obtain ⟨rfl, rfl, rfl, rfl⟩ := H
  go_enter Try.func16, Try.ntmps16
  go_wp2_with (first | ((with_reducible refine gate_dst (N := 7) rfl ?_); refine box_event ?hg (N := 7) ?hd (cs := #[.slice none 0 0, .slice none 0 0]) (t := 33) ?hr ?_; (case hd => rfl); (case hg => rfl); (case hr => first | (go_simp; done) | (go_simp; rfl)); intro gb544 hg w5 hbox hb; have BK544 := Aside0.mk (hbox); have GW544 := Aside0.mk ((by rw [hg]; exact (below_size (bt)) : w.heap.size ≤ gb544)); have GE544 := Aside0.mk ((by rw [hg]; exact (below_size (bt)) : w.heap.size ≤ gb544)); replace HB := Aside0.mk (below_step (bt) hb); clear hb hbox hg; have hcz6_0 : w5.cell? ⟨gb544, 0, none⟩ = some (.slice none 0 0) := (blk_cell BK544.out 0).trans rfl; have hcz6_1 : w5.cell? ⟨gb544, 1, none⟩ = some (.slice none 0 0) := (blk_cell BK544.out 1).trans rfl; have hfz6_0 := blk_frozen BK544.out 0; have hfz6_1 := blk_frozen BK544.out 1))
  refine bodyPost_ret (results_list (rs := [.tmp 6, .cell 7 33, .tmp 8]) rfl (by simp) (.tmp (.cell gb544 33 #[.slice none 0 0, .slice none 0 0] (0, 0) _ rfl (by (with_reducible repeat (first | refine blk_drewN ?_ _ | refine blk_drew ?_ | refine blk_alloc ?_ _)); refine blk_put (cs := #[.slice none 0 0, .slice none 0 0]) ?_ 1 _ rfl; (with_reducible repeat (first | refine blk_drewN ?_ _ | refine blk_drew ?_ | refine blk_alloc ?_ _)); refine blk_put (cs := #[.slice none 0 0, .slice none 0 0]) ?_ 0 _ rfl; (with_reducible repeat (first | refine blk_drewN ?_ _ | refine blk_drew ?_ | refine blk_alloc ?_ _)); exact BK544.out) Try.underlying33 rfl (by kernel_rfl) (.tmp .nil)))) rfl ?_
  exact ⟨_, _, by first | rfl | (simp [errW_none, errW_some] <;> rfl) | (simp [*, errW_none, errW_some] <;> rfl), by first | exact Kd.R_nil _ _ _ _ _ | exact Kd.N_nil _ _ _ _ _ | exact Kd.V_nil _ _ _ _ _ | exact Kd.Q_nil _ _ _ _ _ | exact Kd.S_nil _ _ _ _ _, by first | exact Kd.R_nil _ _ _ _ _ | exact Kd.N_nil _ _ _ _ _ | exact Kd.V_nil _ _ _ _ _ | exact Kd.Q_nil _ _ _ _ _ | exact Kd.S_nil _ _ _ _ _, b1 GE544.out⟩
 ·rw [if_neg c4] at H
  have c4b0 : decide (60 < (l2.length : Int)) = false := decide_eq_false c4
  have c4b1 : decide (60 < l2.length) = false := decide_eq_false (by omega)
  clear c4
  have H' := Aside0.mk H
  clear H
  go_enter Try.func16, Try.ntmps16
  go_wp2_with (first | ((with_reducible refine gate_dst (N := 7) rfl ?_); refine box_event ?hg (N := 7) ?hd (cs := #[.slice none 0 0, .slice none 0 0]) (t := 33) ?hr ?_; (case hd => rfl); (case hg => rfl); (case hr => first | (go_simp; done) | (go_simp; rfl)); intro gb544 hg w7 hbox hb; have BK544 := Aside0.mk (hbox); have GW544 := Aside0.mk ((by rw [hg]; exact (below_size (bt)) : w.heap.size ≤ gb544)); have GE544 := Aside0.mk ((by rw [hg]; exact (below_size (bt)) : w.heap.size ≤ gb544)); replace HB := Aside0.mk (below_step (bt) hb); clear hb hbox hg))
  go_loopg [19] k (fun kq v19 w' => ∃ (x19_1 : Int), v19 = .int .i64 x19_1 ∧ Aside0 (impl_FirstLiar.l0 kq a0 l1 l2 (l2.length : Int) x19_1 = some (r1, r2, r3, r4)) ∧ Aside0 (kq ≤ k) ∧ Aside0 (w'.heap[gb544]? = some (.cells #[(.slice none 0 0), (.slice none 0 0)] 33 (0, 0))) ∧ Aside0 (Below w.heap.size w w'))
  case atStart => exact ⟨(0), (by first | rfl | (simp; done) | (simp [*]; done)), H', ⟨Nat.le_refl _⟩, ⟨mb BK544.out⟩, ⟨b1 GE544.out⟩⟩
  case round =>
   clear H'
   try clear c1
   try clear c2
   try clear p2
   try clear c4
   try clear c4b0
   try clear c4b1
   try clear hcz6_0
   try clear hcz6_1
   try clear hfz6_0
   try clear hfz6_1
   obtain ⟨x19_1, rfl, HA, HK1, BK544, HB⟩ := hrel
   cases gk with
   | zero => exact absurd HA.out (by simp [impl_FirstLiar.l0])
   | succ k1 =>
    have H := HA.out
    clear HA
    simp only [impl_FirstLiar.l0] at H
    by_cases c8 : x19_1 < (l2.length : Int)
    ·rw [if_pos c8] at H
     have c8b0 : decide (x19_1 < (l2.length : Int)) = true := decide_eq_true c8
     clear c8
     by_cases c9 : 0 ≤ x19_1
     ·rw [if_pos c9] at H
      have c9b0 : decide (0 ≤ x19_1) = true := decide_eq_true c9
      clear c9
      by_cases c10 : x19_1 < (l2.length : Int)
      ·rw [if_pos c10] at H
       have c10b0 : decide (x19_1 < (l2.length : Int)) = true := decide_eq_true c10
       clear c10
       replace H := Option.bind_eq_some_iff.mp H
       obtain ⟨⟨t547, t550, t553⟩, A110, H⟩ := H
       (try dsimp -simprocs only at H)
       have A11 := Aside0.mk A110
       clear A110
       by_cases c12 : t553 = true
       ·subst c12
        rw [if_pos rfl] at H
        simp only [Option.some.injEq, Prod.mk.injEq] at H
        obtain ⟨rfl, rfl, rfl, rfl⟩ := H
        have p545 : 0 ≤ (x19_1 : Int) := of_decide_eq_true asm
        have q545 : x19_1 < (l2.length : Int) := of_decide_eq_true asm
        obtain ⟨ad545, A545_2, c545_2, A545_3, c545_3, e545, hx545_0, hx545_1, hx545_2, hx545_3, hl545_2, hi545_2, hl545_3, hi545_3⟩ := at_T31 HR2.out x19_1 p545 q545
        cases e545
        replace hx545_0 := (HB.out.cell (World.block_lt_of_cell? w _ hx545_0)).trans hx545_0
        replace hx545_1 := (HB.out.cell (World.block_lt_of_cell? w _ hx545_1)).trans hx545_1
        replace hx545_2 := (HB.out.cell (World.block_lt_of_cell? w _ hx545_2)).trans hx545_2
        replace hx545_3 := (HB.out.cell (World.block_lt_of_cell? w _ hx545_3)).trans hx545_3
        have HR545_2 := Aside0.mk hi545_2
        have HC545_2 := Aside0.mk hl545_2
        clear hi545_2 hl545_2
        have HR545_3 := Aside0.mk hi545_3
        have HC545_3 := Aside0.mk hl545_3
        clear hi545_3 hl545_3
        replace p545 := eq_true p545
        replace q545 := eq_true q545
        try go_wp2_with (first | ((with_reducible refine gate_dst (N := 10) rfl ?_); refine box_event ?hg (N := 10) ?hd (cs := #[.int .i64 0, .int .i64 0, .slice none 0 0, .slice none 0 0]) (t := 31) ?hr ?_; (case hd => rfl); (case hg => rfl); (case hr => first | (go_simp; done) | (go_simp; rfl)); intro gb546 hg w13 hbox hb; have BK546 := Aside0.mk (hbox); have GW546 := Aside0.mk ((by rw [hg]; exact (below_size (b1 GE544.out)) : w.heap.size ≤ gb546)); have GE546 := Aside0.mk ((by rw [hg]; exact (below_size (b1 GE544.out)) : w.heap.size ≤ gb546)); replace HB := Aside0.mk (below_step (b1 GE544.out) hb); have NB544_546 := Aside0.mk ((by rw [hg]; exact Nat.ne_of_lt (blk_lt (g := gb544) (o := .cells #[.slice none 0 0, .slice none 0 0] 33 (0, 0)) (mb BK544.out)) : gb544 ≠ gb546)); have NB546_544 := Aside0.mk ((by rw [hg]; exact Nat.ne_of_gt (blk_lt (g := gb544) (o := .cells #[.slice none 0 0, .slice none 0 0] 33 (0, 0)) (mb BK544.out)) : gb546 ≠ gb544)); replace BK544 := Aside0.mk (blk_below (g := gb544) (o := .cells #[.slice none 0 0, .slice none 0 0] 33 (0, 0)) (mb BK544.out) hb); clear hb hbox hg; have hnb14 := NB546_544.out; have hnc14 := NB544_546.out; have hcz15_0 : w13.cell? ⟨gb546, 0, none⟩ = some (.int .i64 0) := (blk_cell BK546.out 0).trans rfl; have hcz15_1 : w13.cell? ⟨gb546, 1, none⟩ = some (.int .i64 0) := (blk_cell BK546.out 1).trans rfl; have hcz15_2 : w13.cell? ⟨gb546, 2, none⟩ = some (.slice none 0 0) := (blk_cell BK546.out 2).trans rfl; have hcz15_3 : w13.cell? ⟨gb546, 3, none⟩ = some (.slice none 0 0) := (blk_cell BK546.out 3).trans rfl; have hfz15_0 := blk_frozen BK546.out 0; have hfz15_1 := blk_frozen BK546.out 1; have hfz15_2 := blk_frozen BK546.out 2; have hfz15_3 := blk_frozen BK546.out 3) | ((with_reducible refine gate_callee (f := 12) rfl ?_); refine goesL_ (some 28) rfl rfl Try.func12 (by kernel_rfl) rfl #[.int .i64 a0, .slice A1 l1.length c1, .agg #[.int .i64 ((rd_T31 l2 x19_1).f0), .int .i64 ((rd_T31 l2 x19_1).f1), .slice A545_2 ((rd_T31 l2 x19_1).f2).length c545_2, .slice A545_3 ((rd_T31 l2 x19_1).f3).length c545_3]] rfl av ?_; (with_reducible refine (impl_Liar.calls k1 a0 _ _ l1 ((rd_T31 l2 x19_1).f0) ((rd_T31 l2 x19_1).f1) _ _ ((rd_T31 l2 x19_1).f2) _ _ ((rd_T31 l2 x19_1).f3) t547 t550 true _ ?side1 ?side2 ?side3 ?side4 ?side5 ?side6 A11.out).mono ?_); (case side1 => exact Kd.C_below HR1.out (by repeat (first | (with_reducible first | exact HB.out | apply below_alloc | apply pw_below_drewN | apply below_drew1 | refine below_set ?_ GE544.out | refine below_set ?_ GE546.out) | exact HB.out))); (case side2 => exact HC1.out); (case side3 => exact Kd.C_below HR545_2.out (by repeat (first | (with_reducible first | exact HB.out | apply below_alloc | apply pw_below_drewN | apply below_drew1 | refine below_set ?_ GE544.out | refine below_set ?_ GE546.out) | exact HB.out))); (case side4 => exact HC545_2.out); (case side5 => exact Kd.C_below HR545_3.out (by repeat (first | (with_reducible first | exact HB.out | apply below_alloc | apply pw_below_drewN | apply below_drew1 | refine below_set ?_ GE544.out | refine below_set ?_ GE546.out) | exact HB.out))); (case side6 => exact HC545_3.out); rintro e w16 ⟨v548, v551, rfl, ho0, ho1, hb⟩; refine ⟨_, rfl, ?_⟩; have HO549 := Aside0.mk (Kd.R_lower ho0 (below_size (by repeat (first | (with_reducible first | exact HB.out | apply below_alloc | apply pw_below_drewN | apply below_drew1 | refine below_set ?_ GE544.out | refine below_set ?_ GE546.out) | exact HB.out)))); have HO552 := Aside0.mk (Kd.R_lower ho1 (below_size (by repeat (first | (with_reducible first | exact HB.out | apply below_alloc | apply pw_below_drewN | apply below_drew1 | refine below_set ?_ GE544.out | refine below_set ?_ GE546.out) | exact HB.out)))); replace BK544 := Aside0.mk (blk_below (g := gb544) (o := .cells #[.slice none 0 0, .slice none 0 0] 33 (0, 0)) (by (with_reducible repeat (first | refine blk_drewN ?_ _ | refine blk_drew ?_ | refine blk_alloc ?_ _)); refine blk_far ?_ NB544_546.out _; (with_reducible repeat (first | refine blk_drewN ?_ _ | refine blk_drew ?_ | refine blk_alloc ?_ _)); refine blk_far ?_ NB544_546.out _; (with_reducible repeat (first | refine blk_drewN ?_ _ | refine blk_drew ?_ | refine blk_alloc ?_ _)); refine blk_far ?_ NB544_546.out _; (with_reducible repeat (first | refine blk_drewN ?_ _ | refine blk_drew ?_ | refine blk_alloc ?_ _)); refine blk_far ?_ NB544_546.out _; (with_reducible repeat (first | refine blk_drewN ?_ _ | refine blk_drew ?_ | refine blk_alloc ?_ _)); exact BK544.out) hb); replace BK546 := Aside0.mk (blk_below (g := gb546) (o := .cells #[.int .i64 ((rd_T31 l2 x19_1).f0), .int .i64 ((rd_T31 l2 x19_1).f1), .slice A545_2 ((rd_T31 l2 x19_1).f2).length c545_2, .slice A545_3 ((rd_T31 l2 x19_1).f3).length c545_3] 31 (0, 0)) (by (with_reducible repeat (first | refine blk_drewN ?_ _ | refine blk_drew ?_ | refine blk_alloc ?_ _)); refine blk_put (cs := #[.int .i64 ((rd_T31 l2 x19_1).f0), .int .i64 ((rd_T31 l2 x19_1).f1), .slice A545_2 ((rd_T31 l2 x19_1).f2).length c545_2, .slice none 0 0]) ?_ 3 _ rfl; (with_reducible repeat (first | refine blk_drewN ?_ _ | refine blk_drew ?_ | refine blk_alloc ?_ _)); refine blk_put (cs := #[.int .i64 ((rd_T31 l2 x19_1).f0), .int .i64 ((rd_T31 l2 x19_1).f1), .slice none 0 0, .slice none 0 0]) ?_ 2 _ rfl; (with_reducible repeat (first | refine blk_drewN ?_ _ | refine blk_drew ?_ | refine blk_alloc ?_ _)); refine blk_put (cs := #[.int .i64 ((rd_T31 l2 x19_1).f0), .int .i64 0, .slice none 0 0, .slice none 0 0]) ?_ 1 _ rfl; (with_reducible repeat (first | refine blk_drewN ?_ _ | refine blk_drew ?_ | refine blk_alloc ?_ _)); refine blk_put (cs := #[.int .i64 0, .int .i64 0, .slice none 0 0, .slice none 0 0]) ?_ 0 _ rfl; (with_reducible repeat (first | refine blk_drewN ?_ _ | refine blk_drew ?_ | refine blk_alloc ?_ _)); exact BK546.out) hb); replace HB := Aside0.mk (below_step (by repeat (first | (with_reducible first | exact HB.out | apply below_alloc | apply pw_below_drewN | apply below_drew1 | refine below_set ?_ GE544.out | refine below_set ?_ GE546.out) | exact HB.out)) hb); (try clear hb); (try clear hb2); (try clear hk); (try clear hi); (try clear ho0); (try clear ho1)) | ((with_reducible refine gate_dst (N := 11) rfl ?_); refine box_event ?hg (N := 11) ?hd (cs := #[.slice none 0 0, .slice none 0 0]) (t := 33) ?hr ?_; (case hd => rfl); (case hg => rfl); (case hr => first | (go_simp; done) | (go_simp; rfl)); intro gb554 hg w17 hbox hb; replace HO549 := Aside0.mk (Kd.R_below (mv HO549.out) hb); replace HO552 := Aside0.mk (Kd.R_below (mv HO552.out) hb); have BK554 := Aside0.mk (hbox); have GW554 := Aside0.mk ((by rw [hg]; exact (below_size (by repeat (first | (with_reducible first | exact HB.out | apply below_alloc | apply pw_below_drewN | apply below_drew1 | refine below_set ?_ GE544.out | refine below_set ?_ GE546.out) | exact HB.out))) : w.heap.size ≤ gb554)); have GE554 := Aside0.mk ((by rw [hg]; exact (below_size (by repeat (first | (with_reducible first | exact HB.out | apply below_alloc | apply pw_below_drewN | apply below_drew1 | refine below_set ?_ GE544.out | refine below_set ?_ GE546.out) | exact HB.out))) : w.heap.size ≤ gb554)); replace HB := Aside0.mk (below_step (by repeat (first | (with_reducible first | exact HB.out | apply below_alloc | apply pw_below_drewN | apply below_drew1 | refine below_set ?_ GE544.out | refine below_set ?_ GE546.out) | exact HB.out)) hb); have NB544_554 := Aside0.mk ((by rw [hg]; exact Nat.ne_of_lt (blk_lt (g := gb544) (o := .cells #[.slice none 0 0, .slice none 0 0] 33 (0, 0)) (mb BK544.out)) : gb544 ≠ gb554)); have NB554_544 := Aside0.mk ((by rw [hg]; exact Nat.ne_of_gt (blk_lt (g := gb544) (o := .cells #[.slice none 0 0, .slice none 0 0] 33 (0, 0)) (mb BK544.out)) : gb554 ≠ gb544)); replace BK544 := Aside0.mk (blk_below (g := gb544) (o := .cells #[.slice none 0 0, .slice none 0 0] 33 (0, 0)) (mb BK544.out) hb); have NB546_554 := Aside0.mk ((by rw [hg]; exact Nat.ne_of_lt (blk_lt (g := gb546) (o := .cells #[.int .i64 ((rd_T31 l2 x19_1).f0), .int .i64 ((rd_T31 l2 x19_1).f1), .slice A545_2 ((rd_T31 l2 x19_1).f2).length c545_2, .slice A545_3 ((rd_T31 l2 x19_1).f3).length c545_3] 31 (0, 0)) (mb BK546.out)) : gb546 ≠ gb554)); have NB554_546 := Aside0.mk ((by rw [hg]; exact Nat.ne_of_gt (blk_lt (g := gb546) (o := .cells #[.int .i64 ((rd_T31 l2 x19_1).f0), .int .i64 ((rd_T31 l2 x19_1).f1), .slice A545_2 ((rd_T31 l2 x19_1).f2).length c545_2, .slice A545_3 ((rd_T31 l2 x19_1).f3).length c545_3] 31 (0, 0)) (mb BK546.out)) : gb554 ≠ gb546)); replace BK546 := Aside0.mk (blk_below (g := gb546) (o := .cells #[.int .i64 ((rd_T31 l2 x19_1).f0), .int .i64 ((rd_T31 l2 x19_1).f1), .slice A545_2 ((rd_T31 l2 x19_1).f2).length c545_2, .slice A545_3 ((rd_T31 l2 x19_1).f3).length c545_3] 31 (0, 0)) (mb BK546.out) hb); clear hb hbox hg; obtain ⟨Ao18, co18, eo18⟩ := Kd.R_slice HO549.out; subst eo18; have hnb19 := NB554_544.out; have hnc19 := NB544_554.out; have hnb20 := NB554_546.out; have hnc20 := NB546_554.out; have hcz21_0 : w17.cell? ⟨gb554, 0, none⟩ = some (.slice none 0 0) := (blk_cell BK554.out 0).trans rfl; have hcz21_1 : w17.cell? ⟨gb554, 1, none⟩ = some (.slice none 0 0) := (blk_cell BK554.out 1).trans rfl; have hfz21_0 := blk_frozen BK554.out 0; have hfz21_1 := blk_frozen BK554.out 1; obtain ⟨Ao22, co22, eo22⟩ := Kd.R_slice HO552.out; subst eo22))
        have n0_ : Aside0 (Kd.R (Kd.int .u8) 5 ((w17.setCell ⟨gb554, 0, none⟩ (.slice Ao18 t547.length co18)).setCell ⟨gb554, 1, none⟩ (.slice Ao22 t550.length co22)) w.heap.size (fun k_ => some k_ ≠ (.slice Ao22 t550.length co22 : Value).ownBlock) (.slice Ao18 t547.length co18) t547) := ⟨by (with_reducible repeat (first | apply Kd.R_alloc | apply Kd.R_drewN | apply Kd.R_drew)); exact Kd.R_mono (Kd.R_far (p := ⟨gb554, 1, none⟩) (Kd.R_far (p := ⟨gb554, 0, none⟩) (Kd.R_types HO549.out BK554.out (by decide)) (fun _ hk => hk.2) (.slice Ao18 t547.length co18)) (fun _ hk => hk.2) (.slice Ao22 t550.length co22)) (fun _ hk => hk.1)⟩
        have n1_ : Aside0 (Kd.R (Kd.int .u8) 5 ((w17.setCell ⟨gb554, 0, none⟩ (.slice Ao18 t547.length co18)).setCell ⟨gb554, 1, none⟩ (.slice Ao22 t550.length co22)) w.heap.size (fun k_ => some k_ ≠ (.slice Ao18 t547.length co18 : Value).ownBlock) (.slice Ao22 t550.length co22) t550) := ⟨by (with_reducible repeat (first | apply Kd.R_alloc | apply Kd.R_drewN | apply Kd.R_drew)); exact Kd.R_mono (Kd.R_far (p := ⟨gb554, 1, none⟩) (Kd.R_far (p := ⟨gb554, 0, none⟩) (Kd.R_types HO552.out BK554.out (by decide)) (fun _ hk => hk.2) (.slice Ao18 t547.length co18)) (fun _ hk => hk.2) (.slice Ao22 t550.length co22)) (fun _ hk => hk.1)⟩
        have n2_ : Aside0 (((w17.setCell ⟨gb554, 0, none⟩ (.slice Ao18 t547.length co18)).setCell ⟨gb554, 1, none⟩ (.slice Ao22 t550.length co22)).heap[gb544]? = some (.cells #[.slice none 0 0, .slice none 0 0] 33 (0, 0))) := ⟨by (with_reducible repeat (first | refine blk_drewN ?_ _ | refine blk_drew ?_ | refine blk_alloc ?_ _)); refine blk_far ?_ NB544_554.out _; (with_reducible repeat (first | refine blk_drewN ?_ _ | refine blk_drew ?_ | refine blk_alloc ?_ _)); refine blk_far ?_ NB544_554.out _; (with_reducible repeat (first | refine blk_drewN ?_ _ | refine blk_drew ?_ | refine blk_alloc ?_ _)); exact BK544.out⟩
        have n3_ : Aside0 (((w17.setCell ⟨gb554, 0, none⟩ (.slice Ao18 t547.length co18)).setCell ⟨gb554, 1, none⟩ (.slice Ao22 t550.length co22)).heap[gb546]? = some (.cells #[.int .i64 ((rd_T31 l2 x19_1).f0), .int .i64 ((rd_T31 l2 x19_1).f1), .slice A545_2 ((rd_T31 l2 x19_1).f2).length c545_2, .slice A545_3 ((rd_T31 l2 x19_1).f3).length c545_3] 31 (0, 0))) := ⟨by (with_reducible repeat (first | refine blk_drewN ?_ _ | refine blk_drew ?_ | refine blk_alloc ?_ _)); refine blk_far ?_ NB546_554.out _; (with_reducible repeat (first | refine blk_drewN ?_ _ | refine blk_drew ?_ | refine blk_alloc ?_ _)); refine blk_far ?_ NB546_554.out _; (with_reducible repeat (first | refine blk_drewN ?_ _ | refine blk_drew ?_ | refine blk_alloc ?_ _)); exact BK546.out⟩
        have n4_ : Aside0 (((w17.setCell ⟨gb554, 0, none⟩ (.slice Ao18 t547.length co18)).setCell ⟨gb554, 1, none⟩ (.slice Ao22 t550.length co22)).heap[gb554]? = some (.cells #[.slice Ao18 t547.length co18, .slice Ao22 t550.length co22] 33 (0, 0))) := ⟨by (with_reducible repeat (first | refine blk_drewN ?_ _ | refine blk_drew ?_ | refine blk_alloc ?_ _)); refine blk_put (cs := #[.slice Ao18 t547.length co18, .slice none 0 0]) ?_ 1 _ rfl; (with_reducible repeat (first | refine blk_drewN ?_ _ | refine blk_drew ?_ | refine blk_alloc ?_ _)); refine blk_put (cs := #[.slice none 0 0, .slice none 0 0]) ?_ 0 _ rfl; (with_reducible repeat (first | refine blk_drewN ?_ _ | refine blk_drew ?_ | refine blk_alloc ?_ _)); exact BK554.out⟩
        have n5_ : Aside0 (Below w.heap.size w ((w17.setCell ⟨gb554, 0, none⟩ (.slice Ao18 t547.length co18)).setCell ⟨gb554, 1, none⟩ (.slice Ao22 t550.length co22))) := ⟨by repeat (first | (with_reducible first | exact HB.out | apply below_alloc | apply pw_below_drewN | apply below_drew1 | refine below_set ?_ GE544.out | refine below_set ?_ GE546.out | refine below_set ?_ GE554.out) | exact HB.out)⟩
        (try clear HO549)
        (try clear HO552)
        (try clear BK544)
        (try clear BK546)
        (try clear BK554)
        (try clear HB)
        generalize ((w17.setCell ⟨gb554, 0, none⟩ (.slice Ao18 t547.length co18)).setCell ⟨gb554, 1, none⟩ (.slice Ao22 t550.length co22)) = w23 at n0_ n1_ n2_ n3_ n4_ n5_ ⊢
        have HO549 := n0_
        have HO552 := n1_
        have BK544 := n2_
        have BK546 := n3_
        have BK554 := n4_
        have HB := n5_
        clear n0_ n1_ n2_ n3_ n4_ n5_
        have n0_ := Aside0.mk (Kd.R_drew HO549.out)
        have n1_ := Aside0.mk (Kd.R_drew HO552.out)
        have n2_ := Aside0.mk (blk_drew BK544.out)
        have n3_ := Aside0.mk (blk_drew BK546.out)
        have n4_ := Aside0.mk (blk_drew BK554.out)
        have n5_ := Aside0.mk (below_drew1 HB.out)
        clear HO549
        clear HO552
        clear BK544
        clear BK546
        clear BK554
        clear HB
        have HO549 := n0_
        have HO552 := n1_
        have BK544 := n2_
        have BK546 := n3_
        have BK554 := n4_
        have HB := n5_
        clear n0_ n1_ n2_ n3_ n4_ n5_
        refine start_ (n := 5) (S := fun w' => w'.cell? ⟨gb554, 0, none⟩ = some (.slice Ao18 t547.length co18) ∧ w'.cell? ⟨gb554, 1, none⟩ = some (.slice Ao22 t550.length co22)) (ds := []) #[false, false, false, false, false] (by kernel_rfl) rfl rfl ⟨(blk_cell BK554.out 0).trans rfl, (blk_cell BK554.out 1).trans rfl⟩ (fun hHeld => ?_)
        generalize w23.drew = w24 at HO549 HO552 BK544 BK546 BK554 HB hHeld ⊢
        refine pure_ (i := 0) (N := some 32) (v := ?_) (a' := ?_) #[true, false, false, false, false] rfl rfl (by kernel_rfl) (fun _ _ _ h => h) (Or.inl ⟨by rfl, ?_⟩) ?_ ?_
        rotate_left
        ·intro w'
         go_simp
         with_reducible rfl
        rotate_left
        ·simp only [Act.put, List.setIfInBounds_toArray, List.set_cons_zero, List.set_cons_succ, i64_w, i32_w]
         rfl
        refine pure_ (i := 2) (N := some 6) (v := ?_) (a' := ?_) #[true, false, true, false, false] rfl rfl (by kernel_rfl) (fun _ _ _ h => h) (Or.inl ⟨by rfl, ?_⟩) ?_ ?_
        rotate_left
        ·intro w'
         go_simp
         with_reducible rfl
        rotate_left
        ·simp only [Act.put, List.setIfInBounds_toArray, List.set_cons_zero, List.set_cons_succ, i64_w, i32_w]
         rfl
        refine take_ (i := 1) (N := some 33) (v := ?_) (a' := ?_) #[true, true, true, false, false] rfl rfl (by kernel_rfl) (fun _ _ _ h => h) (Or.inl ⟨by rfl, ?_⟩) hHeld ?_ ?_
        rotate_left
        ·rintro w' ⟨s0, s1⟩
         go_simp
         with_reducible rfl
        rotate_left
        ·simp only [Act.put, List.setIfInBounds_toArray, List.set_cons_zero, List.set_cons_succ, i64_w, i32_w]
         rfl
        refine one_ (i := 3) (N := none) #[true, true, true, true, false] rfl rfl (by kernel_rfl) (by decide) (fun K hK => ?_)
        have hs25 : w24.cell? ⟨gb544, 0, none⟩ = some (.slice none 0 0) := (blk_cell BK544.out 0).trans rfl
        have hfs25 := blk_frozen BK544.out 0
        have hns25_1 := NB546_544.out
        have hns25_2 := NB554_544.out
        have hms25_1 := NB544_546.out
        have hms25_2 := NB544_554.out
        have hs26 : w24.cell? ⟨gb544, 1, none⟩ = some (.slice none 0 0) := (blk_cell BK544.out 1).trans rfl
        have hfs26 := blk_frozen BK544.out 1
        have hns26_1 := NB546_544.out
        have hns26_2 := NB554_544.out
        have hms26_1 := NB544_546.out
        have hms26_2 := NB544_554.out
        refine skip_ (w1 := ?_) (by rfl) rfl ?_ ?_
        rotate_left
        ·go_simp
         rfl
        refine hK.out _ _ ⟨((cell_far (p := ⟨gb544, _, none⟩) NB554_544.out _).trans (((cell_far (p := ⟨gb544, _, none⟩) NB554_544.out _).trans (hHeld.1)))), ((cell_far (p := ⟨gb544, _, none⟩) NB554_544.out _).trans (((cell_far (p := ⟨gb544, _, none⟩) NB554_544.out _).trans (hHeld.2))))⟩ (fun hHeld => ?_)
        clear hK K
        refine pure_ (i := 4) (N := some 8) (v := ?_) (a' := ?_) #[true, true, true, true, true] rfl rfl (by kernel_rfl) (fun _ _ _ h => h) (Or.inl ⟨by rfl, ?_⟩) ?_ ?_
        rotate_left
        ·intro w'
         go_simp
         with_reducible rfl
        rotate_left
        ·simp only [Act.put, List.setIfInBounds_toArray, List.set_cons_zero, List.set_cons_succ, i64_w, i32_w]
         rfl
        refine done_ (by kernel_rfl) ?_
        try go_wp2
        refine bodyPost_ret (results_list (rs := [.tmp 6, .cell 7 33, .tmp 8]) rfl (by simp) (.tmp (.cell gb544 33 #[.slice Ao18 t547.length co18, .slice Ao22 t550.length co22] (0, 0) _ rfl (by (with_reducible repeat (first | refine blk_drewN ?_ _ | refine blk_drew ?_ | refine blk_alloc ?_ _)); refine blk_put (cs := #[.slice Ao18 t547.length co18, .slice none 0 0]) ?_ 1 _ rfl; (with_reducible repeat (first | refine blk_drewN ?_ _ | refine blk_drew ?_ | refine blk_alloc ?_ _)); refine blk_put (cs := #[.slice none 0 0, .slice none 0 0]) ?_ 0 _ rfl; (with_reducible repeat (first | refine blk_drewN ?_ _ | refine blk_drew ?_ | refine blk_alloc ?_ _)); exact BK544.out) Try.underlying33 rfl (by kernel_rfl) (.tmp .nil)))) rfl ?_
        exact ⟨_, _, by first | rfl | (simp [errW_none, errW_some] <;> rfl) | (simp [*, errW_none, errW_some] <;> rfl), by (with_reducible repeat (first | apply Kd.R_alloc | apply Kd.R_drewN | apply Kd.R_drew)); exact Kd.R_mono (Kd.R_far (p := ⟨gb544, 1, none⟩) (Kd.R_far (p := ⟨gb544, 0, none⟩) (Kd.R_types HO549.out BK544.out (by decide)) (fun _ hk => hk.2) (.slice Ao18 t547.length co18)) (fun _ hk => hk.2) (.slice Ao22 t550.length co22)) (fun _ hk => hk.1), by (with_reducible repeat (first | apply Kd.R_alloc | apply Kd.R_drewN | apply Kd.R_drew)); exact Kd.R_mono (Kd.R_far (p := ⟨gb544, 1, none⟩) (Kd.R_far (p := ⟨gb544, 0, none⟩) (Kd.R_types HO552.out BK544.out (by decide)) (fun _ hk => hk.2) (.slice Ao18 t547.length co18)) (fun _ hk => hk.2) (.slice Ao22 t550.length co22)) (fun _ hk => hk.1), by repeat (first | (with_reducible first | exact HB.out | apply below_alloc | apply pw_below_drewN | apply below_drew1 | refine below_set ?_ GE544.out | refine below_set ?_ GE546.out | refine below_set ?_ GE554.out) | exact HB.out)⟩
       ·replace c12 := Bool.eq_false_iff.mpr c12
        subst c12
        rw [if_neg (show ¬ (false = true) by decide)] at H
        have H' := Aside0.mk H
        clear H
        have p545 : 0 ≤ (x19_1 : Int) := of_decide_eq_true asm
        have q545 : x19_1 < (l2.length : Int) := of_decide_eq_true asm
        obtain ⟨ad545, A545_2, c545_2, A545_3, c545_3, e545, hx545_0, hx545_1, hx545_2, hx545_3, hl545_2, hi545_2, hl545_3, hi545_3⟩ := at_T31 HR2.out x19_1 p545 q545
        cases e545
        replace hx545_0 := (HB.out.cell (World.block_lt_of_cell? w _ hx545_0)).trans hx545_0
        replace hx545_1 := (HB.out.cell (World.block_lt_of_cell? w _ hx545_1)).trans hx545_1
        replace hx545_2 := (HB.out.cell (World.block_lt_of_cell? w _ hx545_2)).trans hx545_2
        replace hx545_3 := (HB.out.cell (World.block_lt_of_cell? w _ hx545_3)).trans hx545_3
        have HR545_2 := Aside0.mk hi545_2
        have HC545_2 := Aside0.mk hl545_2
        clear hi545_2 hl545_2
        have HR545_3 := Aside0.mk hi545_3
        have HC545_3 := Aside0.mk hl545_3
        clear hi545_3 hl545_3
        replace p545 := eq_true p545
        replace q545 := eq_true q545
        go_wp2_with (first | ((with_reducible refine gate_dst (N := 10) rfl ?_); refine box_event ?hg (N := 10) ?hd (cs := #[.int .i64 0, .int .i64 0, .slice none 0 0, .slice none 0 0]) (t := 31) ?hr ?_; (case hd => rfl); (case hg => rfl); (case hr => first | (go_simp; done) | (go_simp; rfl)); intro gb546 hg w27 hbox hb; have BK546 := Aside0.mk (hbox); have GW546 := Aside0.mk ((by rw [hg]; exact (below_size (b1 GE544.out)) : w.heap.size ≤ gb546)); have GE546 := Aside0.mk ((by rw [hg]; exact (below_size (b1 GE544.out)) : w.heap.size ≤ gb546)); replace HB := Aside0.mk (below_step (b1 GE544.out) hb); have NB544_546 := Aside0.mk ((by rw [hg]; exact Nat.ne_of_lt (blk_lt (g := gb544) (o := .cells #[.slice none 0 0, .slice none 0 0] 33 (0, 0)) (mb BK544.out)) : gb544 ≠ gb546)); have NB546_544 := Aside0.mk ((by rw [hg]; exact Nat.ne_of_gt (blk_lt (g := gb544) (o := .cells #[.slice none 0 0, .slice none 0 0] 33 (0, 0)) (mb BK544.out)) : gb546 ≠ gb544)); replace BK544 := Aside0.mk (blk_below (g := gb544) (o := .cells #[.slice none 0 0, .slice none 0 0] 33 (0, 0)) (mb BK544.out) hb); clear hb hbox hg; have hnb28 := NB546_544.out; have hnc28 := NB544_546.out; have hcz29_0 : w27.cell? ⟨gb546, 0, none⟩ = some (.int .i64 0) := (blk_cell BK546.out 0).trans rfl; have hcz29_1 : w27.cell? ⟨gb546, 1, none⟩ = some (.int .i64 0) := (blk_cell BK546.out 1).trans rfl; have hcz29_2 : w27.cell? ⟨gb546, 2, none⟩ = some (.slice none 0 0) := (blk_cell BK546.out 2).trans rfl; have hcz29_3 : w27.cell? ⟨gb546, 3, none⟩ = some (.slice none 0 0) := (blk_cell BK546.out 3).trans rfl; have hfz29_0 := blk_frozen BK546.out 0; have hfz29_1 := blk_frozen BK546.out 1; have hfz29_2 := blk_frozen BK546.out 2; have hfz29_3 := blk_frozen BK546.out 3) | ((with_reducible refine gate_callee (f := 12) rfl ?_); refine goesL_ (some 28) rfl rfl Try.func12 (by kernel_rfl) rfl #[.int .i64 a0, .slice A1 l1.length c1, .agg #[.int .i64 ((rd_T31 l2 x19_1).f0), .int .i64 ((rd_T31 l2 x19_1).f1), .slice A545_2 ((rd_T31 l2 x19_1).f2).length c545_2, .slice A545_3 ((rd_T31 l2 x19_1).f3).length c545_3]] rfl av ?_; (with_reducible refine (impl_Liar.calls k1 a0 _ _ l1 ((rd_T31 l2 x19_1).f0) ((rd_T31 l2 x19_1).f1) _ _ ((rd_T31 l2 x19_1).f2) _ _ ((rd_T31 l2 x19_1).f3) t547 t550 false _ ?side1 ?side2 ?side3 ?side4 ?side5 ?side6 A11.out).mono ?_); (case side1 => exact Kd.C_below HR1.out (by repeat (first | (with_reducible first | exact HB.out | apply below_alloc | apply pw_below_drewN | apply below_drew1 | refine below_set ?_ GE544.out | refine below_set ?_ GE546.out) | exact HB.out))); (case side2 => exact HC1.out); (case side3 => exact Kd.C_below HR545_2.out (by repeat (first | (with_reducible first | exact HB.out | apply below_alloc | apply pw_below_drewN | apply below_drew1 | refine below_set ?_ GE544.out | refine below_set ?_ GE546.out) | exact HB.out))); (case side4 => exact HC545_2.out); (case side5 => exact Kd.C_below HR545_3.out (by repeat (first | (with_reducible first | exact HB.out | apply below_alloc | apply pw_below_drewN | apply below_drew1 | refine below_set ?_ GE544.out | refine below_set ?_ GE546.out) | exact HB.out))); (case side6 => exact HC545_3.out); rintro e w30 ⟨v548, v551, rfl, ho0, ho1, hb⟩; refine ⟨_, rfl, ?_⟩; have HO549 := Aside0.mk (Kd.R_lower ho0 (below_size (by repeat (first | (with_reducible first | exact HB.out | apply below_alloc | apply pw_below_drewN | apply below_drew1 | refine below_set ?_ GE544.out | refine below_set ?_ GE546.out) | exact HB.out)))); have HO552 := Aside0.mk (Kd.R_lower ho1 (below_size (by repeat (first | (with_reducible first | exact HB.out | apply below_alloc | apply pw_below_drewN | apply below_drew1 | refine below_set ?_ GE544.out | refine below_set ?_ GE546.out) | exact HB.out)))); replace BK544 := Aside0.mk (blk_below (g := gb544) (o := .cells #[.slice none 0 0, .slice none 0 0] 33 (0, 0)) (by (with_reducible repeat (first | refine blk_drewN ?_ _ | refine blk_drew ?_ | refine blk_alloc ?_ _)); refine blk_far ?_ NB544_546.out _; (with_reducible repeat (first | refine blk_drewN ?_ _ | refine blk_drew ?_ | refine blk_alloc ?_ _)); refine blk_far ?_ NB544_546.out _; (with_reducible repeat (first | refine blk_drewN ?_ _ | refine blk_drew ?_ | refine blk_alloc ?_ _)); refine blk_far ?_ NB544_546.out _; (with_reducible repeat (first | refine blk_drewN ?_ _ | refine blk_drew ?_ | refine blk_alloc ?_ _)); refine blk_far ?_ NB544_546.out _; (with_reducible repeat (first | refine blk_drewN ?_ _ | refine blk_drew ?_ | refine blk_alloc ?_ _)); exact BK544.out) hb); replace BK546 := Aside0.mk (blk_below (g := gb546) (o := .cells #[.int .i64 ((rd_T31 l2 x19_1).f0), .int .i64 ((rd_T31 l2 x19_1).f1), .slice A545_2 ((rd_T31 l2 x19_1).f2).length c545_2, .slice A545_3 ((rd_T31 l2 x19_1).f3).length c545_3] 31 (0, 0)) (by (with_reducible repeat (first | refine blk_drewN ?_ _ | refine blk_drew ?_ | refine blk_alloc ?_ _)); refine blk_put (cs := #[.int .i64 ((rd_T31 l2 x19_1).f0), .int .i64 ((rd_T31 l2 x19_1).f1), .slice A545_2 ((rd_T31 l2 x19_1).f2).length c545_2, .slice none 0 0]) ?_ 3 _ rfl; (with_reducible repeat (first | refine blk_drewN ?_ _ | refine blk_drew ?_ | refine blk_alloc ?_ _)); refine blk_put (cs := #[.int .i64 ((rd_T31 l2 x19_1).f0), .int .i64 ((rd_T31 l2 x19_1).f1), .slice none 0 0, .slice none 0 0]) ?_ 2 _ rfl; (with_reducible repeat (first | refine blk_drewN ?_ _ | refine blk_drew ?_ | refine blk_alloc ?_ _)); refine blk_put (cs := #[.int .i64 ((rd_T31 l2 x19_1).f0), .int .i64 0, .slice none 0 0, .slice none 0 0]) ?_ 1 _ rfl; (with_reducible repeat (first | refine blk_drewN ?_ _ | refine blk_drew ?_ | refine blk_alloc ?_ _)); refine blk_put (cs := #[.int .i64 0, .int .i64 0, .slice none 0 0, .slice none 0 0]) ?_ 0 _ rfl; (with_reducible repeat (first | refine blk_drewN ?_ _ | refine blk_drew ?_ | refine blk_alloc ?_ _)); exact BK546.out) hb); replace HB := Aside0.mk (below_step (by repeat (first | (with_reducible first | exact HB.out | apply below_alloc | apply pw_below_drewN | apply below_drew1 | refine below_set ?_ GE544.out | refine below_set ?_ GE546.out) | exact HB.out)) hb); (try clear hb); (try clear hb2); (try clear hk); (try clear hi); (try clear ho0); (try clear ho1)) | ((with_reducible refine gate_dst (N := 11) rfl ?_); refine box_event ?hg (N := 11) ?hd (cs := #[.slice none 0 0, .slice none 0 0]) (t := 33) ?hr ?_; (case hd => rfl); (case hg => rfl); (case hr => first | (go_simp; done) | (go_simp; rfl)); intro gb554 hg w31 hbox hb; replace HO549 := Aside0.mk (Kd.R_below (mv HO549.out) hb); replace HO552 := Aside0.mk (Kd.R_below (mv HO552.out) hb); have BK554 := Aside0.mk (hbox); have GW554 := Aside0.mk ((by rw [hg]; exact (below_size (by repeat (first | (with_reducible first | exact HB.out | apply below_alloc | apply pw_below_drewN | apply below_drew1 | refine below_set ?_ GE544.out | refine below_set ?_ GE546.out) | exact HB.out))) : w.heap.size ≤ gb554)); have GE554 := Aside0.mk ((by rw [hg]; exact (below_size (by repeat (first | (with_reducible first | exact HB.out | apply below_alloc | apply pw_below_drewN | apply below_drew1 | refine below_set ?_ GE544.out | refine below_set ?_ GE546.out) | exact HB.out))) : w.heap.size ≤ gb554)); replace HB := Aside0.mk (below_step (by repeat (first | (with_reducible first | exact HB.out | apply below_alloc | apply pw_below_drewN | apply below_drew1 | refine below_set ?_ GE544.out | refine below_set ?_ GE546.out) | exact HB.out)) hb); have NB544_554 := Aside0.mk ((by rw [hg]; exact Nat.ne_of_lt (blk_lt (g := gb544) (o := .cells #[.slice none 0 0, .slice none 0 0] 33 (0, 0)) (mb BK544.out)) : gb544 ≠ gb554)); have NB554_544 := Aside0.mk ((by rw [hg]; exact Nat.ne_of_gt (blk_lt (g := gb544) (o := .cells #[.slice none 0 0, .slice none 0 0] 33 (0, 0)) (mb BK544.out)) : gb554 ≠ gb544)); replace BK544 := Aside0.mk (blk_below (g := gb544) (o := .cells #[.slice none 0 0, .slice none 0 0] 33 (0, 0)) (mb BK544.out) hb); have NB546_554 := Aside0.mk ((by rw [hg]; exact Nat.ne_of_lt (blk_lt (g := gb546) (o := .cells #[.int .i64 ((rd_T31 l2 x19_1).f0), .int .i64 ((rd_T31 l2 x19_1).f1), .slice A545_2 ((rd_T31 l2 x19_1).f2).length c545_2, .slice A545_3 ((rd_T31 l2 x19_1).f3).length c545_3] 31 (0, 0)) (mb BK546.out)) : gb546 ≠ gb554)); have NB554_546 := Aside0.mk ((by rw [hg]; exact Nat.ne_of_gt (blk_lt (g := gb546) (o := .cells #[.int .i64 ((rd_T31 l2 x19_1).f0), .int .i64 ((rd_T31 l2 x19_1).f1), .slice A545_2 ((rd_T31 l2 x19_1).f2).length c545_2, .slice A545_3 ((rd_T31 l2 x19_1).f3).length c545_3] 31 (0, 0)) (mb BK546.out)) : gb554 ≠ gb546)); replace BK546 := Aside0.mk (blk_below (g := gb546) (o := .cells #[.int .i64 ((rd_T31 l2 x19_1).f0), .int .i64 ((rd_T31 l2 x19_1).f1), .slice A545_2 ((rd_T31 l2 x19_1).f2).length c545_2, .slice A545_3 ((rd_T31 l2 x19_1).f3).length c545_3] 31 (0, 0)) (mb BK546.out) hb); clear hb hbox hg; obtain ⟨Ao32, co32, eo32⟩ := Kd.R_slice HO549.out; subst eo32; have hnb33 := NB554_544.out; have hnc33 := NB544_554.out; have hnb34 := NB554_546.out; have hnc34 := NB546_554.out; have hcz35_0 : w31.cell? ⟨gb554, 0, none⟩ = some (.slice none 0 0) := (blk_cell BK554.out 0).trans rfl; have hcz35_1 : w31.cell? ⟨gb554, 1, none⟩ = some (.slice none 0 0) := (blk_cell BK554.out 1).trans rfl; have hfz35_0 := blk_frozen BK554.out 0; have hfz35_1 := blk_frozen BK554.out 1; obtain ⟨Ao36, co36, eo36⟩ := Kd.R_slice HO552.out; subst eo36))
        go_roundg k1
        case measure => have := HK1.out; omega
        case rel => exact ⟨(wrap64 (x19_1 + 1)), (by first | rfl | (simp; done) | (simp [*]; done)), H', ⟨by have := HK1.out; omega⟩, ⟨by (with_reducible repeat (first | refine blk_drewN ?_ _ | refine blk_drew ?_ | refine blk_alloc ?_ _)); refine blk_far ?_ NB544_554.out _; (with_reducible repeat (first | refine blk_drewN ?_ _ | refine blk_drew ?_ | refine blk_alloc ?_ _)); refine blk_far ?_ NB544_554.out _; (with_reducible repeat (first | refine blk_drewN ?_ _ | refine blk_drew ?_ | refine blk_alloc ?_ _)); exact BK544.out⟩, ⟨by repeat (first | (with_reducible first | exact HB.out | apply below_alloc | apply pw_below_drewN | apply below_drew1 | refine below_set ?_ GE544.out | refine below_set ?_ GE546.out | refine below_set ?_ GE554.out) | exact HB.out)⟩⟩
      ·rw [if_neg c10] at H
       exact absurd H (by simp)
     ·rw [if_neg c9] at H
      exact absurd H (by simp)
    ·rw [if_neg c8] at H
     have c8b0 : decide (x19_1 < (l2.length : Int)) = false := decide_eq_false c8
     clear c8
     simp only [Option.some.injEq, Prod.mk.injEq] at H
     obtain ⟨rfl, rfl, rfl, rfl⟩ := H
     have hcz37_0 : wr.cell? ⟨gb544, 0, none⟩ = some (.slice none 0 0) := (blk_cell BK544.out 0).trans rfl
     have hcz37_1 : wr.cell? ⟨gb544, 1, none⟩ = some (.slice none 0 0) := (blk_cell BK544.out 1).trans rfl
     have hfz37_0 := blk_frozen BK544.out 0
     have hfz37_1 := blk_frozen BK544.out 1
     go_wp2
     refine bodyPost_ret (results_list (rs := [.tmp 6, .cell 7 33, .tmp 8]) rfl (by simp) (.tmp (.cell gb544 33 #[.slice none 0 0, .slice none 0 0] (0, 0) _ rfl (by (with_reducible repeat (first | refine blk_drewN ?_ _ | refine blk_drew ?_ | refine blk_alloc ?_ _)); refine blk_put (cs := #[.slice none 0 0, .slice none 0 0]) ?_ 1 _ rfl; (with_reducible repeat (first | refine blk_drewN ?_ _ | refine blk_drew ?_ | refine blk_alloc ?_ _)); refine blk_put (cs := #[.slice none 0 0, .slice none 0 0]) ?_ 0 _ rfl; (with_reducible repeat (first | refine blk_drewN ?_ _ | refine blk_drew ?_ | refine blk_alloc ?_ _)); exact BK544.out) Try.underlying33 rfl (by kernel_rfl) (.tmp .nil)))) rfl ?_
     exact ⟨_, _, by first | rfl | (simp [errW_none, errW_some] <;> rfl) | (simp [*, errW_none, errW_some] <;> rfl), by first | exact Kd.R_nil _ _ _ _ _ | exact Kd.N_nil _ _ _ _ _ | exact Kd.V_nil _ _ _ _ _ | exact Kd.Q_nil _ _ _ _ _ | exact Kd.S_nil _ _ _ _ _, by first | exact Kd.R_nil _ _ _ _ _ | exact Kd.N_nil _ _ _ _ _ | exact Kd.V_nil _ _ _ _ _ | exact Kd.Q_nil _ _ _ _ _ | exact Kd.S_nil _ _ _ _ _, b1 GE544.out⟩

/-! ### laws_szByteS: function 72 -/
def laws_szByteS.f (l0 : List Int) (a1 : Int) : Option (Int) := if (wrap64 (a1 - (l0.length : Int))) < 0 then (some (-1)) else (some (wrap64 (a1 - (l0.length : Int))))
set_option maxHeartbeats 8000000 in
set_option maxRecDepth 100000 in
theorem laws_szByteS.calls (A0 : Option Addr) (c0 : Nat) (l0 : List Int) (a1 : Int) (r : Int) (w : World) (hr0 : Kd.C (Kd.int .u8) w A0 l0.length l0) (hc0 : l0.length ≤ c0) (h : laws_szByteS.f l0 a1 = some r) :
  Calls Try.prog 72 #[.slice A0 l0.length c0, .int .i64 a1] w fun e w' => e = .returned (.int .i64 r) ∧ Drawn0 w w' := by
 have HR0 := Aside0.mk hr0
 have HC0 := Aside0.mk hc0
 clear hr0 hc0
 have H : (if (wrap64 (a1 - (l0.length : Int))) < 0 then (some (-1)) else (some (wrap64 (a1 - (l0.length : Int))))) = some r := h
 clear h
 by_cases c3 : (wrap64 (a1 - (l0.length : Int))) < 0
 ·rw [if_pos c3] at H
  have c3b0 : decide ((wrap64 (a1 - (l0.length : Int))) < 0) = true := decide_eq_true c3
  clear c3
  obtain rfl := Option.some.inj H
  go_enter Try.func72, Try.ntmps72
  go_wp2
  go_ret
  exact ⟨by first | rfl | (simp; done) | (simp [*]; done), by repeat (first | exact Drawn0.refl _ | apply Drawn0.step)⟩
 ·rw [if_neg c3] at H
  have c3b0 : decide ((wrap64 (a1 - (l0.length : Int))) < 0) = false := decide_eq_false c3
  clear c3
  obtain rfl := Option.some.inj H
  go_enter Try.func72, Try.ntmps72
  go_wp2
  go_ret
  exact ⟨by first | rfl | (simp; done) | (simp [*]; done), by repeat (first | exact Drawn0.refl _ | apply Drawn0.step)⟩

/-! ### laws_szByteSS: function 25 -/
def laws_szByteSS.l0 : Nat → List (List Int) → Int → Int → Option (Int)
 | 0, _, _, _ => none
 | k + 1, x0, x1, x5 => if x5 < (x0.length : Int) then (if 0 ≤ x5 then ((laws_szByteS.f (rd_L1 x0 x5) x1).bind fun t556 => (if t556 < 0 then (some (-1)) else (laws_szByteSS.l0 k x0 t556 (wrap64 (x5 + 1))))) else (none)) else (some x1)
def laws_szByteSS.f (k : Nat) (l0 : List (List Int)) (a1 : Int) : Option (Int) := if (wrap64 (a1 - (l0.length : Int))) < 0 then (some (-1)) else (laws_szByteSS.l0 k l0 (wrap64 (a1 - (l0.length : Int))) 0)
set_option maxHeartbeats 8000000 in
set_option maxRecDepth 100000 in
theorem laws_szByteSS.calls (k : Nat) (A0 : Option Addr) (c0 : Nat) (l0 : List (List Int)) (a1 : Int) (r : Int) (w : World) (hr0 : Kd.C (Kd.slice 5 (Kd.int .u8)) w A0 l0.length l0) (hc0 : l0.length ≤ c0) (h : laws_szByteSS.f k l0 a1 = some r) :
  Calls Try.prog 25 #[.slice A0 l0.length c0, .int .i64 a1] w fun e w' => e = .returned (.int .i64 r) ∧ Drawn0 w w' := by
 have HR0 := Aside0.mk hr0
 have HC0 := Aside0.mk hc0
 clear hr0 hc0
 have H : (if (wrap64 (a1 - (l0.length : Int))) < 0 then (some (-1)) else (laws_szByteSS.l0 k l0 (wrap64 (a1 - (l0.length : Int))) 0)) = some r := h
 clear h
 by_cases c3 : (wrap64 (a1 - (l0.length : Int))) < 0
 ·rw [if_pos c3] at H
  have c3b0 : decide ((wrap64 (a1 - (l0.length : Int))) < 0) = true := decide_eq_true c3
  clear c3
  obtain rfl := Option.some.inj H
  go_enter Try.func25, Try.ntmps25
  go_wp2
  go_ret
  exact ⟨by first | rfl | (simp; done) | (simp [*]; done), by repeat (first | exact Drawn0.refl _ | apply Drawn0.step)⟩
 ·rw [if_neg c3] at H
  have c3b0 : decide ((wrap64 (a1 - (l0.length : Int))) < 0) = false := decide_eq_false c3
  clear c3
  have H' := Aside0.mk H
  clear H
  go_enter Try.func25, Try.ntmps25
  go_wp2
  go_loopg [1, 5] k (fun kq v1 v5 w' => ∃ (x1_1 : Int) (x5_1 : Int), v1 = .int .i64 x1_1 ∧ v5 = .int .i64 x5_1 ∧ Aside0 (laws_szByteSS.l0 kq l0 x1_1 x5_1 = some r) ∧ Aside0 (kq ≤ k) ∧ Drawn0 w w')
  case atStart => exact ⟨(wrap64 (a1 - (l0.length : Int))), (0), (by first | rfl | (simp; done) | (simp [*]; done)), (by first | rfl | (simp; done) | (simp [*]; done)), H', ⟨Nat.le_refl _⟩, by repeat (first | exact Drawn0.refl _ | apply Drawn0.step)⟩
  case round =>
   clear H'
   try clear c2
   try clear p2
   try clear c3
   try clear c3b0
   obtain ⟨x1_1, x5_1, rfl, rfl, HA, HK1, ⟨m1, rfl⟩⟩ := hrel
   cases gk with
   | zero => exact absurd HA.out (by simp [laws_szByteSS.l0])
   | succ k1 =>
    have H := HA.out
    clear HA
    simp only [laws_szByteSS.l0] at H
    by_cases c4 : x5_1 < (l0.length : Int)
    ·rw [if_pos c4] at H
     have c4b0 : decide (x5_1 < (l0.length : Int)) = true := decide_eq_true c4
     clear c4
     by_cases c5 : 0 ≤ x5_1
     ·rw [if_pos c5] at H
      have c5b0 : decide (0 ≤ x5_1) = true := decide_eq_true c5
      clear c5
      replace H := Option.bind_eq_some_iff.mp H
      obtain ⟨t556, A60, H⟩ := H
      (try dsimp -simprocs only at H)
      have A6 := Aside0.mk A60
      clear A60
      by_cases c7 : t556 < 0
      ·rw [if_pos c7] at H
       have c7b0 : decide (t556 < 0) = true := decide_eq_true c7
       clear c7
       obtain rfl := Option.some.inj H
       have p555 : 0 ≤ (x5_1 : Int) := of_decide_eq_true asm
       have q555 : x5_1 < (l0.length : Int) := of_decide_eq_true asm
       obtain ⟨ad555, A555_0, c555_0, e555, hx555_0, hl555_0, hi555_0⟩ := at_L1 HR0.out x5_1 p555 q555
       cases e555
       have HR555_0 := Aside0.mk hi555_0
       have HC555_0 := Aside0.mk hl555_0
       clear hi555_0 hl555_0
       replace p555 := eq_true p555
       replace q555 := eq_true q555
       go_wp2_with (first | ((with_reducible refine gate_callee (f := 72) rfl ?_); refine goesL_ (some 23) rfl rfl Try.func72 (by kernel_rfl) rfl #[.slice A555_0 (rd_L1 l0 x5_1).length c555_0, .int .i64 x1_1] rfl av ?_; (with_reducible refine (laws_szByteS.calls _ _ (rd_L1 l0 x5_1) x1_1 t556 _ ?side1 ?side2 A6.out).mono ?_); (case side1 => exact cv (HR555_0.out)); (case side2 => exact HC555_0.out); rintro e w' ⟨rfl, ⟨nd, rfl⟩⟩; refine ⟨_, rfl, ?_⟩))
       go_ret
       exact ⟨by first | rfl | (simp; done) | (simp [*]; done), by repeat (first | exact Drawn0.refl _ | apply Drawn0.step)⟩
      ·rw [if_neg c7] at H
       have c7b0 : decide (t556 < 0) = false := decide_eq_false c7
       clear c7
       have H' := Aside0.mk H
       clear H
       have p555 : 0 ≤ (x5_1 : Int) := of_decide_eq_true asm
       have q555 : x5_1 < (l0.length : Int) := of_decide_eq_true asm
       obtain ⟨ad555, A555_0, c555_0, e555, hx555_0, hl555_0, hi555_0⟩ := at_L1 HR0.out x5_1 p555 q555
       cases e555
       have HR555_0 := Aside0.mk hi555_0
       have HC555_0 := Aside0.mk hl555_0
       clear hi555_0 hl555_0
       replace p555 := eq_true p555
       replace q555 := eq_true q555
       go_wp2_with (first | ((with_reducible refine gate_callee (f := 72) rfl ?_); refine goesL_ (some 23) rfl rfl Try.func72 (by kernel_rfl) rfl #[.slice A555_0 (rd_L1 l0 x5_1).length c555_0, .int .i64 x1_1] rfl av ?_; (with_reducible refine (laws_szByteS.calls _ _ (rd_L1 l0 x5_1) x1_1 t556 _ ?side1 ?side2 A6.out).mono ?_); (case side1 => exact cv (HR555_0.out)); (case side2 => exact HC555_0.out); rintro e w' ⟨rfl, ⟨nd, rfl⟩⟩; refine ⟨_, rfl, ?_⟩))
       go_roundg k1
       case measure => have := HK1.out; omega
       case rel => exact ⟨(t556), (wrap64 (x5_1 + 1)), (by first | rfl | (simp; done) | (simp [*]; done)), (by first | rfl | (simp; done) | (simp [*]; done)), H', ⟨by have := HK1.out; omega⟩, by repeat (first | exact Drawn0.refl _ | apply Drawn0.step)⟩
     ·rw [if_neg c5] at H
      exact absurd H (by simp)
    ·rw [if_neg c4] at H
     have c4b0 : decide (x5_1 < (l0.length : Int)) = false := decide_eq_false c4
     clear c4
     obtain rfl := Option.some.inj H
     go_wp2
     go_ret
     exact ⟨by first | rfl | (simp; done) | (simp [*]; done), by repeat (first | exact Drawn0.refl _ | apply Drawn0.step)⟩

/-! ### laws_toByteS: function 78 -/
def laws_toByteS.l0 : Nat → List Int → List Int → Int → Option (List Int)
 | 0, _, _, _ => none
 | k + 1, x0, x3, x4 => if x4 < (x0.length : Int) then (if 0 ≤ x4 then (if x4 < (x3.length : Int) then (laws_toByteS.l0 k x0 (x3.set (x4 : Int).toNat (rd x0 x4)) (wrap64 (x4 + 1))) else (none)) else (none)) else (some x3)
def laws_toByteS.f (k : Nat) (l0 : List Int) : Option (List Int) := if 0 ≤ (l0.length : Int) then (if ((l0.length : Int) : Int).toNat ≤ 281474976710656 then (laws_toByteS.l0 k l0 (List.replicate ((l0.length : Int) : Int).toNat 0) 0) else (none)) else (none)
set_option maxHeartbeats 8000000 in
set_option maxRecDepth 100000 in
theorem laws_toByteS.calls (k : Nat) (A0 : Option Addr) (c0 : Nat) (l0 : List Int) (r : List Int) (w : World) (hr0 : Kd.C (Kd.int .u8) w A0 l0.length l0) (hc0 : l0.length ≤ c0) (h : laws_toByteS.f k l0 = some r) :
  Calls Try.prog 78 #[.slice A0 l0.length c0] w fun e w' => ∃ v0_ : Value, e = .returned (v0_) ∧ Kd.R (Kd.int .u8) 5 w' w.heap.size (fun _ => True) v0_ r ∧ Below w.heap.size w w' := by
 have HR0 := Aside0.mk hr0
 have HC0 := Aside0.mk hc0
 clear hr0 hc0
 have HB := Aside0.mk (Below.refl w.heap.size w)
 have H : (if 0 ≤ (l0.length : Int) then (if ((l0.length : Int) : Int).toNat ≤ 281474976710656 then (laws_toByteS.l0 k l0 (List.replicate ((l0.length : Int) : Int).toNat 0) 0) else (none)) else (none)) = some r := h
 clear h
 by_cases c2 : 0 ≤ (l0.length : Int)
 ·rw [if_pos c2] at H
  have c2b0 := eq_true c2
  have c2b1 : decide (0 ≤ (l0.length : Int)) = true := decide_eq_true c2
  clear c2
  by_cases c3 : ((l0.length : Int) : Int).toNat ≤ 281474976710656
  ·rw [if_pos c3] at H
   have c3b0 := eq_true c3
   have c3b1 : decide (((l0.length : Int) : Int).toNat ≤ 281474976710656) = true := decide_eq_true c3
   clear c3
   obtain ⟨y557, hy557⟩ : ∃ y_ : List Int, y_ = (List.replicate ((l0.length : Int) : Int).toNat 0) := ⟨_, rfl⟩
   replace H : (laws_toByteS.l0 k l0 y557 0) = some r := by first | (rw [hy557]; exact H) | exact H
   have Ny557 := Aside0.mk hy557
   clear hy557
   have H' := Aside0.mk H
   clear H
   go_enter Try.func78, Try.ntmps78
   go_wp2_with (first | ((with_reducible refine gate_dst (N := 7) rfl ?_); refine Kd.R_make (Kd.int .u8) _ 5 rfl (N := 7) rfl 22 _ _ rfl (l0.length : Int) rfl rfl Try.underlying22 (.int .u8 0) 1 info5 rfl (by decide) (by omega) 0 (ok := fun _ => True) (okp := fun _ => True) rfl (fun _ hk => hk) trivial (of_decide_eq_true asm) (Nat.le_trans (Nat.mul_le_mul_right _ (of_decide_eq_true asm : (l0.length : Int).toNat ≤ 281474976710656)) (by omega)) (Below.refl _ _) (Nat.le_refl _) ?_; intro v558 w4 ho5 hb hg_ hnew_; clear hg_ hnew_; (first | rw [← Ny557.out] at ho5 | (simp only [Int.reduceToNat] at ho5; rw [← Ny557.out] at ho5)); have HO559 := Aside0.mk (Kd.R_lower ho5 (below_size (bt))); replace HB := Aside0.mk (below_step (bt) hb); clear hb ho5))
   go_loopg [4] k (fun kq v4 w' => ∃ (x3_1 : List Int) (x4_1 : Int), v4 = .int .i64 x4_1 ∧ Aside0 (laws_toByteS.l0 kq l0 x3_1 x4_1 = some r) ∧ Aside0 (kq ≤ k) ∧ Aside0 (Kd.R (Kd.int .u8) 5 w' w.heap.size (fun _ => True) v558 x3_1) ∧ Aside0 (Below w.heap.size w w'))
   case atStart => exact ⟨(y557), (0), (by first | rfl | (simp; done) | (simp [*]; done)), H', ⟨Nat.le_refl _⟩, ⟨mv HO559.out⟩, ⟨bt⟩⟩
   case round =>
    clear H'
    try clear c2
    try clear c2b0
    try clear c2b1
    try clear p2
    try clear c3
    try clear c3b0
    try clear c3b1
    obtain ⟨x3_1, x4_1, rfl, HA, HK1, HO_3, HB⟩ := hrel
    cases gk with
    | zero => exact absurd HA.out (by simp [laws_toByteS.l0])
    | succ k1 =>
     have H := HA.out
     clear HA
     simp only [laws_toByteS.l0] at H
     by_cases c6 : x4_1 < (l0.length : Int)
     ·rw [if_pos c6] at H
      have c6b0 : decide (x4_1 < (l0.length : Int)) = true := decide_eq_true c6
      clear c6
      by_cases c7 : 0 ≤ x4_1
      ·rw [if_pos c7] at H
       have c7b0 : decide (0 ≤ x4_1) = true := decide_eq_true c7
       clear c7
       by_cases c8 : x4_1 < (x3_1.length : Int)
       ·rw [if_pos c8] at H
        have c8b0 : decide (x4_1 < (x3_1.length : Int)) = true := decide_eq_true c8
        clear c8
        obtain ⟨y561, hy561⟩ : ∃ y_ : List Int, y_ = (x3_1.set (x4_1 : Int).toNat (rd l0 x4_1)) := ⟨_, rfl⟩
        replace H : (laws_toByteS.l0 k1 l0 y561 (wrap64 (x4_1 + 1))) = some r := by first | (rw [hy561]; exact H) | exact H
        have Ny561 := Aside0.mk hy561
        clear hy561
        have H' := Aside0.mk H
        clear H
        have p560 : 0 ≤ (x4_1 : Int) := of_decide_eq_true asm
        have q560 : x4_1 < (l0.length : Int) := of_decide_eq_true asm
        obtain ⟨ad560, e560, hx560_0⟩ := Kd.at_int HR0.out x4_1 p560 q560
        cases e560
        replace hx560_0 := (HB.out.cell (World.block_lt_of_cell? w _ hx560_0)).trans hx560_0
        replace p560 := eq_true p560
        replace q560 := eq_true q560
        have p9 : 0 ≤ (x4_1 : Int) := of_decide_eq_true asm
        have q9 : (x4_1 : Int) < ((x3_1.length : Int) : Int) := of_decide_eq_true asm
        obtain ⟨go9, co9, eo9, gb9, gl9, cl9, HG9⟩ := Kd.R_form HO_3.out (by omega)
        (first | cases eo9 | (injection eo9 with ea_ en_ ec_; (first | subst ea_ | (injection ea_ with ea_; subst ea_)); subst ec_; clear en_))
        have GB9 := Aside0.mk gb9
        have GG9 := Aside0.mk HG9
        clear gb9 gl9 HG9
        obtain ⟨hx9_0, hf9_0⟩ := Kd.R_celln 0 HO_3.out (x4_1 : Int) p9 q9
        replace p9 := eq_true p9
        replace q9 := eq_true q9
        have HP10 := Kd.R_putg HO_3.out (x4_1 : Int) (rd l0 x4_1)
        go_wp2_with (first | ((with_reducible refine gate_store (t := 5) (p := 20) rfl ?_); refine store_event (t := 5) (p := 20) (v := ?vo_w11) (w1 := (wr.setCell ⟨go9, (x4_1 : Int).toNat, none⟩ (.int .u8 (rd l0 x4_1)))) ?hg ?ho ?hn ?hr ?_; (case ho => rfl); (case hg => rfl); (case hn => rfl); (case hr => first | (go_simp; done) | (go_simp; rfl)); intro w11 hw; have hg : wr.grownBy w11 (some go9) := (by rw [hw]; exact HP10.2); have hp_ : Kd.R (Kd.int .u8) 5 w11 w.heap.size (fun _ => True) (.slice (some ⟨go9, 0, none⟩) x3_1.length co9) y561 := (by rw [hw, Ny561.out]; exact HP10.1); clear HP10; replace HO_3 := Aside0.mk (hp_); replace HB := Aside0.mk ((by rw [hw]; exact below_set (HB.out) GB9.out : Below w.heap.size w w11)); clear hg hw hp_))
        go_roundg k1
        case measure => have := HK1.out; omega
        case rel => exact ⟨(y561), (wrap64 (x4_1 + 1)), (by first | rfl | (simp; done) | (simp [*]; done)), H', ⟨by have := HK1.out; omega⟩, ⟨mv HO_3.out⟩, ⟨bt⟩⟩
       ·rw [if_neg c8] at H
        exact absurd H (by simp)
      ·rw [if_neg c7] at H
       exact absurd H (by simp)
     ·rw [if_neg c6] at H
      have c6b0 : decide (x4_1 < (l0.length : Int)) = false := decide_eq_false c6
      clear c6
      obtain rfl := Option.some.inj H
      go_wp2
      go_ret
      exact ⟨_, by first | rfl | (simp [errW_none, errW_some] <;> rfl) | (simp [*, errW_none, errW_some] <;> rfl), by (with_reducible repeat (first | apply Kd.R_alloc | apply Kd.R_drewN | apply Kd.R_drew)); exact HO_3.out, bt⟩
  ·rw [if_neg c3] at H
   exact absurd H (by simp)
 ·rw [if_neg c2] at H
  exact absurd H (by simp)

/-! ### laws_toByteSS: function 27 -/
def laws_toByteSS.l0 : Nat → List (List Int) → List (List Int) → Int → Option ((List (List Int)))
 | 0, _, _, _ => none
 | k + 1, x0, x3, x4 => if x4 < (x0.length : Int) then (if 0 ≤ x4 then ((laws_toByteS.f k (rd_L1 x0 x4)).bind fun t566 => (if x4 < (x3.length : Int) then (laws_toByteSS.l0 k x0 (x3.set (x4 : Int).toNat t566) (wrap64 (x4 + 1))) else (none))) else (none)) else (some x3)
def laws_toByteSS.f (k : Nat) (l0 : List (List Int)) : Option ((List (List Int))) := if 0 ≤ (l0.length : Int) then (if ((l0.length : Int) : Int).toNat ≤ 11728124029610 then (laws_toByteSS.l0 k l0 (List.replicate ((l0.length : Int) : Int).toNat []) 0) else (none)) else (none)
set_option maxHeartbeats 8000000 in
set_option maxRecDepth 100000 in
theorem laws_toByteSS.calls (k : Nat) (A0 : Option Addr) (c0 : Nat) (l0 : List (List Int)) (r : List (List Int)) (w : World) (hr0 : Kd.C (Kd.slice 5 (Kd.int .u8)) w A0 l0.length l0) (hc0 : l0.length ≤ c0) (h : laws_toByteSS.f k l0 = some r) :
  Calls Try.prog 27 #[.slice A0 l0.length c0] w fun e w' => ∃ v0_ : Value, e = .returned (v0_) ∧ Kd.S (Kd.slice 5 (Kd.int .u8)) 22 w' w.heap.size (fun _ => True) v0_ r ∧ Below w.heap.size w w' := by
 have HR0 := Aside0.mk hr0
 have HC0 := Aside0.mk hc0
 clear hr0 hc0
 have HB := Aside0.mk (Below.refl w.heap.size w)
 have H : (if 0 ≤ (l0.length : Int) then (if ((l0.length : Int) : Int).toNat ≤ 11728124029610 then (laws_toByteSS.l0 k l0 (List.replicate ((l0.length : Int) : Int).toNat []) 0) else (none)) else (none)) = some r := h
 clear h
 by_cases c2 : 0 ≤ (l0.length : Int)
 ·rw [if_pos c2] at H
  have c2b0 := eq_true c2
  have c2b1 : decide (0 ≤ (l0.length : Int)) = true := decide_eq_true c2
  clear c2
  by_cases c3 : ((l0.length : Int) : Int).toNat ≤ 11728124029610
  ·rw [if_pos c3] at H
   have c3b0 := eq_true c3
   have c3b1 : decide (((l0.length : Int) : Int).toNat ≤ 11728124029610) = true := decide_eq_true c3
   clear c3
   obtain ⟨y562, hy562⟩ : ∃ y_ : List (List Int), y_ = (List.replicate ((l0.length : Int) : Int).toNat []) := ⟨_, rfl⟩
   replace H : (laws_toByteSS.l0 k l0 y562 0) = some r := by first | (rw [hy562]; exact H) | exact H
   have Ny562 := Aside0.mk hy562
   clear hy562
   have H' := Aside0.mk H
   clear H
   go_enter Try.func27, Try.ntmps27
   go_wp2_with (first | ((with_reducible refine gate_dst (N := 7) rfl ?_); refine Kd.S_make (Kd.slice 5 (Kd.int .u8)) _ 22 rfl (N := 7) rfl 24 _ _ rfl (l0.length : Int) rfl rfl Try.underlying24 (.slice none 0 0) 24 info22 rfl (by decide) (by omega) [] (ok := fun _ => True) (okp := fun _ => True) ⟨_, rfl, Kd.R_nil _ _ _ _ _⟩ (fun _ hk => hk) trivial (of_decide_eq_true asm) (Nat.le_trans (Nat.mul_le_mul_right _ (of_decide_eq_true asm : (l0.length : Int).toNat ≤ 11728124029610)) (by omega)) (Below.refl _ _) (Nat.le_refl _) ?_; intro v563 w4 ho5 hb hg_ hnew_; clear hg_ hnew_; (first | rw [← Ny562.out] at ho5 | (simp only [Int.reduceToNat] at ho5; rw [← Ny562.out] at ho5)); have HO564 := Aside0.mk (Kd.S_lower ho5 (below_size (bt))); replace HB := Aside0.mk (below_step (bt) hb); clear hb ho5))
   go_loopg [4] k (fun kq v4 w' => ∃ (x3_1 : List (List Int)) (x4_1 : Int), v4 = .int .i64 x4_1 ∧ Aside0 (laws_toByteSS.l0 kq l0 x3_1 x4_1 = some r) ∧ Aside0 (kq ≤ k) ∧ Aside0 (Kd.S (Kd.slice 5 (Kd.int .u8)) 22 w' w.heap.size (fun _ => True) v563 x3_1) ∧ Aside0 (Below w.heap.size w w'))
   case atStart => exact ⟨(y562), (0), (by first | rfl | (simp; done) | (simp [*]; done)), H', ⟨Nat.le_refl _⟩, ⟨mv HO564.out⟩, ⟨bt⟩⟩
   case round =>
    clear H'
    try clear c2
    try clear c2b0
    try clear c2b1
    try clear p2
    try clear c3
    try clear c3b0
    try clear c3b1
    obtain ⟨x3_1, x4_1, rfl, HA, HK1, HO_3, HB⟩ := hrel
    cases gk with
    | zero => exact absurd HA.out (by simp [laws_toByteSS.l0])
    | succ k1 =>
     have H := HA.out
     clear HA
     simp only [laws_toByteSS.l0] at H
     by_cases c6 : x4_1 < (l0.length : Int)
     ·rw [if_pos c6] at H
      have c6b0 : decide (x4_1 < (l0.length : Int)) = true := decide_eq_true c6
      clear c6
      by_cases c7 : 0 ≤ x4_1
      ·rw [if_pos c7] at H
       have c7b0 : decide (0 ≤ x4_1) = true := decide_eq_true c7
       clear c7
       replace H := Option.bind_eq_some_iff.mp H
       obtain ⟨t566, A80, H⟩ := H
       (try dsimp -simprocs only at H)
       have A8 := Aside0.mk A80
       clear A80
       by_cases c9 : x4_1 < (x3_1.length : Int)
       ·rw [if_pos c9] at H
        have c9b0 : decide (x4_1 < (x3_1.length : Int)) = true := decide_eq_true c9
        clear c9
        obtain ⟨y569, hy569⟩ : ∃ y_ : List (List Int), y_ = (x3_1.set (x4_1 : Int).toNat t566) := ⟨_, rfl⟩
        replace H : (laws_toByteSS.l0 k1 l0 y569 (wrap64 (x4_1 + 1))) = some r := by first | (rw [hy569]; exact H) | exact H
        have Ny569 := Aside0.mk hy569
        clear hy569
        have H' := Aside0.mk H
        clear H
        have p565 : 0 ≤ (x4_1 : Int) := of_decide_eq_true asm
        have q565 : x4_1 < (l0.length : Int) := of_decide_eq_true asm
        obtain ⟨ad565, A565_0, c565_0, e565, hx565_0, hl565_0, hi565_0⟩ := at_L1 HR0.out x4_1 p565 q565
        cases e565
        replace hx565_0 := (HB.out.cell (World.block_lt_of_cell? w _ hx565_0)).trans hx565_0
        have HR565_0 := Aside0.mk hi565_0
        have HC565_0 := Aside0.mk hl565_0
        clear hi565_0 hl565_0
        replace p565 := eq_true p565
        replace q565 := eq_true q565
        go_wp2_with (first | ((with_reducible refine gate_callee (f := 78) rfl ?_); refine goesL_ (some 20) rfl rfl Try.func78 (by kernel_rfl) rfl #[.slice A565_0 (rd_L1 l0 x4_1).length c565_0] rfl av ?_; (with_reducible refine (laws_toByteS.calls k1 _ _ (rd_L1 l0 x4_1) t566 _ ?side1 ?side2 A8.out).mono ?_); (case side1 => exact cv ((Kd.C_below HR565_0.out HB.out))); (case side2 => exact HC565_0.out); rintro e w11 ⟨v567, rfl, ho0, hb⟩; refine ⟨_, rfl, ?_⟩; replace HO_3 := Aside0.mk (Kd.S_elder' (mv HO_3.out) (Kd.R_base ho0) hb); have HO568 := Aside0.mk (Kd.R_lower ho0 (below_size (bt))); replace HB := Aside0.mk (below_step (bt) hb); (try clear hb); (try clear hb2); (try clear hk); (try clear hi); (try clear ho0); obtain ⟨Ao567, co567, eo567⟩ := Kd.R_slice HO568.out; subst eo567; have p10 : 0 ≤ (x4_1 : Int) := of_decide_eq_true asm; have q10 : (x4_1 : Int) < ((x3_1.length : Int) : Int) := of_decide_eq_true asm; obtain ⟨go10, co10, eo10, gb10, gl10, cl10, HG10⟩ := Kd.S_form HO_3.out (by omega); (first | cases eo10 | (injection eo10 with ea_ en_ ec_; (first | subst ea_ | (injection ea_ with ea_; subst ea_)); subst ec_; clear en_)); have GB10 := Aside0.mk gb10; have GG10 := Aside0.mk HG10; clear gb10 gl10 HG10; obtain ⟨_, ce10, hcl10, hM10, hcc10, hfr10, _, _⟩ := Kd.S_elem HO_3.out [] (x4_1 : Int) p10 q10; obtain ⟨ve10_0, rfl, ge10_0⟩ := hM10; have hx10_0 := hcc10 0 _ rfl; have hf10_0 := hfr10 0; (try simp only [show ((Kd.slice 5 (Kd.int .u8))).sz = 1 from rfl, Nat.mul_one, Nat.add_zero] at hx10_0); (try simp only [show ((Kd.slice 5 (Kd.int .u8))).sz = 1 from rfl, Nat.mul_one, Nat.add_zero] at hf10_0); clear hcl10 hcc10 hfr10; (try clear hM10); replace p10 := eq_true p10; replace q10 := eq_true q10; have n_ := Aside0.mk (Kd.S_mono (ok' := (fun k_ => some k_ ≠ (.slice Ao567 t566.length co567 : Value).ownBlock)) HO_3.out (fun k_ hk => hk.2)); clear HO_3; have HO_3 := n_; clear n_; have HX12 := Aside0.mk (show Kd.S (Kd.slice 5 (Kd.int .u8)) 22 w11 w.heap.size (fun k_ => ((fun _ => True)) k_ ∧ ¬ ((fun k_ => some k_ = (.slice Ao567 t566.length co567 : Value).ownBlock)) k_) (.slice (some ⟨go10, 0, none⟩) x3_1.length co10) x3_1 from (by (with_reducible repeat (first | apply Kd.S_alloc | apply Kd.S_drewN | apply Kd.S_drew)); exact Kd.S_mono HO_3.out (fun k_ hk => ⟨trivial, fun e_ => hk e_⟩))); obtain ⟨oki12, ce12, hcl12, hM12, hcc12, hfr12, hoki12, hH12⟩ := Kd.S_elem HX12.out [] (x4_1 : Int) (of_decide_eq_true asm) (by have h_ : (x4_1 : Int) < ((x3_1.length : Int) : Int) := of_decide_eq_true asm; first | exact h_ | (have e_ := (Kd.S_reads' HO_3.out).1; omega) | simpa using h_); obtain ⟨ve12_0, rfl, ge12_0⟩ := hM12; have HP12 := Kd.S_seg hH12 (of_decide_eq_true asm) (by have h_ : (x4_1 : Int) < ((x3_1.length : Int) : Int) := of_decide_eq_true asm; first | exact h_ | (have e_ := (Kd.S_reads' HO_3.out).1; omega) | simpa using h_) (seg := [(.slice Ao567 t566.length co567)]) (j := 0) (show 1 ≤ 1 from by decide) (x' := t566) (Kd.M_row (Kd.R_mono (Kd.R_tight rfl (Kd.R_mono (ok' := fun k_ => ((fun _ => True)) k_ ∧ k_ ≠ go10) (Kd.R_apart' (HO568.out) (Kd.S_typed HO_3.out) (by decide)) (fun k_ hk => ⟨trivial, fun e_ => (hk.2) (by rw [e_]; rfl)⟩))) (fun _ h_ => Or.inr (h_)))) (fun _ hk => hk) (fun k_ hk_ => ((Kd.R_mono (ok' := fun k_ => ((fun _ => True)) k_ ∧ k_ ≠ go10) (Kd.R_apart' (HO568.out) (Kd.S_typed HO_3.out) (by decide)) (fun k_ hk => ⟨trivial, fun e_ => (hk.2) (by rw [e_]; rfl)⟩))).1 k_ hk_.symm); have hx12_0 := hcc12 0 _ rfl; (try simp only [show ((Kd.slice 5 (Kd.int .u8))).sz = 1 from rfl, Nat.mul_one, Nat.add_zero] at hx12_0); have hf12_0 := hfr12 0; (try simp only [show ((Kd.slice 5 (Kd.int .u8))).sz = 1 from rfl, Nat.mul_one, Nat.add_zero] at hf12_0); clear hcl12 hcc12 hfr12 hoki12 hH12; (try clear hM12); (try simp only [show ((Kd.slice 5 (Kd.int .u8))).sz = 1 from rfl, Nat.mul_one, Nat.add_zero] at HP12)) | ((with_reducible refine gate_store (t := 22) (p := 21) rfl ?_); refine store_event (t := 22) (p := 21) (v := ?vo_w13) (w1 := (w11.setCell ⟨go10, (x4_1 : Int).toNat, none⟩ ((.slice Ao567 t566.length co567)))) ?hg ?ho ?hn ?hr ?_; (case ho => rfl); (case hg => rfl); (case hn => rfl); (case hr => first | (go_simp; done) | (go_simp; rfl)); intro w13 hw; have hg : w11.grownBy w13 (some go10) := (by rw [hw]; exact HP12.2); have hp_ : Kd.S (Kd.slice 5 (Kd.int .u8)) 22 w13 w.heap.size (fun _ => True) (.slice (some ⟨go10, 0, none⟩) x3_1.length co10) y569 := (by rw [hw, Ny569.out]; exact HP12.1); clear HP12; replace HO_3 := Aside0.mk (hp_); replace HB := Aside0.mk ((by rw [hw]; exact below_set (HB.out) GB10.out : Below w.heap.size w w13)); clear HO568; clear hg hw hp_))
        go_roundg k1
        case measure => have := HK1.out; omega
        case rel => exact ⟨(y569), (wrap64 (x4_1 + 1)), (by first | rfl | (simp; done) | (simp [*]; done)), H', ⟨by have := HK1.out; omega⟩, ⟨mv HO_3.out⟩, ⟨bt⟩⟩
       ·rw [if_neg c9] at H
        exact absurd H (by simp)
      ·rw [if_neg c7] at H
       exact absurd H (by simp)
     ·rw [if_neg c6] at H
      have c6b0 : decide (x4_1 < (l0.length : Int)) = false := decide_eq_false c6
      clear c6
      obtain rfl := Option.some.inj H
      go_wp2
      go_ret
      exact ⟨_, by first | rfl | (simp [errW_none, errW_some] <;> rfl) | (simp [*, errW_none, errW_some] <;> rfl), by (with_reducible repeat (first | apply Kd.S_alloc | apply Kd.S_drewN | apply Kd.S_drew)); exact HO_3.out, bt⟩
  ·rw [if_neg c3] at H
   exact absurd H (by simp)
 ·rw [if_neg c2] at H
  exact absurd H (by simp)

/-! ### laws_toIntS: function 85 -/
def laws_toIntS.l0 : Nat → List Int → List Int → Int → Option (List Int)
 | 0, _, _, _ => none
 | k + 1, x0, x3, x4 => if x4 < (x0.length : Int) then (if 0 ≤ x4 then (if x4 < (x3.length : Int) then (laws_toIntS.l0 k x0 (x3.set (x4 : Int).toNat (rd x0 x4)) (wrap64 (x4 + 1))) else (none)) else (none)) else (some x3)
def laws_toIntS.f (k : Nat) (l0 : List Int) : Option (List Int) := if 0 ≤ (l0.length : Int) then (if ((l0.length : Int) : Int).toNat ≤ 35184372088832 then (laws_toIntS.l0 k l0 (List.replicate ((l0.length : Int) : Int).toNat 0) 0) else (none)) else (none)
set_option maxHeartbeats 8000000 in
set_option maxRecDepth 100000 in
theorem laws_toIntS.calls (k : Nat) (A0 : Option Addr) (c0 : Nat) (l0 : List Int) (r : List Int) (w : World) (hr0 : Kd.C (Kd.int .i64) w A0 l0.length l0) (hc0 : l0.length ≤ c0) (h : laws_toIntS.f k l0 = some r) :
  Calls Try.prog 85 #[.slice A0 l0.length c0] w fun e w' => ∃ v0_ : Value, e = .returned (v0_) ∧ Kd.R (Kd.int .i64) 3 w' w.heap.size (fun _ => True) v0_ r ∧ Below w.heap.size w w' := by
 have HR0 := Aside0.mk hr0
 have HC0 := Aside0.mk hc0
 clear hr0 hc0
 have HB := Aside0.mk (Below.refl w.heap.size w)
 have H : (if 0 ≤ (l0.length : Int) then (if ((l0.length : Int) : Int).toNat ≤ 35184372088832 then (laws_toIntS.l0 k l0 (List.replicate ((l0.length : Int) : Int).toNat 0) 0) else (none)) else (none)) = some r := h
 clear h
 by_cases c2 : 0 ≤ (l0.length : Int)
 ·rw [if_pos c2] at H
  have c2b0 := eq_true c2
  have c2b1 : decide (0 ≤ (l0.length : Int)) = true := decide_eq_true c2
  clear c2
  by_cases c3 : ((l0.length : Int) : Int).toNat ≤ 35184372088832
  ·rw [if_pos c3] at H
   have c3b0 := eq_true c3
   have c3b1 : decide (((l0.length : Int) : Int).toNat ≤ 35184372088832) = true := decide_eq_true c3
   clear c3
   obtain ⟨y570, hy570⟩ : ∃ y_ : List Int, y_ = (List.replicate ((l0.length : Int) : Int).toNat 0) := ⟨_, rfl⟩
   replace H : (laws_toIntS.l0 k l0 y570 0) = some r := by first | (rw [hy570]; exact H) | exact H
   have Ny570 := Aside0.mk hy570
   clear hy570
   have H' := Aside0.mk H
   clear H
   go_enter Try.func85, Try.ntmps85
   go_wp2_with (first | ((with_reducible refine gate_dst (N := 7) rfl ?_); refine Kd.R_make (Kd.int .i64) _ 3 rfl (N := 7) rfl 29 _ _ rfl (l0.length : Int) rfl rfl Try.underlying29 (.int .i64 0) 8 info3 rfl (by decide) (by omega) 0 (ok := fun _ => True) (okp := fun _ => True) rfl (fun _ hk => hk) trivial (of_decide_eq_true asm) (Nat.le_trans (Nat.mul_le_mul_right _ (of_decide_eq_true asm : (l0.length : Int).toNat ≤ 35184372088832)) (by omega)) (Below.refl _ _) (Nat.le_refl _) ?_; intro v571 w4 ho5 hb hg_ hnew_; clear hg_ hnew_; (first | rw [← Ny570.out] at ho5 | (simp only [Int.reduceToNat] at ho5; rw [← Ny570.out] at ho5)); have HO572 := Aside0.mk (Kd.R_lower ho5 (below_size (bt))); replace HB := Aside0.mk (below_step (bt) hb); clear hb ho5))
   go_loopg [4] k (fun kq v4 w' => ∃ (x3_1 : List Int) (x4_1 : Int), v4 = .int .i64 x4_1 ∧ Aside0 (laws_toIntS.l0 kq l0 x3_1 x4_1 = some r) ∧ Aside0 (kq ≤ k) ∧ Aside0 (Kd.R (Kd.int .i64) 3 w' w.heap.size (fun _ => True) v571 x3_1) ∧ Aside0 (Below w.heap.size w w'))
   case atStart => exact ⟨(y570), (0), (by first | rfl | (simp; done) | (simp [*]; done)), H', ⟨Nat.le_refl _⟩, ⟨mv HO572.out⟩, ⟨bt⟩⟩
   case round =>
    clear H'
    try clear c2
    try clear c2b0
    try clear c2b1
    try clear p2
    try clear c3
    try clear c3b0
    try clear c3b1
    obtain ⟨x3_1, x4_1, rfl, HA, HK1, HO_3, HB⟩ := hrel
    cases gk with
    | zero => exact absurd HA.out (by simp [laws_toIntS.l0])
    | succ k1 =>
     have H := HA.out
     clear HA
     simp only [laws_toIntS.l0] at H
     by_cases c6 : x4_1 < (l0.length : Int)
     ·rw [if_pos c6] at H
      have c6b0 : decide (x4_1 < (l0.length : Int)) = true := decide_eq_true c6
      clear c6
      by_cases c7 : 0 ≤ x4_1
      ·rw [if_pos c7] at H
       have c7b0 : decide (0 ≤ x4_1) = true := decide_eq_true c7
       clear c7
       by_cases c8 : x4_1 < (x3_1.length : Int)
       ·rw [if_pos c8] at H
        have c8b0 : decide (x4_1 < (x3_1.length : Int)) = true := decide_eq_true c8
        clear c8
        obtain ⟨y574, hy574⟩ : ∃ y_ : List Int, y_ = (x3_1.set (x4_1 : Int).toNat (rd l0 x4_1)) := ⟨_, rfl⟩
        replace H : (laws_toIntS.l0 k1 l0 y574 (wrap64 (x4_1 + 1))) = some r := by first | (rw [hy574]; exact H) | exact H
        have Ny574 := Aside0.mk hy574
        clear hy574
        have H' := Aside0.mk H
        clear H
        have p573 : 0 ≤ (x4_1 : Int) := of_decide_eq_true asm
        have q573 : x4_1 < (l0.length : Int) := of_decide_eq_true asm
        obtain ⟨ad573, e573, hx573_0⟩ := Kd.at_int HR0.out x4_1 p573 q573
        cases e573
        replace hx573_0 := (HB.out.cell (World.block_lt_of_cell? w _ hx573_0)).trans hx573_0
        replace p573 := eq_true p573
        replace q573 := eq_true q573
        have p9 : 0 ≤ (x4_1 : Int) := of_decide_eq_true asm
        have q9 : (x4_1 : Int) < ((x3_1.length : Int) : Int) := of_decide_eq_true asm
        obtain ⟨go9, co9, eo9, gb9, gl9, cl9, HG9⟩ := Kd.R_form HO_3.out (by omega)
        (first | cases eo9 | (injection eo9 with ea_ en_ ec_; (first | subst ea_ | (injection ea_ with ea_; subst ea_)); subst ec_; clear en_))
        have GB9 := Aside0.mk gb9
        have GG9 := Aside0.mk HG9
        clear gb9 gl9 HG9
        obtain ⟨hx9_0, hf9_0⟩ := Kd.R_celln 0 HO_3.out (x4_1 : Int) p9 q9
        replace p9 := eq_true p9
        replace q9 := eq_true q9
        have HP10 := Kd.R_putg HO_3.out (x4_1 : Int) (rd l0 x4_1)
        go_wp2_with (first | ((with_reducible refine gate_store (t := 3) (p := 20) rfl ?_); refine store_event (t := 3) (p := 20) (v := ?vo_w11) (w1 := (wr.setCell ⟨go9, (x4_1 : Int).toNat, none⟩ (.int .i64 (rd l0 x4_1)))) ?hg ?ho ?hn ?hr ?_; (case ho => rfl); (case hg => rfl); (case hn => rfl); (case hr => first | (go_simp; done) | (go_simp; rfl)); intro w11 hw; have hg : wr.grownBy w11 (some go9) := (by rw [hw]; exact HP10.2); have hp_ : Kd.R (Kd.int .i64) 3 w11 w.heap.size (fun _ => True) (.slice (some ⟨go9, 0, none⟩) x3_1.length co9) y574 := (by rw [hw, Ny574.out]; exact HP10.1); clear HP10; replace HO_3 := Aside0.mk (hp_); replace HB := Aside0.mk ((by rw [hw]; exact below_set (HB.out) GB9.out : Below w.heap.size w w11)); clear hg hw hp_))
        go_roundg k1
        case measure => have := HK1.out; omega
        case rel => exact ⟨(y574), (wrap64 (x4_1 + 1)), (by first | rfl | (simp; done) | (simp [*]; done)), H', ⟨by have := HK1.out; omega⟩, ⟨mv HO_3.out⟩, ⟨bt⟩⟩
       ·rw [if_neg c8] at H
        exact absurd H (by simp)
      ·rw [if_neg c7] at H
       exact absurd H (by simp)
     ·rw [if_neg c6] at H
      have c6b0 : decide (x4_1 < (l0.length : Int)) = false := decide_eq_false c6
      clear c6
      obtain rfl := Option.some.inj H
      go_wp2
      go_ret
      exact ⟨_, by first | rfl | (simp [errW_none, errW_some] <;> rfl) | (simp [*, errW_none, errW_some] <;> rfl), by (with_reducible repeat (first | apply Kd.R_alloc | apply Kd.R_drewN | apply Kd.R_drew)); exact HO_3.out, bt⟩
  ·rw [if_neg c3] at H
   exact absurd H (by simp)
 ·rw [if_neg c2] at H
  exact absurd H (by simp)

end Go.Proofs.Ytchjajbkaiefdaa.PFnExactFirstLiar
