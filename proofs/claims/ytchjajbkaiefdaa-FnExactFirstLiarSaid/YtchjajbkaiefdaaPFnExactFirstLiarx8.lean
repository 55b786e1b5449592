-- Written by a program of this workplace (wip/mp.py) out of the translation.
import Derived.Test.YtchjajbkaiefdaaPFnExactFirstLiarx0
import Derived.Test.YtchjajbkaiefdaaPFnExactFirstLiarx7
namespace Go.Proofs.Ytchjajbkaiefdaa.PFnExactFirstLiar
open Go.RowKit Go.Proofs.YtchjajbkaiefdaaW.PrintWords Go.Proofs.YtchjajbkaiefdaaW.PrintLast Go.Proofs.YtchjajbkaiefdaaW.PrintMore Go.Proofs.Ytchjajbkaiefdaa.Slim
attribute [local go_sem] max2_int min2_int max_two min_two max_three min_three max_four min_four   -- for this text's walks alone
set_option linter.unusedVariables false
set_option linter.unusedSimpArgs false

/-! ### spec_FirstLiar: function 47 -/
mutual
def spec_FirstLiar.l0 : Nat → Int → List (List Int) → List (S31) → Int → Option (Int × List Int × List Int × Bool)
 | 0, _, _, _, _ => none
 | k + 1, x0, x1, x2, x9 => if x9 < (x2.length : Int) then (spec_FirstLiar.j1 k x0 x1 x2 x9 (decide ((x2.length : Int) ≤ 60))) else (spec_FirstLiar.j1 k x0 x1 x2 x9 false)
def spec_FirstLiar.j1 : Nat → Int → List (List Int) → List (S31) → Int → Bool → Option (Int × List Int × List Int × Bool)
 | 0, _, _, _, _, _ => none
 | k + 1, x0, x1, x2, x9, x20 => if x20 = true then (if 0 ≤ x9 then (if x9 < (x2.length : Int) then ((spec_Liar.f k x0 x1 ((rd_T31 x2 x9).f0) ((rd_T31 x2 x9).f1) ((rd_T31 x2 x9).f2) ((rd_T31 x2 x9).f3)).bind fun bt317 => (if bt317.2.2 = true then (some (x9, bt317.1, bt317.2.1, true)) else (spec_FirstLiar.l0 k x0 x1 x2 (wrap64 (x9 + 1))))) else (none)) else (none)) else (some ((-1), ([] : List Int), ([] : List Int), false))
end
def spec_FirstLiar.f (k : Nat) (a0 : Int) (l1 : List (List Int)) (l2 : List (S31)) : Option (Int × List Int × List Int × Bool) := spec_FirstLiar.l0 k a0 l1 l2 0
set_option maxHeartbeats 8000000 in
set_option maxRecDepth 100000 in
theorem spec_FirstLiar.calls (k : Nat) (a0 : Int) (A1 : Option Addr) (c1 : Nat) (l1 : List (List Int)) (A2 : Option Addr) (c2 : Nat) (l2 : List (S31)) (r1 : Int) (r2 : List Int) (r3 : List Int) (r4 : Bool) (w : World) (hr1 : Kd.C (Kd.slice 5 (Kd.int .u8)) w A1 l1.length l1) (hc1 : l1.length ≤ c1) (hr2 : Kd.C k31 w A2 l2.length l2) (hc2 : l2.length ≤ c2) (h : spec_FirstLiar.f k a0 l1 l2 = some (r1, r2, r3, r4)) :
  Calls Try.prog 47 #[.int .i64 a0, .slice A1 l1.length c1, .slice A2 l2.length c2] w fun e w' => ∃ v1_ v2_ : Value, e = .returned (.tuple #[.int .i64 r1, .agg #[v1_, v2_], .bool r4]) ∧ Kd.V (Kd.int .u8) 5 w' w.heap.size (fun k_ => (w.heap.size ≤ k_)) v1_ r2 ∧ Kd.V (Kd.int .u8) 5 w' w.heap.size (fun k_ => (w.heap.size ≤ k_)) v2_ r3 ∧ Below w.heap.size w w' := by
 have hu33 := Try.underlying33
 have hu31 := Try.underlying31
 have HR1 := Aside0.mk hr1
 have HC1 := Aside0.mk hc1
 clear hr1 hc1
 have HR2 := Aside0.mk hr2
 have HC2 := Aside0.mk hc2
 clear hr2 hc2
 have HB := Aside0.mk (Below.refl w.heap.size w)
 have H : (spec_FirstLiar.l0 k a0 l1 l2 0) = some (r1, r2, r3, r4) := h
 clear h
 have H' := Aside0.mk H
 clear H
 go_enter Try.func47, Try.ntmps47
 go_wp2_with (first | ((with_reducible refine gate_dst (N := 7) rfl ?_); (try (refine gate_guard (by rfl) ?_; dsimp only)); refine box_event ?hg (N := 7) ?hd (cs := #[.slice none 0 0, .slice none 0 0]) (t := 33) ?hr ?_; (case hd => rfl); (case hg => rfl); (case hr => first | (go_simp; done) | (go_simp; rfl)); intro gb315 hg w4 hbox hb; have BK315 := Aside0.mk (hbox); have GW315 := Aside0.mk ((by rw [hg]; exact (below_size (bt)) : w.heap.size ≤ gb315)); have GE315 := Aside0.mk ((by rw [hg]; exact (below_size (bt)) : w.heap.size ≤ gb315)); replace HB := Aside0.mk (below_step (bt) hb); clear hb hbox hg))
 go_loopg [9] k (fun kq v9 w' => ∃ (x9_1 : Int), v9 = .int .i64 x9_1 ∧ Aside0 (spec_FirstLiar.l0 kq a0 l1 l2 x9_1 = some (r1, r2, r3, r4)) ∧ Aside0 (kq ≤ k) ∧ Aside0 (w'.heap[gb315]? = some (.cells #[(.slice none 0 0), (.slice none 0 0)] 33 (0, 0))) ∧ Aside0 (Below w.heap.size w w'))
 case atStart => exact ⟨(0), (by first | rfl | (simp; done) | (simp [*]; done)), H', ⟨Nat.le_refl _⟩, ⟨mb BK315.out⟩, ⟨b1 GE315.out⟩⟩
 case round =>
  clear H'
  try clear c1
  try clear c2
  try clear p2
  try clear c4
  obtain ⟨x9_1, rfl, HA, HK1, BK315, HB⟩ := hrel
  cases gk with
  | zero => exact absurd HA.out (by simp [spec_FirstLiar.l0])
  | succ k1 =>
   have H := HA.out
   clear HA
   simp only [spec_FirstLiar.l0] at H
   have HC5 := Aside0.mk H
   clear H
   go_upto_region 2 with (fail)
   go_cut [20] (fun v20 wc => ∃ (kq : Nat) (x20_4 : Bool), v20 = .bool x20_4 ∧ Aside0 (spec_FirstLiar.j1 kq a0 l1 l2 x9_1 x20_4 = some (r1, r2, r3, r4)) ∧ Aside0 (kq ≤ k1) ∧ Aside0 (wc.heap[gb315]? = some (.cells #[(.slice none 0 0), (.slice none 0 0)] 33 (0, 0))) ∧ Aside0 (Below w.heap.size w wc))
   case first =>
    have H := HC5.out
    clear HC5
    by_cases c6 : x9_1 < (l2.length : Int)
    ·rw [if_pos c6] at H
     have c6b0 : decide (x9_1 < (l2.length : Int)) = true := decide_eq_true c6
     clear c6
     (first | rw [c6b0] | (simp only [i64_w, i32_w]; rw [c6b0]) | skip)
     have H' := Aside0.mk H
     clear H
     go_wp2
     go_meet
     case rel => exact ⟨_, (decide ((l2.length : Int) ≤ 60)), (by first | rfl | (simp; done) | (simp [*]; done)), H', ⟨by have := HK1.out; first | omega | exact Nat.le_refl _⟩, ⟨mb BK315.out⟩, ⟨b1 GE315.out⟩⟩
    ·rw [if_neg c6] at H
     have c6b0 : decide (x9_1 < (l2.length : Int)) = false := decide_eq_false c6
     clear c6
     (first | rw [c6b0] | (simp only [i64_w, i32_w]; rw [c6b0]) | skip)
     have H' := Aside0.mk H
     clear H
     go_wp2
     go_meet
     case rel => exact ⟨_, (false), (by first | rfl | (simp; done) | (simp [*]; done)), H', ⟨by have := HK1.out; first | omega | exact Nat.le_refl _⟩, ⟨mb BK315.out⟩, ⟨b1 GE315.out⟩⟩
   case rest =>
    clear HC5
    try clear c1
    try clear c2
    try clear p2
    try clear c4
    try clear c6
    try clear c6b0
    try clear p2
    obtain ⟨kq, x20_4, rfl, HA, HJ4, BK315, HB⟩ := hcut
    cases kq with
    | zero => exact absurd HA.out (by simp [spec_FirstLiar.j1])
    | succ kj4 =>
     have H := HA.out
     clear HA
     simp only [spec_FirstLiar.j1] at H
     by_cases c7 : x20_4 = true
     ·subst c7
      rw [if_pos rfl] at H
      by_cases c8 : 0 ≤ x9_1
      ·rw [if_pos c8] at H
       have c8b0 : decide (0 ≤ x9_1) = true := decide_eq_true c8
       clear c8
       by_cases c9 : x9_1 < (l2.length : Int)
       ·rw [if_pos c9] at H
        have c9b0 : decide (x9_1 < (l2.length : Int)) = true := decide_eq_true c9
        clear c9
        replace H := Option.bind_eq_some_iff.mp H
        obtain ⟨⟨t317, t320, t323⟩, A100, H⟩ := H
        (try dsimp -simprocs only at H)
        have A10 := Aside0.mk A100
        clear A100
        by_cases c11 : t323 = true
        ·subst c11
         rw [if_pos rfl] at H
         simp only [Option.some.injEq, Prod.mk.injEq] at H
         obtain ⟨rfl, rfl, rfl, rfl⟩ := H
         have p316 : 0 ≤ (x9_1 : Int) := of_decide_eq_true asm
         have q316 : x9_1 < (l2.length : Int) := of_decide_eq_true asm
         obtain ⟨ad316, A316_2, c316_2, A316_3, c316_3, e316, hx316_0, hx316_1, hx316_2, hx316_3, hl316_2, hi316_2, hl316_3, hi316_3⟩ := at_T31 HR2.out x9_1 p316 q316
         cases e316
         replace hx316_0 := (HB.out.cell (World.block_lt_of_cell? w _ hx316_0)).trans hx316_0
         replace hx316_1 := (HB.out.cell (World.block_lt_of_cell? w _ hx316_1)).trans hx316_1
         replace hx316_2 := (HB.out.cell (World.block_lt_of_cell? w _ hx316_2)).trans hx316_2
         replace hx316_3 := (HB.out.cell (World.block_lt_of_cell? w _ hx316_3)).trans hx316_3
         have HR316_2 := Aside0.mk hi316_2
         have HC316_2 := Aside0.mk hl316_2
         clear hi316_2 hl316_2
         have HR316_3 := Aside0.mk hi316_3
         have HC316_3 := Aside0.mk hl316_3
         clear hi316_3 hl316_3
         replace p316 := eq_true p316
         replace q316 := eq_true q316
         try go_wp2_with (first | ((with_reducible refine gate_callee (f := 34) rfl ?_); refine goesL_ (some 30) rfl rfl Try.func34 (by kernel_rfl) rfl #[.int .i64 a0, .slice A1 l1.length c1, .agg #[.int .i64 ((rd_T31 l2 x9_1).f0), .int .i64 ((rd_T31 l2 x9_1).f1), .slice A316_2 ((rd_T31 l2 x9_1).f2).length c316_2, .slice A316_3 ((rd_T31 l2 x9_1).f3).length c316_3]] rfl av ?_; (with_reducible refine (spec_Liar.calls kj4 a0 _ _ l1 ((rd_T31 l2 x9_1).f0) ((rd_T31 l2 x9_1).f1) _ _ ((rd_T31 l2 x9_1).f2) _ _ ((rd_T31 l2 x9_1).f3) t317 t320 true _ ?side1 ?side2 ?side3 ?side4 ?side5 ?side6 A10.out).mono ?_); (case side1 => exact cv ((Kd.C_below HR1.out HB.out))); (case side2 => exact HC1.out); (case side3 => exact cv ((Kd.C_below HR316_2.out HB.out))); (case side4 => exact HC316_2.out); (case side5 => exact cv ((Kd.C_below HR316_3.out HB.out))); (case side6 => exact HC316_3.out); rintro e w12 ⟨v318, v321, rfl, ho0, ho1, hb⟩; refine ⟨_, rfl, ?_⟩; have HO319 := Aside0.mk (Kd.V_lower (Kd.V_mono (ok' := fun k_ => (w.heap.size ≤ k_) ∧ k_ ≠ gb315) ho0 (fun k_ hk_ => ⟨(Nat.le_trans (below_size (b1 GE315.out)) hk_), (Kd.freshB (g := gb315) (o := .cells #[.slice none 0 0, .slice none 0 0] 33 (0, 0)) (mb BK315.out) k_ hk_)⟩)) (below_size (b1 GE315.out))); have HO322 := Aside0.mk (Kd.V_lower (Kd.V_mono (ok' := fun k_ => (w.heap.size ≤ k_) ∧ k_ ≠ gb315) ho1 (fun k_ hk_ => ⟨(Nat.le_trans (below_size (b1 GE315.out)) hk_), (Kd.freshB (g := gb315) (o := .cells #[.slice none 0 0, .slice none 0 0] 33 (0, 0)) (mb BK315.out) k_ hk_)⟩)) (below_size (b1 GE315.out))); replace BK315 := Aside0.mk (blk_below (g := gb315) (o := .cells #[.slice none 0 0, .slice none 0 0] 33 (0, 0)) (mb BK315.out) hb); replace HB := Aside0.mk (below_step (b1 GE315.out) hb); (try clear hb); (try clear hb2); (try clear hk); (try clear hi); (try clear ho0); (try clear ho1)) | ((with_reducible refine gate_dst (N := 10) rfl ?_); (try (refine gate_guard (by rfl) ?_; dsimp only)); refine box_event ?hg (N := 10) ?hd (cs := #[.slice none 0 0, .slice none 0 0]) (t := 33) ?hr ?_; (case hd => rfl); (case hg => rfl); (case hr => first | (go_simp; done) | (go_simp; rfl)); intro gb324 hg w13 hbox hb; replace HO319 := Aside0.mk (Kd.V_below (Kd.V_elderB (mv HO319.out) gb324 (Nat.le_of_eq hg.symm)) hb); replace HO322 := Aside0.mk (Kd.V_below (Kd.V_elderB (mv HO322.out) gb324 (Nat.le_of_eq hg.symm)) hb); have BK324 := Aside0.mk (hbox); have GW324 := Aside0.mk ((by rw [hg]; exact (below_size (b1 GE315.out)) : w.heap.size ≤ gb324)); have GE324 := Aside0.mk ((by rw [hg]; exact (below_size (b1 GE315.out)) : w.heap.size ≤ gb324)); replace HB := Aside0.mk (below_step (b1 GE315.out) hb); have NB315_324 := Aside0.mk ((by rw [hg]; exact Nat.ne_of_lt (blk_lt (g := gb315) (o := .cells #[.slice none 0 0, .slice none 0 0] 33 (0, 0)) (mb BK315.out)) : gb315 ≠ gb324)); have NB324_315 := Aside0.mk ((by rw [hg]; exact Nat.ne_of_gt (blk_lt (g := gb315) (o := .cells #[.slice none 0 0, .slice none 0 0] 33 (0, 0)) (mb BK315.out)) : gb324 ≠ gb315)); replace BK315 := Aside0.mk (blk_below (g := gb315) (o := .cells #[.slice none 0 0, .slice none 0 0] 33 (0, 0)) (mb BK315.out) hb); clear hb hbox hg; obtain ⟨Ao14, co14, eo14⟩ := Kd.V_slice HO319.out; subst eo14; have hnb15 := NB324_315.out; have hnc15 := NB315_324.out; have hcz16_0 : w13.cell? ⟨gb324, 0, none⟩ = some (.slice none 0 0) := (blk_cell BK324.out 0).trans rfl; have hcz16_1 : w13.cell? ⟨gb324, 1, none⟩ = some (.slice none 0 0) := (blk_cell BK324.out 1).trans rfl; have hfz16_0 := blk_frozen BK324.out 0; have hfz16_1 := blk_frozen BK324.out 1; obtain ⟨Ao17, co17, eo17⟩ := Kd.V_slice HO322.out; subst eo17))
         have n0_ : Aside0 (Kd.V (Kd.int .u8) 5 ((w13.setCell ⟨gb324, 0, none⟩ (.slice Ao14 t317.length co14)).setCell ⟨gb324, 1, none⟩ (.slice Ao17 t320.length co17)) w.heap.size (fun k_ => (w.heap.size ≤ k_) ∧ k_ ≠ gb315 ∧ k_ ≠ gb324) (.slice Ao14 t317.length co14) t317) := ⟨by (with_reducible repeat (first | apply Kd.V_alloc | apply Kd.V_drewN | apply Kd.V_drew)); exact Kd.V_mono (Kd.V_far (p := ⟨gb324, 1, none⟩) (Kd.V_far (p := ⟨gb324, 0, none⟩) (Kd.V_mono HO319.out (fun k_ hk => (⟨hk, hk.2⟩ : _ ∧ k_ ≠ gb324))) (fun _ hk => hk.2) (.slice Ao14 t317.length co14)) (fun _ hk => hk.2) (.slice Ao17 t320.length co17)) (fun _ hk => ⟨hk.1.1.1, ⟨hk.1.1.2, hk.1.2⟩⟩)⟩
         have n1_ : Aside0 (Kd.V (Kd.int .u8) 5 ((w13.setCell ⟨gb324, 0, none⟩ (.slice Ao14 t317.length co14)).setCell ⟨gb324, 1, none⟩ (.slice Ao17 t320.length co17)) w.heap.size (fun k_ => (w.heap.size ≤ k_) ∧ k_ ≠ gb315 ∧ k_ ≠ gb324) (.slice Ao17 t320.length co17) t320) := ⟨by (with_reducible repeat (first | apply Kd.V_alloc | apply Kd.V_drewN | apply Kd.V_drew)); exact Kd.V_mono (Kd.V_far (p := ⟨gb324, 1, none⟩) (Kd.V_far (p := ⟨gb324, 0, none⟩) (Kd.V_mono HO322.out (fun k_ hk => (⟨hk, hk.2⟩ : _ ∧ k_ ≠ gb324))) (fun _ hk => hk.2) (.slice Ao14 t317.length co14)) (fun _ hk => hk.2) (.slice Ao17 t320.length co17)) (fun _ hk => ⟨hk.1.1.1, ⟨hk.1.1.2, hk.1.2⟩⟩)⟩
         have n2_ : Aside0 (((w13.setCell ⟨gb324, 0, none⟩ (.slice Ao14 t317.length co14)).setCell ⟨gb324, 1, none⟩ (.slice Ao17 t320.length co17)).heap[gb315]? = some (.cells #[.slice none 0 0, .slice none 0 0] 33 (0, 0))) := ⟨by (with_reducible repeat (first | refine blk_drewN ?_ _ | refine blk_drew ?_ | refine blk_alloc ?_ _)); refine blk_far ?_ NB315_324.out _; (with_reducible repeat (first | refine blk_drewN ?_ _ | refine blk_drew ?_ | refine blk_alloc ?_ _)); refine blk_far ?_ NB315_324.out _; (with_reducible repeat (first | refine blk_drewN ?_ _ | refine blk_drew ?_ | refine blk_alloc ?_ _)); exact BK315.out⟩
         have n3_ : Aside0 (((w13.setCell ⟨gb324, 0, none⟩ (.slice Ao14 t317.length co14)).setCell ⟨gb324, 1, none⟩ (.slice Ao17 t320.length co17)).heap[gb324]? = some (.cells #[.slice Ao14 t317.length co14, .slice Ao17 t320.length co17] 33 (0, 0))) := ⟨by (with_reducible repeat (first | refine blk_drewN ?_ _ | refine blk_drew ?_ | refine blk_alloc ?_ _)); refine blk_put (cs := #[.slice Ao14 t317.length co14, .slice none 0 0]) ?_ 1 _ rfl; (with_reducible repeat (first | refine blk_drewN ?_ _ | refine blk_drew ?_ | refine blk_alloc ?_ _)); refine blk_put (cs := #[.slice none 0 0, .slice none 0 0]) ?_ 0 _ rfl; (with_reducible repeat (first | refine blk_drewN ?_ _ | refine blk_drew ?_ | refine blk_alloc ?_ _)); exact BK324.out⟩
         have n4_ : Aside0 (Below w.heap.size w ((w13.setCell ⟨gb324, 0, none⟩ (.slice Ao14 t317.length co14)).setCell ⟨gb324, 1, none⟩ (.slice Ao17 t320.length co17))) := ⟨by repeat (first | (with_reducible first | exact HB.out | apply below_alloc | apply pw_below_drewN | apply below_drew1 | refine below_set ?_ GE315.out | refine below_set ?_ GE324.out) | exact HB.out)⟩
         (try clear HO319)
         (try clear HO322)
         (try clear BK315)
         (try clear BK324)
         (try clear HB)
         generalize ((w13.setCell ⟨gb324, 0, none⟩ (.slice Ao14 t317.length co14)).setCell ⟨gb324, 1, none⟩ (.slice Ao17 t320.length co17)) = w18 at n0_ n1_ n2_ n3_ n4_ ⊢
         have HO319 := n0_
         have HO322 := n1_
         have BK315 := n2_
         have BK324 := n3_
         have HB := n4_
         clear n0_ n1_ n2_ n3_ n4_
         have n0_ := Aside0.mk (Kd.V_drew HO319.out)
         have n1_ := Aside0.mk (Kd.V_drew HO322.out)
         have n2_ := Aside0.mk (blk_drew BK315.out)
         have n3_ := Aside0.mk (blk_drew BK324.out)
         have n4_ := Aside0.mk (below_drew1 HB.out)
         clear HO319
         clear HO322
         clear BK315
         clear BK324
         clear HB
         have HO319 := n0_
         have HO322 := n1_
         have BK315 := n2_
         have BK324 := n3_
         have HB := n4_
         clear n0_ n1_ n2_ n3_ n4_
         refine start_ (n := 5) (S := fun w' => w'.cell? ⟨gb324, 0, none⟩ = some (.slice Ao14 t317.length co14) ∧ w'.cell? ⟨gb324, 1, none⟩ = some (.slice Ao17 t320.length co17)) (ds := []) #[false, false, false, false, false] (by kernel_rfl) rfl rfl ⟨(blk_cell BK324.out 0).trans rfl, (blk_cell BK324.out 1).trans rfl⟩ (fun hHeld => ?_)
         generalize w18.drew = w19 at HO319 HO322 BK315 BK324 HB hHeld ⊢
         refine pure_ (i := 0) (N := some 34) (v := ?_) (a' := ?_) #[true, false, false, false, false] rfl rfl (by kernel_rfl) (fun _ _ _ h => h) (Or.inl ⟨by rfl, ?_⟩) ?_ ?_
         rotate_left
         ·intro w'
          go_simp
          with_reducible rfl
         rotate_left
         ·simp only [Act.put, List.setIfInBounds_toArray, List.set_cons_zero, List.set_cons_succ, i64_w, i32_w]
          rfl
         refine pure_ (i := 2) (N := some 6) (v := ?_) (a' := ?_) #[true, false, true, false, false] rfl rfl (by kernel_rfl) (fun _ _ _ h => h) (Or.inl ⟨by rfl, ?_⟩) ?_ ?_
         rotate_left
         ·intro w'
          go_simp
          with_reducible rfl
         rotate_left
         ·simp only [Act.put, List.setIfInBounds_toArray, List.set_cons_zero, List.set_cons_succ, i64_w, i32_w]
          rfl
         refine take_ (i := 1) (N := some 35) (v := ?_) (a' := ?_) #[true, true, true, false, false] rfl rfl (by kernel_rfl) (fun _ _ _ h => h) (Or.inl ⟨by rfl, ?_⟩) hHeld ?_ ?_
         rotate_left
         ·rintro w' ⟨s0, s1⟩
          go_simp
          with_reducible rfl
         rotate_left
         ·simp only [Act.put, List.setIfInBounds_toArray, List.set_cons_zero, List.set_cons_succ, i64_w, i32_w]
          rfl
         refine one_ (i := 3) (N := none) #[true, true, true, true, false] rfl rfl (by kernel_rfl) (by decide) (fun K hK => ?_)
         have hs20 : w19.cell? ⟨gb315, 0, none⟩ = some (.slice none 0 0) := (blk_cell BK315.out 0).trans rfl
         have hfs20 := blk_frozen BK315.out 0
         have hns20_1 := NB324_315.out
         have hms20_1 := NB315_324.out
         have hs21 : w19.cell? ⟨gb315, 1, none⟩ = some (.slice none 0 0) := (blk_cell BK315.out 1).trans rfl
         have hfs21 := blk_frozen BK315.out 1
         have hns21_1 := NB324_315.out
         have hms21_1 := NB315_324.out
         refine skip_ (w1 := ?_) (by rfl) rfl ?_ ?_
         rotate_left
         ·go_simp
          rfl
         refine hK.out _ _ ⟨((cell_far (p := ⟨gb315, _, none⟩) NB324_315.out _).trans (((cell_far (p := ⟨gb315, _, none⟩) NB324_315.out _).trans (hHeld.1)))), ((cell_far (p := ⟨gb315, _, none⟩) NB324_315.out _).trans (((cell_far (p := ⟨gb315, _, none⟩) NB324_315.out _).trans (hHeld.2))))⟩ (fun hHeld => ?_)
         clear hK K
         refine pure_ (i := 4) (N := some 8) (v := ?_) (a' := ?_) #[true, true, true, true, true] rfl rfl (by kernel_rfl) (fun _ _ _ h => h) (Or.inl ⟨by rfl, ?_⟩) ?_ ?_
         rotate_left
         ·intro w'
          go_simp
          with_reducible rfl
         rotate_left
         ·simp only [Act.put, List.setIfInBounds_toArray, List.set_cons_zero, List.set_cons_succ, i64_w, i32_w]
          rfl
         refine done_ (by kernel_rfl) ?_
         try go_wp2
         refine bodyPost_ret (results_list (rs := [.tmp 6, .cell 7 33, .tmp 8]) rfl (by simp) (.tmp (.cell gb315 33 #[.slice Ao14 t317.length co14, .slice Ao17 t320.length co17] (0, 0) _ rfl (by (with_reducible repeat (first | refine blk_drewN ?_ _ | refine blk_drew ?_ | refine blk_alloc ?_ _)); refine blk_put (cs := #[.slice Ao14 t317.length co14, .slice none 0 0]) ?_ 1 _ rfl; (with_reducible repeat (first | refine blk_drewN ?_ _ | refine blk_drew ?_ | refine blk_alloc ?_ _)); refine blk_put (cs := #[.slice none 0 0, .slice none 0 0]) ?_ 0 _ rfl; (with_reducible repeat (first | refine blk_drewN ?_ _ | refine blk_drew ?_ | refine blk_alloc ?_ _)); exact BK315.out) Try.underlying33 rfl (by kernel_rfl) (.tmp .nil)))) rfl ?_
         exact ⟨_, _, by first | rfl | (simp [errW_none, errW_some] <;> rfl) | (simp [*, errW_none, errW_some] <;> rfl), by (with_reducible repeat (first | apply Kd.V_alloc | apply Kd.V_drewN | apply Kd.V_drew)); exact Kd.V_mono (Kd.V_far (p := ⟨gb315, 1, none⟩) (Kd.V_far (p := ⟨gb315, 0, none⟩) (Kd.V_mono HO319.out (fun k_ hk => (⟨hk, hk.2.1⟩ : _ ∧ k_ ≠ gb315))) (fun _ hk => hk.2) (.slice Ao14 t317.length co14)) (fun _ hk => hk.2) (.slice Ao17 t320.length co17)) (fun _ hk => hk.1.1), by (with_reducible repeat (first | apply Kd.V_alloc | apply Kd.V_drewN | apply Kd.V_drew)); exact Kd.V_mono (Kd.V_far (p := ⟨gb315, 1, none⟩) (Kd.V_far (p := ⟨gb315, 0, none⟩) (Kd.V_mono HO322.out (fun k_ hk => (⟨hk, hk.2.1⟩ : _ ∧ k_ ≠ gb315))) (fun _ hk => hk.2) (.slice Ao14 t317.length co14)) (fun _ hk => hk.2) (.slice Ao17 t320.length co17)) (fun _ hk => hk.1.1), by repeat (first | (with_reducible first | exact HB.out | apply below_alloc | apply pw_below_drewN | apply below_drew1 | refine below_set ?_ GE315.out | refine below_set ?_ GE324.out) | exact HB.out)⟩
        ·replace c11 := Bool.eq_false_iff.mpr c11
         subst c11
         rw [if_neg (show ¬ (false = true) by decide)] at H
         have H' := Aside0.mk H
         clear H
         have p316 : 0 ≤ (x9_1 : Int) := of_decide_eq_true asm
         have q316 : x9_1 < (l2.length : Int) := of_decide_eq_true asm
         obtain ⟨ad316, A316_2, c316_2, A316_3, c316_3, e316, hx316_0, hx316_1, hx316_2, hx316_3, hl316_2, hi316_2, hl316_3, hi316_3⟩ := at_T31 HR2.out x9_1 p316 q316
         cases e316
         replace hx316_0 := (HB.out.cell (World.block_lt_of_cell? w _ hx316_0)).trans hx316_0
         replace hx316_1 := (HB.out.cell (World.block_lt_of_cell? w _ hx316_1)).trans hx316_1
         replace hx316_2 := (HB.out.cell (World.block_lt_of_cell? w _ hx316_2)).trans hx316_2
         replace hx316_3 := (HB.out.cell (World.block_lt_of_cell? w _ hx316_3)).trans hx316_3
         have HR316_2 := Aside0.mk hi316_2
         have HC316_2 := Aside0.mk hl316_2
         clear hi316_2 hl316_2
         have HR316_3 := Aside0.mk hi316_3
         have HC316_3 := Aside0.mk hl316_3
         clear hi316_3 hl316_3
         replace p316 := eq_true p316
         replace q316 := eq_true q316
         go_wp2_with (first | ((with_reducible refine gate_callee (f := 34) rfl ?_); refine goesL_ (some 30) rfl rfl Try.func34 (by kernel_rfl) rfl #[.int .i64 a0, .slice A1 l1.length c1, .agg #[.int .i64 ((rd_T31 l2 x9_1).f0), .int .i64 ((rd_T31 l2 x9_1).f1), .slice A316_2 ((rd_T31 l2 x9_1).f2).length c316_2, .slice A316_3 ((rd_T31 l2 x9_1).f3).length c316_3]] rfl av ?_; (with_reducible refine (spec_Liar.calls kj4 a0 _ _ l1 ((rd_T31 l2 x9_1).f0) ((rd_T31 l2 x9_1).f1) _ _ ((rd_T31 l2 x9_1).f2) _ _ ((rd_T31 l2 x9_1).f3) t317 t320 false _ ?side1 ?side2 ?side3 ?side4 ?side5 ?side6 A10.out).mono ?_); (case side1 => exact cv ((Kd.C_below HR1.out HB.out))); (case side2 => exact HC1.out); (case side3 => exact cv ((Kd.C_below HR316_2.out HB.out))); (case side4 => exact HC316_2.out); (case side5 => exact cv ((Kd.C_below HR316_3.out HB.out))); (case side6 => exact HC316_3.out); rintro e w22 ⟨v318, v321, rfl, ho0, ho1, hb⟩; refine ⟨_, rfl, ?_⟩; have HO319 := Aside0.mk (Kd.V_lower (Kd.V_mono (ok' := fun k_ => (w.heap.size ≤ k_) ∧ k_ ≠ gb315) ho0 (fun k_ hk_ => ⟨(Nat.le_trans (below_size (b1 GE315.out)) hk_), (Kd.freshB (g := gb315) (o := .cells #[.slice none 0 0, .slice none 0 0] 33 (0, 0)) (mb BK315.out) k_ hk_)⟩)) (below_size (b1 GE315.out))); have HO322 := Aside0.mk (Kd.V_lower (Kd.V_mono (ok' := fun k_ => (w.heap.size ≤ k_) ∧ k_ ≠ gb315) ho1 (fun k_ hk_ => ⟨(Nat.le_trans (below_size (b1 GE315.out)) hk_), (Kd.freshB (g := gb315) (o := .cells #[.slice none 0 0, .slice none 0 0] 33 (0, 0)) (mb BK315.out) k_ hk_)⟩)) (below_size (b1 GE315.out))); replace BK315 := Aside0.mk (blk_below (g := gb315) (o := .cells #[.slice none 0 0, .slice none 0 0] 33 (0, 0)) (mb BK315.out) hb); replace HB := Aside0.mk (below_step (b1 GE315.out) hb); (try clear hb); (try clear hb2); (try clear hk); (try clear hi); (try clear ho0); (try clear ho1)) | ((with_reducible refine gate_dst (N := 10) rfl ?_); (try (refine gate_guard (by rfl) ?_; dsimp only)); refine box_event ?hg (N := 10) ?hd (cs := #[.slice none 0 0, .slice none 0 0]) (t := 33) ?hr ?_; (case hd => rfl); (case hg => rfl); (case hr => first | (go_simp; done) | (go_simp; rfl)); intro gb324 hg w23 hbox hb; replace HO319 := Aside0.mk (Kd.V_below (Kd.V_elderB (mv HO319.out) gb324 (Nat.le_of_eq hg.symm)) hb); replace HO322 := Aside0.mk (Kd.V_below (Kd.V_elderB (mv HO322.out) gb324 (Nat.le_of_eq hg.symm)) hb); have BK324 := Aside0.mk (hbox); have GW324 := Aside0.mk ((by rw [hg]; exact (below_size (b1 GE315.out)) : w.heap.size ≤ gb324)); have GE324 := Aside0.mk ((by rw [hg]; exact (below_size (b1 GE315.out)) : w.heap.size ≤ gb324)); replace HB := Aside0.mk (below_step (b1 GE315.out) hb); have NB315_324 := Aside0.mk ((by rw [hg]; exact Nat.ne_of_lt (blk_lt (g := gb315) (o := .cells #[.slice none 0 0, .slice none 0 0] 33 (0, 0)) (mb BK315.out)) : gb315 ≠ gb324)); have NB324_315 := Aside0.mk ((by rw [hg]; exact Nat.ne_of_gt (blk_lt (g := gb315) (o := .cells #[.slice none 0 0, .slice none 0 0] 33 (0, 0)) (mb BK315.out)) : gb324 ≠ gb315)); replace BK315 := Aside0.mk (blk_below (g := gb315) (o := .cells #[.slice none 0 0, .slice none 0 0] 33 (0, 0)) (mb BK315.out) hb); clear hb hbox hg; obtain ⟨Ao24, co24, eo24⟩ := Kd.V_slice HO319.out; subst eo24; have hnb25 := NB324_315.out; have hnc25 := NB315_324.out; have hcz26_0 : w23.cell? ⟨gb324, 0, none⟩ = some (.slice none 0 0) := (blk_cell BK324.out 0).trans rfl; have hcz26_1 : w23.cell? ⟨gb324, 1, none⟩ = some (.slice none 0 0) := (blk_cell BK324.out 1).trans rfl; have hfz26_0 := blk_frozen BK324.out 0; have hfz26_1 := blk_frozen BK324.out 1; obtain ⟨Ao27, co27, eo27⟩ := Kd.V_slice HO322.out; subst eo27))
         go_roundg kj4
         case measure => have := HK1.out; have := HJ4.out; omega
         case rel => exact ⟨(wrap64 (x9_1 + 1)), (by first | rfl | (simp; done) | (simp [*]; done)), H', ⟨by have := HK1.out; have := HJ4.out; omega⟩, ⟨by (with_reducible repeat (first | refine blk_drewN ?_ _ | refine blk_drew ?_ | refine blk_alloc ?_ _)); refine blk_far ?_ NB315_324.out _; (with_reducible repeat (first | refine blk_drewN ?_ _ | refine blk_drew ?_ | refine blk_alloc ?_ _)); refine blk_far ?_ NB315_324.out _; (with_reducible repeat (first | refine blk_drewN ?_ _ | refine blk_drew ?_ | refine blk_alloc ?_ _)); exact BK315.out⟩, ⟨by repeat (first | (with_reducible first | exact HB.out | apply below_alloc | apply pw_below_drewN | apply below_drew1 | refine below_set ?_ GE315.out | refine below_set ?_ GE324.out) | exact HB.out)⟩⟩
       ·rw [if_neg c9] at H
        exact absurd H (by simp)
      ·rw [if_neg c8] at H
       exact absurd H (by simp)
     ·replace c7 := Bool.eq_false_iff.mpr c7
      subst c7
      rw [if_neg (show ¬ (false = true) by decide)] at H
      simp only [Option.some.injEq, Prod.mk.injEq] at H
      obtain ⟨rfl, rfl, rfl, rfl⟩ := H
      have hcz28_0 : wc.cell? ⟨gb315, 0, none⟩ = some (.slice none 0 0) := (blk_cell BK315.out 0).trans rfl
      have hcz28_1 : wc.cell? ⟨gb315, 1, none⟩ = some (.slice none 0 0) := (blk_cell BK315.out 1).trans rfl
      have hfz28_0 := blk_frozen BK315.out 0
      have hfz28_1 := blk_frozen BK315.out 1
      go_wp2
      refine bodyPost_ret (results_list (rs := [.tmp 6, .cell 7 33, .tmp 8]) rfl (by simp) (.tmp (.cell gb315 33 #[.slice none 0 0, .slice none 0 0] (0, 0) _ rfl (by (with_reducible repeat (first | refine blk_drewN ?_ _ | refine blk_drew ?_ | refine blk_alloc ?_ _)); refine blk_put (cs := #[.slice none 0 0, .slice none 0 0]) ?_ 1 _ rfl; (with_reducible repeat (first | refine blk_drewN ?_ _ | refine blk_drew ?_ | refine blk_alloc ?_ _)); refine blk_put (cs := #[.slice none 0 0, .slice none 0 0]) ?_ 0 _ rfl; (with_reducible repeat (first | refine blk_drewN ?_ _ | refine blk_drew ?_ | refine blk_alloc ?_ _)); exact BK315.out) Try.underlying33 rfl (by kernel_rfl) (.tmp .nil)))) rfl ?_
      exact ⟨_, _, by first | rfl | (simp [errW_none, errW_some] <;> rfl) | (simp [*, errW_none, errW_some] <;> rfl), Kd.R_V (base := 0) (by first | exact Kd.R_nil _ _ _ _ _ | exact Kd.N_nil _ _ _ _ _ | exact Kd.V_nil _ _ _ _ _ | exact Kd.Q_nil _ _ _ _ _ | exact Kd.S_nil _ _ _ _ _), Kd.R_V (base := 0) (by first | exact Kd.R_nil _ _ _ _ _ | exact Kd.N_nil _ _ _ _ _ | exact Kd.V_nil _ _ _ _ _ | exact Kd.Q_nil _ _ _ _ _ | exact Kd.S_nil _ _ _ _ _), b1 GE315.out⟩

/-! ### impl_in: function 94 -/
def impl_in.f (a0 : Int) (a1 : Int) (a2 : Int) : Option (Bool) := if a0 ≥ a1 then (some (decide (a0 ≤ a2))) else (some false)
set_option maxHeartbeats 8000000 in
set_option maxRecDepth 100000 in
theorem impl_in.calls (a0 : Int) (a1 : Int) (a2 : Int) (r : Bool) (w : World) (h : impl_in.f a0 a1 a2 = some r) :
  Calls Try.prog 94 #[.int .i64 a0, .int .i64 a1, .int .i64 a2] w fun e w' => e = .returned (.bool r) ∧ Drawn0 w w' := by
 have H : (if a0 ≥ a1 then (some (decide (a0 ≤ a2))) else (some false)) = some r := h
 clear h
 by_cases c4 : a0 ≥ a1
 ·rw [if_pos c4] at H
  have c4b0 : decide (a1 ≤ a0) = true := decide_eq_true c4
  clear c4
  obtain rfl := Option.some.inj H
  go_enter Try.func94, Try.ntmps94
  go_wp2
  go_ret
  exact ⟨by first | rfl | (simp; done) | (simp [*]; done), by repeat (first | exact Drawn0.refl _ | apply Drawn0.step)⟩
 ·rw [if_neg c4] at H
  have c4b0 : decide (a1 ≤ a0) = false := decide_eq_false c4
  clear c4
  obtain rfl := Option.some.inj H
  go_enter Try.func94, Try.ntmps94
  go_wp2
  go_ret
  exact ⟨by first | rfl | (simp; done) | (simp [*]; done), by repeat (first | exact Drawn0.refl _ | apply Drawn0.step)⟩

/-! ### impl_bitsOk: function 103 -/
def impl_bitsOk.f (a0 : Int) : Option (Bool) := (impl_in.f a0 2 60).bind fun t325 => (some t325)
set_option maxHeartbeats 8000000 in
set_option maxRecDepth 100000 in
theorem impl_bitsOk.calls (a0 : Int) (r : Bool) (w : World) (h : impl_bitsOk.f a0 = some r) :
  Calls Try.prog 103 #[.int .i64 a0] w fun e w' => e = .returned (.bool r) ∧ Drawn0 w w' := by
 have H : ((impl_in.f a0 2 60).bind fun t325 => (some t325)) = some r := h
 clear h
 replace H := Option.bind_eq_some_iff.mp H
 obtain ⟨t325, A20, H⟩ := H
 (try dsimp -simprocs only at H)
 have A2 := Aside0.mk A20
 clear A20
 obtain rfl := Option.some.inj H
 go_enter Try.func103, Try.ntmps103
 go_wp2_with (first | ((with_reducible refine gate_callee (f := 94) rfl ?_); refine goesL_ (some 4) rfl rfl Try.func94 (by kernel_rfl) rfl #[.int .i64 a0, .int .i64 2, .int .i64 60] rfl av ?_; (with_reducible refine (impl_in.calls a0 2 60 t325 _ A2.out).mono ?_); rintro e w' ⟨rfl, ⟨nd, rfl⟩⟩; refine ⟨_, rfl, ?_⟩))
 go_ret
 exact ⟨by first | rfl | (simp; done) | (simp [*]; done), by repeat (first | exact Drawn0.refl _ | apply Drawn0.step)⟩

/-! ### impl_leavesOk: function 55 -/
def impl_leavesOk.f (a0 : Int) (l1 : List (List Int)) : Option (Bool) := some (decide ((2 ≤ a0 ∧ a0 ≤ 60) ∧ 1 ≤ l1.length ∧ l1.length ≤ 16) && l1.all fun b => decide (b.length < 4000))
theorem rowAt {w : World} {A : Option Addr} {n : Nat} {xs : List (List Int)} (h : Kd.C (Kd.slice 5 (Kd.int .u8)) w A n xs) (k : Nat) (hk : k < n) :
  ∃ ad A0 c0, A = some ad ∧ w.cell? (ad.add k) = some (.slice A0 (xs.getD k []).length c0) ∧ (xs.getD k []).length ≤ c0 ∧ (Kd.int .u8).C w A0 (xs.getD k []).length (xs.getD k []) := by
 obtain ⟨ad, c, e, hl, hK, hc⟩ := ReadsRow.get_ h ([] : List Int) (k : Int) (Int.natCast_nonneg k) (by omega)
 obtain ⟨A0, c0, rfl, h2, h3⟩ := hK
 rw [Int.toNat_natCast] at hc h2 h3
 have h4 := hc 0 _ rfl
 refine ⟨ad, A0, c0, e, ?_, h2, h3⟩
 have e1 : k * (Kd.slice 5 (Kd.int .u8)).sz + 0 = k := Nat.mul_one k
 rw [e1] at h4
 exact h4
set_option maxHeartbeats 4000000 in
theorem long_lit (A : Option Addr) (n c : Nat) (W : World) (hn : n ≤ 9223372036854775807) :
  Calls Try.prog 102 #[.slice A n c] W fun e w' => e = .returned (.bool (decide (4000 ≤ n))) ∧ Drawn0 W w' := by
 by_cases h : 4000 ≤ n
 ·have c0 : decide (4000 ≤ n) = true := decide_eq_true h
  have c1 : decide (4000 ≤ (n : Int)) = true := decide_eq_true (by omega)
  have HH := Aside0.mk c0
  clear h
  go_enter Try.func102, Try.ntmps102
  go_wp2
  go_ret
  exact ⟨by first | rfl | simp [HH.out], Drawn0.refl _⟩
 ·have c0 : decide (4000 ≤ n) = false := decide_eq_false h
  have c1 : decide (4000 ≤ (n : Int)) = false := decide_eq_false (by omega)
  have HH := Aside0.mk c0
  clear h
  go_enter Try.func102, Try.ntmps102
  go_wp2
  go_ret
  exact ⟨by first | rfl | simp [HH.out], Drawn0.refl _⟩
/-- The first row that is long; -1: there is none. -/
def firstLong (l : List (List Int)) (i : Nat) : Int := match l with
 | [] => -1
 | x :: l => if x.length < 4000 then firstLong l (i + 1) else (i : Int)
theorem firstLong_all (l : List (List Int)) : ∀ i : Nat, decide (0 ≤ firstLong l i) = !(l.all fun b => decide (b.length < 4000)) := by
 induction l with
 | nil => intro i; rfl
 | cons x l ih =>
  intro i
  unfold firstLong
  by_cases h : x.length < 4000
  ·rw [if_pos h, ih (i + 1)]; simp [h]
  ·rw [if_neg h]; simp [h]
set_option maxHeartbeats 4000000 in
set_option maxRecDepth 100000 in
theorem long_index (A1 : Option Addr) (c1 : Nat) (l1 : List (List Int)) (w : World) (hr1 : Kd.C (Kd.slice 5 (Kd.int .u8)) w A1 l1.length l1) :
  Calls Try.prog 126 #[.slice A1 l1.length c1, .func (.func 102) #[] #[]] w fun e w' => e = .returned (.int .i64 (firstLong l1 0)) ∧ Drawn0 w w' := by
 have HR := Aside0.mk hr1
 clear hr1
 have eg := enters_of Try.func102 (by kernel_rfl) rfl
 go_enter Try.func126, Try.ntmps126
 go_wp2
 go_loopw [8] (fun i wr => ∃ k : Nat, i = .int .i64 k ∧ Aside0 (k ≤ l1.length) ∧ Aside0 (firstLong (l1.drop k) k = firstLong l1 0) ∧ Drawn0 w wr) (fun i _ => l1.length - (intOf i).toNat)
 case atStart => exact ⟨0, rfl, ⟨Nat.zero_le _⟩, ⟨rfl⟩, Drawn0.refl _⟩
 case round =>
  obtain ⟨k, rfl, HK, HF, ⟨m, rfl⟩⟩ := hrel
  have HM : Aside0 (l1.length ≤ 9223372036854775807) := ⟨HR.out.2.1⟩
  by_cases hlt : k < l1.length
  ·have c0 : decide (k < l1.length) = true := decide_eq_true hlt
   have c1 : decide ((k : Int) < (l1.length : Int)) = true := decide_eq_true (by omega)
   have p1 : 0 ≤ (k : Int) := Int.natCast_nonneg k
   have q1 : (k : Int) < (l1.length : Int) := by omega
   obtain ⟨ad, A0, c2, e1, hx, hle, hC0⟩ := rowAt HR.out k hlt
   cases e1
   have ed : l1.drop k = l1.getD k [] :: l1.drop (k + 1) := by
    rw [List.getD_eq_getElem?_getD, List.getElem?_eq_getElem hlt]
    exact List.drop_eq_getElem_cons hlt
   have HD := Aside0.mk ed
   have HL := Aside0.mk hlt
   have HX := Aside0.mk hC0.2.1
   clear hlt ed hC0 hle
   generalize l1.getD k [] = x at hx HD HX
   generalize hn : x.length = n at hx HX
   have HN := Aside0.mk hn
   clear hn
   go_wp2_with fail
   refine (long_lit A0 n c2 (w.drewN m) HX.out).mono ?_
   rintro e w' ⟨rfl, ⟨nd, rfl⟩⟩
   have b2 : (k : Int) ≤ 9223372036854775806 := by have := HL.out; have := HM.out; omega
   by_cases hv : 4000 ≤ n
   ·have cv : decide (4000 ≤ n) = true := decide_eq_true hv
    have HV := Aside0.mk hv
    clear hv
    go_wp2
    go_ret
    exact ⟨by have h := HF.out; rw [HD.out] at h; have hv := HV.out; have hn := HN.out; simp only [firstLong] at h; rw [if_neg (by omega)] at h; first | (rw [← h]; done) | (rw [← h]; rfl) | simp [← h], by repeat (first | exact Drawn0.refl _ | apply Drawn0.step)⟩
   ·have cv : decide (4000 ≤ n) = false := decide_eq_false hv
    have HV := Aside0.mk hv
    clear hv
    go_wp2
    go_roundw
    case rel => exact ⟨k + 1, by go_num, ⟨HL.out⟩, ⟨by have h := HF.out; rw [HD.out] at h; have hv := HV.out; have hn := HN.out; simp only [firstLong] at h; rw [if_pos (by omega)] at h; exact h⟩, by repeat (first | exact Drawn0.refl _ | apply Drawn0.step)⟩
    case measure => have := HL.out; simp [intOf]; omega
  ·have c0 : decide (k < l1.length) = false := decide_eq_false hlt
   have c1 : decide ((k : Int) < (l1.length : Int)) = false := decide_eq_false (by omega)
   have e : firstLong l1 0 = -1 := by
    have h := HF.out
    rw [List.drop_eq_nil_of_le (by omega)] at h
    exact h.symm
   have HE := Aside0.mk e
   clear hlt e
   go_wp2
   go_ret
   exact ⟨by first | (rw [HE.out]; done) | (rw [HE.out]; rfl), by repeat (first | exact Drawn0.refl _ | apply Drawn0.step)⟩
set_option maxHeartbeats 4000000 in
theorem long_contains (A1 : Option Addr) (c1 : Nat) (l1 : List (List Int)) (w : World) (hr1 : Kd.C (Kd.slice 5 (Kd.int .u8)) w A1 l1.length l1) :
  Calls Try.prog 101 #[.slice A1 l1.length c1, .func (.func 102) #[] #[]] w fun e w' => e = .returned (.bool (!(l1.all fun b => decide (b.length < 4000)))) ∧ Drawn0 w w' := by
 have HI := Aside0.mk (long_index A1 c1 l1 w hr1)
 have HF := Aside0.mk (firstLong_all l1 0)
 clear hr1
 go_enter Try.func101, Try.ntmps101
 go_wp2_with (go_at_call 126; refine HI.out.mono ?_; rintro e w' ⟨rfl, ⟨nd, rfl⟩⟩)
 go_ret
 exact ⟨by first | (rw [← HF.out]; done) | (rw [← HF.out]; rfl), by repeat (first | exact Drawn0.refl _ | apply Drawn0.step)⟩
theorem lbitsOk_eq (a0 : Int) : impl_bitsOk.f a0 = some (decide (2 ≤ a0 ∧ a0 ≤ 60)) := by
 unfold impl_bitsOk.f impl_in.f
 by_cases h : a0 ≥ 2 <;> simp [h]
theorem lin_eq (a b c : Int) : impl_in.f a b c = some (decide (b ≤ a ∧ a ≤ c)) := by
 unfold impl_in.f
 by_cases h : a ≥ b <;> simp [h]
set_option maxHeartbeats 4000000 in
set_option maxRecDepth 100000 in
theorem impl_leavesOk.calls (a0 : Int) (A1 : Option Addr) (c1 : Nat) (l1 : List (List Int)) (r : Bool) (w : World) (hr1 : Kd.C (Kd.slice 5 (Kd.int .u8)) w A1 l1.length l1) (hc1 : l1.length ≤ c1) (h : impl_leavesOk.f a0 l1 = some r) :
  Calls Try.prog 55 #[.int .i64 a0, .slice A1 l1.length c1] w fun e w' => e = .returned (.bool r) ∧ Drawn0 w w' := by
 have hr := Option.some.inj h
 have HL := Aside0.mk (long_contains A1 c1 l1 w hr1)
 clear h hr1
 generalize (l1.all fun b => decide (b.length < 4000)) = q at hr HL
 by_cases h1 : 2 ≤ a0 ∧ a0 ≤ 60
 ·have e1 : impl_bitsOk.f a0 = some true := by rw [lbitsOk_eq]; simp [h1]
  have E1 := Aside0.mk e1
  by_cases h2 : 1 ≤ l1.length ∧ l1.length ≤ 16
  ·have e2 : impl_in.f (l1.length : Int) 1 16 = some true := by rw [lin_eq]; simp; omega
   have E2 := Aside0.mk e2
   have er : r = q := by rw [← hr]; simp [h1, h2]
   subst er
   clear hr e1 e2 h1 h2
   go_enter Try.func55, Try.ntmps55
   go_wp2_with (first | (go_at_call 101; refine HL.out.mono ?_; rintro e w' ⟨rfl, ⟨nd, rfl⟩⟩) | (go_at_call 103; refine (impl_bitsOk.calls a0 true _ E1.out).mono ?_; rintro e w' ⟨rfl, ⟨nd, rfl⟩⟩) | (go_at_call 94; refine (impl_in.calls (l1.length : Int) 1 16 true _ E2.out).mono ?_; rintro e w' ⟨rfl, ⟨nd, rfl⟩⟩))
   go_ret
   exact ⟨by first | rfl | simp, by repeat (first | exact Drawn0.refl _ | apply Drawn0.step)⟩
  ·have e2 : impl_in.f (l1.length : Int) 1 16 = some false := by rw [lin_eq]; simp; omega
   have E2 := Aside0.mk e2
   have er : r = false := by rw [← hr]; simp only [Bool.and_eq_false_imp, decide_eq_true_eq]; intro h; exact absurd h.2 h2
   subst er
   clear hr e1 e2 h1 h2
   go_enter Try.func55, Try.ntmps55
   go_wp2_with (first | (go_at_call 101; refine HL.out.mono ?_; rintro e w' ⟨rfl, ⟨nd, rfl⟩⟩) | (go_at_call 103; refine (impl_bitsOk.calls a0 true _ E1.out).mono ?_; rintro e w' ⟨rfl, ⟨nd, rfl⟩⟩) | (go_at_call 94; refine (impl_in.calls (l1.length : Int) 1 16 false _ E2.out).mono ?_; rintro e w' ⟨rfl, ⟨nd, rfl⟩⟩))
   go_ret
   exact ⟨by first | rfl | simp, by repeat (first | exact Drawn0.refl _ | apply Drawn0.step)⟩
 ·have e1 : impl_bitsOk.f a0 = some false := by rw [lbitsOk_eq]; simp; omega
  have E1 := Aside0.mk e1
  have er : r = false := by rw [← hr]; simp only [Bool.and_eq_false_imp, decide_eq_true_eq]; intro h; exact absurd h.1 h1
  subst er
  clear hr e1 h1
  go_enter Try.func55, Try.ntmps55
  go_wp2_with (first | (go_at_call 101; refine HL.out.mono ?_; rintro e w' ⟨rfl, ⟨nd, rfl⟩⟩) | (go_at_call 103; refine (impl_bitsOk.calls a0 false _ E1.out).mono ?_; rintro e w' ⟨rfl, ⟨nd, rfl⟩⟩))
  go_ret
  exact ⟨by first | rfl | simp, by repeat (first | exact Drawn0.refl _ | apply Drawn0.step)⟩

/-- A state of type 127 at block g of W; what its slices lead to came in by w0. -/
def IsS127 (w0 W : World) (g : Nat) (f0 : Int) (f1 : Int) (f2 : Int) : Prop := W.heap[g]? = some (.cells #[.int .u64 f0, .int .u64 f1, .int .u64 f2] 127 (0, 0)) ∧ w0.heap.size ≤ g
theorem IsS127.grown {w0 W : World} {g : Nat} {f0 : Int} {f1 : Int} {f2 : Int} {W1 : World} {row : Option Nat} (h : IsS127 w0 W g f0 f1 f2) (hw : W.grownBy W1 row) (hne : some g ≠ row) : IsS127 w0 W1 g f0 f1 f2 := by
 obtain ⟨hb, hg⟩ := h
 exact ⟨blk_grown hb hw hne, hg⟩
theorem IsS127.own_neN {w0 W : World} {g : Nat} {f0 : Int} {f1 : Int} {f2 : Int} {α : Type} {d : Kd α} {e : Nat} {base : Nat} {ok : Nat → Prop} {v : Value} {xs : List α} (h : IsS127 w0 W g f0 f1 f2) (ho : Kd.N d e W base ok v xs) (ht : e ≠ 127) : some g ≠ v.ownBlock := by
 obtain ⟨hb, hg⟩ := h
 exact Kd.N_ne ho hb ht
theorem IsS127.fresh {w0 W : World} {g : Nat} {f0 : Int} {f1 : Int} {f2 : Int} (h : IsS127 w0 W g f0 f1 f2) : ∀ k, W.heap.size ≤ k → k ≠ g := by
 obtain ⟨hb, hg⟩ := h
 exact Kd.freshB hb
theorem IsS127.kept {w0 W : World} {g : Nat} {f0 : Int} {f1 : Int} {f2 : Int} {W1 : World} {S : Nat → Prop} (h : IsS127 w0 W g f0 f1 f2) (hk : Kept W W1 S) (hne : ¬ S g) : IsS127 w0 W1 g f0 f1 f2 := by
 obtain ⟨hb, hg⟩ := h
 exact ⟨blk_kept hb hk hne, hg⟩
theorem IsS127.below {w0 W : World} {g : Nat} {f0 : Int} {f1 : Int} {f2 : Int} {W1 : World} (h : IsS127 w0 W g f0 f1 f2) (hw : Below W.heap.size W W1) : IsS127 w0 W1 g f0 f1 f2 := h.grown (grown_of_below hw none) (by simp)
theorem IsS127.alloc {w0 W : World} {g : Nat} {f0 : Int} {f1 : Int} {f2 : Int} (h : IsS127 w0 W g f0 f1 f2) (o : Obj) : IsS127 w0 (W.alloc o) g f0 f1 f2 := h.below (below_alloc (Below.refl _ _) o)
theorem IsS127.drewN {w0 W : World} {g : Nat} {f0 : Int} {f1 : Int} {f2 : Int} (h : IsS127 w0 W g f0 f1 f2) (m : Nat) : IsS127 w0 (W.drewN m) g f0 f1 f2 := h
theorem IsS127.drew {w0 W : World} {g : Nat} {f0 : Int} {f1 : Int} {f2 : Int} (h : IsS127 w0 W g f0 f1 f2) : IsS127 w0 W.drew g f0 f1 f2 := h
theorem IsS127.at_ {w0 W : World} {g : Nat} {f0 : Int} {f1 : Int} {f2 : Int} {w' : World} {m : Nat} (hq : W.drewN m = w') (h : IsS127 w0 W g f0 f1 f2) : IsS127 w0 w' g f0 f1 f2 := by subst hq; exact IsS127.drewN h m
theorem IsS127.apart {w0 W : World} {g : Nat} {f0 : Int} {f1 : Int} {f2 : Int} {α : Type} {d : Kd α} {e : Nat} {base : Nat} {ok : Nat → Prop} {v : Value} {xs : List α} (h : IsS127 w0 W g f0 f1 f2) (ho : d.R e W base ok v xs) (ht : ∀ q, q ∈ e :: d.E → q ≠ 127) : d.R e W base (fun k => ok k ∧ k ≠ g) v xs := by
 obtain ⟨hb, hg⟩ := h
 exact Kd.R_types ho hb ht
theorem IsS127.own_ne {w0 W : World} {g : Nat} {f0 : Int} {f1 : Int} {f2 : Int} {α : Type} {d : Kd α} {e : Nat} {base : Nat} {ok : Nat → Prop} {v : Value} {xs : List α} (h : IsS127 w0 W g f0 f1 f2) (ho : d.R e W base ok v xs) (ht : e ≠ 127) : some g ≠ v.ownBlock := by
 obtain ⟨hb, hg⟩ := h
 exact Kd.R_ne ho hb ht
theorem IsS127.apartQ {w0 W : World} {g : Nat} {f0 : Int} {f1 : Int} {f2 : Int} {α : Type} {d : Kd α} {e : Nat} {base : Nat} {ok : Nat → Prop} {v : Value} {xs : List α} (h : IsS127 w0 W g f0 f1 f2) (ho : d.Q e W base ok v xs) (ht : ∀ q, q ∈ e :: d.E → q ≠ 127) : d.Q e W base (fun k => ok k ∧ k ≠ g) v xs := by
 obtain ⟨hb, hg⟩ := h
 exact Kd.Q_types ho hb ht
theorem IsS127.own_neQ {w0 W : World} {g : Nat} {f0 : Int} {f1 : Int} {f2 : Int} {α : Type} {d : Kd α} {e : Nat} {base : Nat} {ok : Nat → Prop} {v : Value} {xs : List α} (h : IsS127 w0 W g f0 f1 f2) (ho : d.Q e W base ok v xs) (ht : e ≠ 127) : some g ≠ v.ownBlock := by
 obtain ⟨hb, hg⟩ := h
 exact Kd.Q_ne ho hb ht
theorem IsS127.apartS {w0 W : World} {g : Nat} {f0 : Int} {f1 : Int} {f2 : Int} {α : Type} {d : Kd α} {e : Nat} {base : Nat} {ok : Nat → Prop} {v : Value} {xs : List α} (h : IsS127 w0 W g f0 f1 f2) (ho : d.S e W base ok v xs) (ht : ∀ q, q ∈ e :: d.E → q ≠ 127) : d.S e W base (fun k => ok k ∧ k ≠ g) v xs := by
 obtain ⟨hb, hg⟩ := h
 exact Kd.S_types ho hb ht
theorem IsS127.own_neS {w0 W : World} {g : Nat} {f0 : Int} {f1 : Int} {f2 : Int} {α : Type} {d : Kd α} {e : Nat} {base : Nat} {ok : Nat → Prop} {v : Value} {xs : List α} (h : IsS127 w0 W g f0 f1 f2) (ho : d.S e W base ok v xs) (ht : e ≠ 127) : some g ≠ v.ownBlock := by
 obtain ⟨hb, hg⟩ := h
 exact Kd.S_ne ho hb ht
theorem IsS127.lt {w0 W : World} {g : Nat} {f0 : Int} {f1 : Int} {f2 : Int} (h : IsS127 w0 W g f0 f1 f2) : g < W.heap.size := by
 obtain ⟨hb, hg⟩ := h
 exact blk_lt hb
theorem IsS127.ge {w0 W : World} {g : Nat} {f0 : Int} {f1 : Int} {f2 : Int} (h : IsS127 w0 W g f0 f1 f2) : w0.heap.size ≤ g := by
 obtain ⟨hb, hg⟩ := h
 exact hg
theorem IsS127.ne_blk {w0 W : World} {g : Nat} {f0 : Int} {f1 : Int} {f2 : Int} {a : Nat} {cs : Array Value} {t : TypeId} {fr : Nat × Nat} (h : IsS127 w0 W g f0 f1 f2) (hb2 : W.heap[a]? = some (.cells cs t fr)) (ht : t ≠ 127) : g ≠ a := by
 obtain ⟨hb, hg⟩ := h
 rintro rfl
 rw [hb] at hb2
 injection hb2 with hb2
 injection hb2 with _ ht2
 exact ht ht2.symm
theorem IsS127.far {w0 W : World} {g : Nat} {f0 : Int} {f1 : Int} {f2 : Int} {p : Addr} (h : IsS127 w0 W g f0 f1 f2) (hne : g ≠ p.block) (u : Value) : IsS127 w0 (W.setCell p u) g f0 f1 f2 := by
 obtain ⟨hb, hg⟩ := h
 exact ⟨blk_far hb hne u, hg⟩
theorem cellS127_0 {W : World} {g : Nat} {f0 : Int} {f1 : Int} {f2 : Int} (h : W.heap[g]? = some (.cells #[.int .u64 f0, .int .u64 f1, .int .u64 f2] 127 (0, 0))) : W.cell? ⟨g, 0, none⟩ = some (.int .u64 f0) := (blk_cell h 0).trans rfl
theorem IsS127.set_0 {w0 W : World} {g : Nat} {f0 : Int} {f1 : Int} {f2 : Int} (h : IsS127 w0 W g f0 f1 f2) (x : Int) : IsS127 w0 (W.setCell ⟨g, 0, none⟩ (.int .u64 x)) g x f1 f2 := by
 obtain ⟨hb, hg⟩ := h
 exact ⟨by simpa using blk_set hb 0 (.int .u64 x), hg⟩
theorem cellS127_1 {W : World} {g : Nat} {f0 : Int} {f1 : Int} {f2 : Int} (h : W.heap[g]? = some (.cells #[.int .u64 f0, .int .u64 f1, .int .u64 f2] 127 (0, 0))) : W.cell? ⟨g, 1, none⟩ = some (.int .u64 f1) := (blk_cell h 1).trans rfl
theorem IsS127.set_1 {w0 W : World} {g : Nat} {f0 : Int} {f1 : Int} {f2 : Int} (h : IsS127 w0 W g f0 f1 f2) (x : Int) : IsS127 w0 (W.setCell ⟨g, 1, none⟩ (.int .u64 x)) g f0 x f2 := by
 obtain ⟨hb, hg⟩ := h
 exact ⟨by simpa using blk_set hb 1 (.int .u64 x), hg⟩
theorem cellS127_2 {W : World} {g : Nat} {f0 : Int} {f1 : Int} {f2 : Int} (h : W.heap[g]? = some (.cells #[.int .u64 f0, .int .u64 f1, .int .u64 f2] 127 (0, 0))) : W.cell? ⟨g, 2, none⟩ = some (.int .u64 f2) := (blk_cell h 2).trans rfl
theorem IsS127.set_2 {w0 W : World} {g : Nat} {f0 : Int} {f1 : Int} {f2 : Int} (h : IsS127 w0 W g f0 f1 f2) (x : Int) : IsS127 w0 (W.setCell ⟨g, 2, none⟩ (.int .u64 x)) g f0 f1 x := by
 obtain ⟨hb, hg⟩ := h
 exact ⟨by simpa using blk_set hb 2 (.int .u64 x), hg⟩
theorem IsS127.new (w0 W : World) (f0 : Int) (f1 : Int) (f2 : Int) (hB : Below w0.heap.size w0 W) : IsS127 w0 (W.alloc (.cells #[.int .u64 f0, .int .u64 f1, .int .u64 f2] 127)) W.heap.size f0 f1 f2 := ⟨by simpa using heap_alloc_new W _, hB.size⟩

/-! ### impl_state_rounds: function 129 -/
def impl_state_rounds.f (s0_0 s0_1 s0_2 : Int) (a1 : Int) : Option (Int × Int × Int) := if a1 ≤ 9223372036854775807 then some (Dig.rnds a1.toNat (s0_0, s0_1, s0_2)) else none
theorem rot13 (x : Int) (w : World) : Calls Try.prog 146 #[.int .u64 x, .int .i64 13] w fun e w' => e = .returned (.int .u64 (Dig.r13 x)) ∧ w' = w := by
 have hb : Go.bits .and .u64 13 63 = 13 := by decide +kernel
 go_enter Try.func146, Try.ntmps146
 go_wp2
 go_ret
 exact ⟨rfl, rfl⟩
theorem rot29 (x : Int) (w : World) : Calls Try.prog 146 #[.int .u64 x, .int .i64 29] w fun e w' => e = .returned (.int .u64 (Dig.r29 x)) ∧ w' = w := by
 have hb : Go.bits .and .u64 29 63 = 29 := by decide +kernel
 go_enter Try.func146, Try.ntmps146
 go_wp2
 go_ret
 exact ⟨rfl, rfl⟩
theorem rot41 (x : Int) (w : World) : Calls Try.prog 146 #[.int .u64 x, .int .i64 41] w fun e w' => e = .returned (.int .u64 (Dig.r41 x)) ∧ w' = w := by
 have hb : Go.bits .and .u64 41 63 = 41 := by decide +kernel
 go_enter Try.func146, Try.ntmps146
 go_wp2
 go_ret
 exact ⟨rfl, rfl⟩
theorem turn13 (x : Int) (w : World) : Calls Try.prog 141 #[.int .u64 x, .int .i64 13] w fun e w' => e = .returned (.int .u64 (Dig.r13 x)) ∧ w' = w := by
 go_enter Try.func141, Try.ntmps141
 go_wp2_with (go_at_call 146; refine (rot13 _ _).mono ?_; rintro e w' ⟨rfl, rfl⟩)
 go_ret
 exact ⟨rfl, rfl⟩
theorem turn29 (x : Int) (w : World) : Calls Try.prog 141 #[.int .u64 x, .int .i64 29] w fun e w' => e = .returned (.int .u64 (Dig.r29 x)) ∧ w' = w := by
 go_enter Try.func141, Try.ntmps141
 go_wp2_with (go_at_call 146; refine (rot29 _ _).mono ?_; rintro e w' ⟨rfl, rfl⟩)
 go_ret
 exact ⟨rfl, rfl⟩
theorem turn41 (x : Int) (w : World) : Calls Try.prog 141 #[.int .u64 x, .int .i64 41] w fun e w' => e = .returned (.int .u64 (Dig.r41 x)) ∧ w' = w := by
 go_enter Try.func141, Try.ntmps141
 go_wp2_with (go_at_call 146; refine (rot41 _ _).mono ?_; rintro e w' ⟨rfl, rfl⟩)
 go_ret
 exact ⟨rfl, rfl⟩
theorem keep_drew {w w1 : World} {g : Nat} {row : Option Nat} (h : KeepBut w w1 g row) : KeepBut w w1.drew g row := h
theorem lanes_at {w0 W : World} {g : Nat} {a b c : Int} (h : IsS127 w0 W g a b c) :
  W.cell? ⟨g, 0, none⟩ = some (.int .u64 a) ∧ W.cell? ⟨g, 1, none⟩ = some (.int .u64 b) ∧ W.cell? ⟨g, 2, none⟩ = some (.int .u64 c) ∧ ∀ j, W.frozen? ⟨g, j, none⟩ = false := by
 obtain ⟨hh, _⟩ := h
 exact ⟨(blk_cell hh 0).trans rfl, (blk_cell hh 1).trans rfl, (blk_cell hh 2).trans rfl, fun j => by simp [World.frozen?, hh]⟩
set_option maxHeartbeats 4000000 in
set_option maxRecDepth 100000 in
theorem impl_state_rounds.calls (g : Nat) (s0_0 s0_1 s0_2 : Int) (a1 : Int) (r1 r2 r3 : Int) (w0 w : World) (hI : IsS127 w0 w g s0_0 s0_1 s0_2) (hB : Below w0.heap.size w0 w) (h : impl_state_rounds.f s0_0 s0_1 s0_2 a1 = some (r1, r2, r3)) :
  Calls Try.prog 129 #[.pointer (some ⟨g, 0, none⟩), .int .i64 a1] w fun e w' => e = .returned (.tuple #[]) ∧ IsS127 w0 w' g r1 r2 r3 ∧ Below w0.heap.size w0 w' ∧ KeepBut w w' g none := by
 unfold impl_state_rounds.f at h
 by_cases hn : a1 ≤ 9223372036854775807
 ·rw [if_pos hn] at h
  have h := Option.some.inj h
  have HI := Aside0.mk hI
  have HB := Aside0.mk hB
  have HR := Aside0.mk h
  have hm : ((a1.toNat : Nat) : Int) ≤ 9223372036854775807 := by omega
  have HN := Aside0.mk (show ∀ i : Nat, (i : Int) < a1 ↔ i < a1.toNat from fun i => by omega)
  clear hI hB h hn
  go_enter Try.func129, Try.ntmps129
  go_wp2
  go_loopw [5] (fun i wr => ∃ (k : Nat) (a b c : Int), i = .int .i64 k ∧ Aside0 (k ≤ a1.toNat) ∧ Aside0 (Dig.rnds k (s0_0, s0_1, s0_2) = (a, b, c)) ∧ Aside0 (IsS127 w0 wr g a b c) ∧ Aside0 (Below w0.heap.size w0 wr) ∧ Aside0 (KeepBut w wr g none)) (fun i _ => a1.toNat - (intOf i).toNat)
  case atStart => exact ⟨0, s0_0, s0_1, s0_2, rfl, ⟨Nat.zero_le _⟩, ⟨rfl⟩, HI, HB, ⟨KeepBut.refl _ _ _⟩⟩
  case round =>
   obtain ⟨k, a, b, c, rfl, HK, HA, HI1, HB1, HU⟩ := hrel
   by_cases hlt : k < a1.toNat
   ·have c0 : decide ((k : Int) < a1) = true := decide_eq_true ((HN.out k).2 hlt)
    have HL := Aside0.mk hlt
    clear hlt
    obtain ⟨k0, k1, k2, fg⟩ := lanes_at HI1.out
    go_wp2
    go_still_tail 13, (by kernel_rfl)
    still_call (turn13 _ _)
    repeat still_step
    refine wpStill_nil ?_
    change wpList _ _ _ _ _ wr.drew
    have f0 := fg 0
    go_wp2
    clear f0
    change Code.wp _ _ _ _ ((wr.setCell ⟨g, 0, none⟩ (.int .u64 (Dig.rnd0 a b))).drew)
    have HI2 := Aside0.mk (IsS127.drew (IsS127.set_0 HI1.out (Dig.rnd0 a b)))
    have HB2 := Aside0.mk (below_drew (below_set (j := 0) (v := .int .u64 (Dig.rnd0 a b)) HB1.out HI1.out.ge))
    have HU2 := Aside0.mk (keep_drew (KeepBut.set_ HU.out 0 (.int .u64 (Dig.rnd0 a b))))
    generalize (wr.setCell ⟨g, 0, none⟩ (.int .u64 (Dig.rnd0 a b))).drew = w2 at HI2 HB2 HU2 ⊢
    clear k0 k1 k2 fg
    obtain ⟨k0, k1, k2, fg⟩ := lanes_at HI2.out
    go_wp2
    go_still_tail 17, (by kernel_rfl)
    still_call (turn29 _ _)
    repeat still_step
    refine wpStill_nil ?_
    change wpList _ _ _ _ _ w2.drew
    have f1 := fg 1
    go_wp2
    clear f1
    change Code.wp _ _ _ _ ((w2.setCell ⟨g, 1, none⟩ (.int .u64 (Dig.rnd1 b c (Dig.rnd0 a b)))).drew)
    have HI3 := Aside0.mk (IsS127.drew (IsS127.set_1 HI2.out (Dig.rnd1 b c (Dig.rnd0 a b))))
    have HB3 := Aside0.mk (below_drew (below_set (j := 1) (v := .int .u64 (Dig.rnd1 b c (Dig.rnd0 a b))) HB2.out HI2.out.ge))
    have HU3 := Aside0.mk (keep_drew (KeepBut.set_ HU2.out 1 (.int .u64 (Dig.rnd1 b c (Dig.rnd0 a b)))))
    generalize (w2.setCell ⟨g, 1, none⟩ (.int .u64 (Dig.rnd1 b c (Dig.rnd0 a b)))).drew = w3 at HI3 HB3 HU3 ⊢
    clear k0 k1 k2 fg
    obtain ⟨k0, k1, k2, fg⟩ := lanes_at HI3.out
    go_wp2
    go_still_tail 18, (by kernel_rfl)
    still_call (turn41 _ _)
    repeat still_step
    refine wpStill_nil ?_
    change wpList _ _ _ _ _ w3.drew
    have f2 := fg 2
    have b1 : 0 ≤ (k : Int) := Int.natCast_nonneg k
    have b2 : (k : Int) ≤ 9223372036854775806 := by have := HL.out; omega
    go_wp2
    go_roundw
    case rel => exact ⟨k + 1, _, _, _, by go_num, ⟨HL.out⟩, ⟨by rw [Dig.rnds_succ, HA.out]; rfl⟩, ⟨IsS127.drew (IsS127.set_2 HI3.out (Dig.rnd2 c (Dig.rnd0 a b) (Dig.rnd1 b c (Dig.rnd0 a b))))⟩, ⟨below_drew (below_set (j := 2) (v := .int .u64 (Dig.rnd2 c (Dig.rnd0 a b) (Dig.rnd1 b c (Dig.rnd0 a b)))) HB3.out HI3.out.ge)⟩, ⟨keep_drew (KeepBut.set_ HU3.out 2 (.int .u64 (Dig.rnd2 c (Dig.rnd0 a b) (Dig.rnd1 b c (Dig.rnd0 a b)))))⟩⟩
    case measure => have := HL.out; simp [intOf]; omega
   ·have c0 : decide ((k : Int) < a1) = false := decide_eq_false (fun h => hlt ((HN.out k).1 h))
    go_wp2
    go_end0
    have e : k = a1.toNat := by have := HK.out; omega
    subst e
    have h := HA.out.symm.trans HR.out
    simp only [Prod.mk.injEq] at h
    obtain ⟨rfl, rfl, rfl⟩ := h
    exact ⟨rfl, HI1.out, HB1.out, HU.out⟩
 ·rw [if_neg hn] at h
  cases h

/-! ### impl_state_take: function 127 -/
def impl_state_take.f (s0_0 s0_1 s0_2 : Int) (l1 : List Int) : Option (Int × Int × Int) := some (Dig.rnds 6 (Dig.mix (Dig.takes l1 (s0_0, s0_1, s0_2)) (l1.length : Int)))
set_option maxHeartbeats 4000000 in
set_option maxRecDepth 100000 in
theorem impl_state_take.calls (g : Nat) (s0_0 s0_1 s0_2 : Int) (A1 : Option Addr) (c1 : Nat) (l1 : List Int) (r1 r2 r3 : Int) (w0 w : World) (hI : IsS127 w0 w g s0_0 s0_1 s0_2) (hB : Below w0.heap.size w0 w) (hr1 : Kd.C (Kd.int .u8) w A1 l1.length l1) (hc1 : l1.length ≤ c1) (hf1 : ∀ ad, A1 = some ad → 0 < l1.length → ad.block ≠ g) (h : impl_state_take.f s0_0 s0_1 s0_2 l1 = some (r1, r2, r3)) :
  Calls Try.prog 127 #[.pointer (some ⟨g, 0, none⟩), .slice A1 l1.length c1] w fun e w' => e = .returned (.tuple #[]) ∧ IsS127 w0 w' g r1 r2 r3 ∧ Below w0.heap.size w0 w' ∧ KeepBut w w' g none := by
 have h := Option.some.inj h
 have HI := Aside0.mk hI
 have HB := Aside0.mk hB
 have HR := Aside0.mk h
 have HC := Aside0.mk hr1
 have HF := Aside0.mk hf1
 have HM : Aside0 (l1.length ≤ 9223372036854775807) := ⟨hr1.2.1⟩
 clear hI hB h hr1 hc1 hf1
 go_enter Try.func127, Try.ntmps127
 go_wp2
 go_loopw [8] (fun i wr => ∃ (k : Nat) (a b c : Int), i = .int .i64 k ∧ Aside0 (k ≤ l1.length) ∧ Aside0 (Dig.takes (l1.take k) (s0_0, s0_1, s0_2) = (a, b, c)) ∧ Aside0 (IsS127 w0 wr g a b c) ∧ Aside0 (Below w0.heap.size w0 wr) ∧ Aside0 (KeepBut w wr g none)) (fun i _ => l1.length - (intOf i).toNat)
 case atStart => exact ⟨0, s0_0, s0_1, s0_2, rfl, ⟨Nat.zero_le _⟩, ⟨rfl⟩, HI, HB, ⟨KeepBut.refl _ _ _⟩⟩
 case round =>
  obtain ⟨k, a, b, c, rfl, HK, HA, HI1, HB1, HU⟩ := hrel
  by_cases hlt : k < l1.length
  ·have c0 : decide (k < l1.length) = true := decide_eq_true hlt
   have c1 : decide ((k : Int) < (l1.length : Int)) = true := decide_eq_true (by omega)
   have p1 : 0 ≤ (k : Int) := Int.natCast_nonneg k
   have q1 : (k : Int) < (l1.length : Int) := by omega
   obtain ⟨ad, e1, hx⟩ := Kd.at_int HC.out k p1 q1
   cases e1
   rw [Int.toNat_natCast] at hx
   replace hx := keep_cell HU.out hx (by rw [add_block]; exact HF.out ad rfl (by omega))
   have et : l1.take (k + 1) = l1.take k ++ [rd l1 k] := by
    rw [List.take_succ_eq_append_getElem hlt]
    unfold rd
    rw [Int.toNat_natCast, List.getD_eq_getElem?_getD, List.getElem?_eq_getElem hlt]
    rfl
   have HT := Aside0.mk et
   have HL := Aside0.mk hlt
   clear hlt et
   obtain ⟨k0, k1, k2, fg⟩ := lanes_at HI1.out
   generalize rd l1 (k : Int) = v at hx HT
   go_wp2
   go_still_tail 9, (by kernel_rfl)
   change wpList _ _ _ _ _ wr.drew
   have f0 := fg 0
   go_wp2_with fail
   clear f0
   have HI2 := Aside0.mk (IsS127.drew (IsS127.set_0 HI1.out (Go.bits .xor .u64 a (IntKind.u64.wrap v))))
   have HB2 := Aside0.mk (below_drew (below_set (j := 0) (v := .int .u64 (Go.bits .xor .u64 a (IntKind.u64.wrap v))) HB1.out HI1.out.ge))
   have HU2 := Aside0.mk (keep_drew (KeepBut.set_ HU.out 0 (.int .u64 (Go.bits .xor .u64 a (IntKind.u64.wrap v)))))
   clear k0 k1 k2 fg hx
   generalize (wr.setCell ⟨g, 0, none⟩ (.int .u64 (Go.bits .xor .u64 a (IntKind.u64.wrap v)))).drew = w2 at HI2 HB2 HU2 ⊢
   obtain ⟨⟨x0, x1, x2⟩, hq⟩ : ∃ x, x = Dig.rnds 2 (Dig.mix (a, b, c) v) := ⟨_, rfl⟩
   have HQ := Aside0.mk hq
   clear hq
   refine (impl_state_rounds.calls g _ b c 2 x0 x1 x2 w0 w2 HI2.out HB2.out (by rw [HQ.out]; rfl)).mono ?_
   rintro e w3 ⟨rfl, hi3, hb3, hk3⟩
   have HI3 := Aside0.mk hi3
   have HB3 := Aside0.mk hb3
   have HU3 := Aside0.mk (KeepBut.trans HU2.out hk3 (.inl rfl))
   clear hi3 hb3 hk3
   have b1 : 0 ≤ (k : Int) := Int.natCast_nonneg k
   have b2 : (k : Int) ≤ 9223372036854775806 := by have := HL.out; have := HM.out; omega
   go_wp2
   go_roundw
   case rel => exact ⟨k + 1, x0, x1, x2, by go_num, ⟨HL.out⟩, ⟨by rw [HT.out, Dig.takes_snoc, HA.out]; exact HQ.out.symm⟩, HI3, HB3, HU3⟩
   case measure => have := HL.out; simp [intOf]; omega
  ·have c0 : decide (k < l1.length) = false := decide_eq_false hlt
   have c1 : decide ((k : Int) < (l1.length : Int)) = false := decide_eq_false (by omega)
   have e : k = l1.length := by have := HK.out; omega
   have HE := Aside0.mk e
   clear hlt e
   obtain ⟨k0, k1, k2, fg⟩ := lanes_at HI1.out
   go_wp2
   go_still_tail 10, (by kernel_rfl)
   change wpList _ _ _ _ _ wr.drew
   have f0 := fg 0
   go_wp2_with fail
   clear f0
   have HI2 := Aside0.mk (IsS127.drew (IsS127.set_0 HI1.out (Go.bits .xor .u64 a (IntKind.u64.wrap (l1.length : Int)))))
   have HB2 := Aside0.mk (below_drew (below_set (j := 0) (v := .int .u64 (Go.bits .xor .u64 a (IntKind.u64.wrap (l1.length : Int)))) HB1.out HI1.out.ge))
   have HU2 := Aside0.mk (keep_drew (KeepBut.set_ HU.out 0 (.int .u64 (Go.bits .xor .u64 a (IntKind.u64.wrap (l1.length : Int))))))
   clear k0 k1 k2 fg
   generalize (wr.setCell ⟨g, 0, none⟩ (.int .u64 (Go.bits .xor .u64 a (IntKind.u64.wrap (l1.length : Int))))).drew = w2 at HI2 HB2 HU2 ⊢
   refine (impl_state_rounds.calls g _ b c 6 r1 r2 r3 w0 w2 HI2.out HB2.out (by rw [← HR.out]; have h := HA.out; rw [HE.out, List.take_length] at h; rw [h]; rfl)).mono ?_
   rintro e w3 ⟨rfl, hi3, hb3, hk3⟩
   go_wp2
   go_end0
   exact ⟨rfl, hi3, hb3, KeepBut.trans HU2.out hk3 (.inl rfl)⟩

/-! ### impl_state_digest: function 128 -/
def impl_state_digest.f (s0_0 : Int) (s0_1 : Int) (s0_2 : Int) (a1 : Int) : Option (Int × Int × Int × Int) := if 0 ≤ a1 then (some (wrap64 (Go.bits .and .u64 (Go.bits .xor .u64 (Go.bits .xor .u64 s0_0 s0_1) s0_2) (IntKind.u64.wrap ((shl .u64 1 a1) - 1))), s0_0, s0_1, s0_2)) else (none)
set_option maxHeartbeats 8000000 in
set_option maxRecDepth 100000 in
theorem impl_state_digest.calls (g : Nat) (s0_0 : Int) (s0_1 : Int) (s0_2 : Int) (a1 : Int) (r1 : Int) (r2 : Int) (r3 : Int) (r4 : Int) (w0 w : World) (hI : IsS127 w0 w g s0_0 s0_1 s0_2) (hB : Below w0.heap.size w0 w) (h : impl_state_digest.f s0_0 s0_1 s0_2 a1 = some (r1, r2, r3, r4)) :
  Calls Try.prog 128 #[.pointer (some ⟨g, 0, none⟩), .int .i64 a1] w fun e w' => e = .returned (.int .i64 r1) ∧ IsS127 w0 w' g r2 r3 r4 ∧ Below w0.heap.size w0 w' ∧ KeepBut w w' g none := by
 have HI0 := Aside0.mk hI
 have HK := Aside0.mk (KeepBut.refl w g none)
 have HL := Aside0.mk hB.size
 clear hI
 have HW0 := Aside0.mk hB.size
 have HB := Aside0.mk hB
 clear hB
 have H : (if 0 ≤ a1 then (some (wrap64 (Go.bits .and .u64 (Go.bits .xor .u64 (Go.bits .xor .u64 s0_0 s0_1) s0_2) (IntKind.u64.wrap ((shl .u64 1 a1) - 1))), s0_0, s0_1, s0_2)) else (none)) = some (r1, r2, r3, r4) := h
 clear h
 by_cases c3 : 0 ≤ a1
 ·rw [if_pos c3] at H
  have c3b0 := eq_true c3
  have c3b1 : decide (0 ≤ a1) = true := decide_eq_true c3
  clear c3
  obtain ⟨ji4, hji4⟩ : ∃ j_ : Int, (shl .u64 1 a1) = j_ := ⟨_, rfl⟩
  replace H : (some (wrap64 (Go.bits .and .u64 (Go.bits .xor .u64 (Go.bits .xor .u64 s0_0 s0_1) s0_2) (IntKind.u64.wrap ((ji4) - 1))), s0_0, s0_1, s0_2)) = some (r1, r2, r3, r4) := by first | (rw [hji4] at H; exact H) | (simp only [hji4] at H ⊢; exact H)
  have hji4_ : (IntKind.u64.wrap (1 * 2 ^ min a1.toNat 64)) = ji4 := hji4
  have hji4z : a1 ≤ 64 → (IntKind.u64.wrap (1 * 2 ^ a1.toNat)) = ji4 := shl_small hji4
  have hji4u : (IntKind.u64.wrap (2 ^ min a1.toNat 64)) = ji4 := by have h_ := hji4_; rw [Int.one_mul] at h_; exact h_
  have hji4v : a1 ≤ 64 → (IntKind.u64.wrap (2 ^ a1.toNat)) = ji4 := fun hle_ => by have h_ := hji4z hle_; rw [Int.one_mul] at h_; exact h_
  simp only [Option.some.injEq, Prod.mk.injEq] at H
  obtain ⟨rfl, rfl, rfl, rfl⟩ := H
  obtain ⟨HGz5, hgz5⟩ := HI0.out
  have hcz5_0 := cellS127_0 HGz5
  have hcz5_1 := cellS127_1 HGz5
  have hcz5_2 := cellS127_2 HGz5
  have hfz5_0 := blk_frozen HGz5 0
  have hfz5_1 := blk_frozen HGz5 1
  have hfz5_2 := blk_frozen HGz5 2
  clear HGz5 hgz5
  go_enter Try.func128, Try.ntmps128
  go_wp2
  repeat (go_quiet (fail); try go_wp2)
  go_ret
  exact ⟨by first | rfl | (simp [errW_none, errW_some] <;> rfl) | (simp only [← hji4]; first | rfl | (simp [errW_none, errW_some] <;> rfl)) | (simp [*, errW_none, errW_some] <;> rfl), by repeat (first | (with_reducible first | exact HI0.out | apply IsS127.alloc | apply IsS127.drewN | apply IsS127.drew | apply IsS127.set_0 | apply IsS127.set_1 | apply IsS127.set_2) | exact HI0.out), by repeat (first | (with_reducible first | exact HB.out | apply below_alloc | apply pw_below_drewN | apply below_drew1 | refine below_set ?_ (IsS127.ge HI0.out)) | exact HB.out), by repeat (first | (with_reducible first | exact HK.out | apply KeepBut.set_ | apply keep_drewN | apply keep_drew | apply keep_alloc) | exact HK.out)⟩
 ·rw [if_neg c3] at H
  exact absurd H (by simp)

end Go.Proofs.Ytchjajbkaiefdaa.PFnExactFirstLiar
