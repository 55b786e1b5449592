-- Written by a program of this workplace (wip/mp.py) out of the translation.
import Derived.Test.YtchjajbkaiefdaaPFnExactFirstLiarx0
import Derived.Test.YtchjajbkaiefdaaPFnExactFirstLiarx4
import Derived.Test.YtchjajbkaiefdaaPFnExactFirstLiarx5
namespace Go.Proofs.Ytchjajbkaiefdaa.PFnExactFirstLiar
open Go.RowKit Go.Proofs.YtchjajbkaiefdaaW.PrintWords Go.Proofs.YtchjajbkaiefdaaW.PrintLast Go.Proofs.YtchjajbkaiefdaaW.PrintMore Go.Proofs.Ytchjajbkaiefdaa.Slim
attribute [local go_sem] max2_int min2_int max_two min_two max_three min_three max_four min_four   -- for this text's walks alone
set_option linter.unusedVariables false
set_option linter.unusedSimpArgs false

/-! ### spec_FromPaths: function 77 -/
mutual
def spec_FromPaths.j0 : Nat → Int → Int → Int → List Int → List Int → List Int → List Int → Bool → Option (List Int × List Int × Bool)
 | 0, _, _, _, _, _, _, _, _ => none
 | k + 1, x0, x1, x2, x3, x4, x5, x6, x47 => if x47 = true then (some (([] : List Int), ([] : List Int), false)) else ((spec_l3Inputs.f k x0 x1 x2 x3 x4).bind fun t280 => ((spec_l3Inputs.f k x0 x1 x2 x5 x6).bind fun t283 => (spec_FromPaths.l0 k t280 t283 (wrap64 ((t280.length : Int) - 1)))))
def spec_FromPaths.l0 : Nat → List (List Int) → List (List Int) → Int → Option (List Int × List Int × Bool)
 | 0, _, _, _ => none
 | k + 1, x17, x18, x19 => if x19 ≥ 0 then (if 0 ≤ x19 then (if x19 < (x17.length : Int) then (if x19 < (x18.length : Int) then ((spec_l1Same.f (rd_L1 x17 x19) (rd_L1 x18 x19)).bind fun t288 => (if t288 = true then (spec_FromPaths.l0 k x17 x18 (wrap64 (x19 - 1))) else (some (rd_L1 x17 x19, rd_L1 x18 x19, true)))) else (none)) else (none)) else (none)) else (some (([] : List Int), ([] : List Int), false))
end
def spec_FromPaths.f (k : Nat) (a0 : Int) (a1 : Int) (a2 : Int) (l3 : List Int) (l4 : List Int) (l5 : List Int) (l6 : List Int) : Option (List Int × List Int × Bool) := (spec_RootFrom.f k a0 a1 a2 l3 l4).bind fun t276 => (if t276 < 0 then (spec_FromPaths.j0 k a0 a1 a2 l3 l4 l5 l6 true) else ((spec_RootFrom.f k a0 a1 a2 l5 l6).bind fun t277 => (if t276 = t277 then ((spec_l1Same.f l3 l5).bind fun t278 => (if t278 = true then ((spec_l3Paths.f k l4 l6).bind fun t279 => (spec_FromPaths.j0 k a0 a1 a2 l3 l4 l5 l6 t279)) else (spec_FromPaths.j0 k a0 a1 a2 l3 l4 l5 l6 false))) else (spec_FromPaths.j0 k a0 a1 a2 l3 l4 l5 l6 true))))
def spec_FromPaths.T8 : Bool × List (List Nat × List Nat) := (true, [([], []), ([], []), ([0, 1], [0, 1]), ([2], [2]), ([], []), ([], []), ([4, 5], [4, 5]), ([6], [6]), ([3, 7], [3, 7]), ([8], [8])])
def spec_FromPaths.B8 : List Nat := [0, 0, 3, 7, 0, 0, 48, 112, 255, 511]
theorem spec_FromPaths.tab8 : rtab .any (opsOf Try.f77 8) = spec_FromPaths.T8 := by kernel_rfl
theorem spec_FromPaths.bits8 : waitsOk spec_FromPaths.T8.2 spec_FromPaths.B8 = true := by kernel_rfl
def spec_FromPaths.T9 : Bool × List (List Nat × List Nat) := (true, [([], []), ([], []), ([0, 1], [0, 1]), ([2], [2]), ([], []), ([], []), ([4, 5], [4, 5]), ([6], [6]), ([3, 7], [3, 7]), ([8, 0, 1, 2, 3, 4, 5, 6, 7, 8], [8]), ([9, 0, 1, 2, 3, 4, 5, 6, 7, 8, 9], [])])
def spec_FromPaths.B9 : List Nat := [0, 0, 3, 7, 0, 0, 48, 112, 255, 511, 1023]
theorem spec_FromPaths.tab9 : rtab .any (opsOf Try.f77 9) = spec_FromPaths.T9 := by kernel_rfl
theorem spec_FromPaths.bits9 : waitsOk spec_FromPaths.T9.2 spec_FromPaths.B9 = true := by kernel_rfl
set_option maxHeartbeats 8000000 in
set_option maxRecDepth 100000 in
theorem spec_FromPaths.calls (k : Nat) (a0 : Int) (a1 : Int) (a2 : Int) (A3 : Option Addr) (c3 : Nat) (l3 : List Int) (A4 : Option Addr) (c4 : Nat) (l4 : List Int) (A5 : Option Addr) (c5 : Nat) (l5 : List Int) (A6 : Option Addr) (c6 : Nat) (l6 : List Int) (r1 : List Int) (r2 : List Int) (r3 : Bool) (w : World) (hr3 : Kd.C (Kd.int .u8) w A3 l3.length l3) (hc3 : l3.length ≤ c3) (hr4 : Kd.C (Kd.int .i64) w A4 l4.length l4) (hc4 : l4.length ≤ c4) (hr5 : Kd.C (Kd.int .u8) w A5 l5.length l5) (hc5 : l5.length ≤ c5) (hr6 : Kd.C (Kd.int .i64) w A6 l6.length l6) (hc6 : l6.length ≤ c6) (h : spec_FromPaths.f k a0 a1 a2 l3 l4 l5 l6 = some (r1, r2, r3)) :
  Calls Try.prog 77 #[.int .i64 a0, .int .i64 a1, .int .i64 a2, .slice A3 l3.length c3, .slice A4 l4.length c4, .slice A5 l5.length c5, .slice A6 l6.length c6] w fun e w' => ∃ v0_ v1_ : Value, e = .returned (.tuple #[.agg #[v0_, v1_], .bool r3]) ∧ Kd.V (Kd.int .u8) 5 w' w.heap.size (fun k_ => (w.heap.size ≤ k_)) v0_ r1 ∧ Kd.V (Kd.int .u8) 5 w' w.heap.size (fun k_ => (w.heap.size ≤ k_)) v1_ r2 ∧ Below w.heap.size w w' := by
 have hu33 := Try.underlying33
 have HR3 := Aside0.mk hr3
 have HC3 := Aside0.mk hc3
 clear hr3 hc3
 have HR4 := Aside0.mk hr4
 have HC4 := Aside0.mk hc4
 clear hr4 hc4
 have HR5 := Aside0.mk hr5
 have HC5 := Aside0.mk hc5
 clear hr5 hc5
 have HR6 := Aside0.mk hr6
 have HC6 := Aside0.mk hc6
 clear hr6 hc6
 have HB := Aside0.mk (Below.refl w.heap.size w)
 have H : ((spec_RootFrom.f k a0 a1 a2 l3 l4).bind fun t276 => (if t276 < 0 then (spec_FromPaths.j0 k a0 a1 a2 l3 l4 l5 l6 true) else ((spec_RootFrom.f k a0 a1 a2 l5 l6).bind fun t277 => (if t276 = t277 then ((spec_l1Same.f l3 l5).bind fun t278 => (if t278 = true then ((spec_l3Paths.f k l4 l6).bind fun t279 => (spec_FromPaths.j0 k a0 a1 a2 l3 l4 l5 l6 t279)) else (spec_FromPaths.j0 k a0 a1 a2 l3 l4 l5 l6 false))) else (spec_FromPaths.j0 k a0 a1 a2 l3 l4 l5 l6 true))))) = some (r1, r2, r3) := h
 clear h
 replace H := Option.bind_eq_some_iff.mp H
 obtain ⟨t276, A80, H⟩ := H
 (try dsimp -simprocs only at H)
 have A8 := Aside0.mk A80
 clear A80
 have HC9 := Aside0.mk H
 clear H
 go_enter Try.func77, Try.ntmps77
 go_upto_region 2 with (first | ((with_reducible refine gate_dst (N := 14) rfl ?_); refine box_event ?hg (N := 14) ?hd (cs := #[.slice none 0 0, .slice none 0 0]) (t := 33) ?hr ?_; (case hd => rfl); (case hg => rfl); (case hr => first | (go_simp; done) | (go_simp; rfl)); intro gb275 hg w10 hbox hb; have BK275 := Aside0.mk (hbox); have GW275 := Aside0.mk ((by rw [hg]; exact (below_size (bt)) : w.heap.size ≤ gb275)); have GE275 := Aside0.mk ((by rw [hg]; exact (below_size (bt)) : w.heap.size ≤ gb275)); replace HB := Aside0.mk (below_step (bt) hb); clear hb hbox hg) | ((with_reducible refine gate_callee (f := 114) rfl ?_); refine goesL_ (some 25) rfl rfl Try.func114 (by kernel_rfl) rfl #[.int .i64 a0, .int .i64 a1, .int .i64 a2, .slice A3 l3.length c3, .slice A4 l4.length c4] rfl av ?_; (with_reducible refine (spec_RootFrom.calls k a0 a1 a2 _ _ l3 _ _ l4 t276 _ ?side1 ?side2 ?side3 ?side4 A8.out).mono ?_); (case side1 => exact cv ((Kd.C_below HR3.out HB.out))); (case side2 => exact HC3.out); (case side3 => exact cv ((Kd.C_below HR4.out HB.out))); (case side4 => exact HC4.out); rintro e w11 ⟨rfl, hb⟩; refine ⟨_, rfl, ?_⟩; replace BK275 := Aside0.mk (blk_below (g := gb275) (o := .cells #[.slice none 0 0, .slice none 0 0] 33 (0, 0)) (mb BK275.out) hb); replace HB := Aside0.mk (below_step (b1 GE275.out) hb); (try clear hb); (try clear hb2); (try clear hk); (try clear hi)))
 (try simp only [Act.put, List.setIfInBounds_toArray, List.set_cons_zero, List.set_cons_succ])
 go_cut [47] (fun v47 wc => ∃ (kq : Nat) (x47_8 : Bool), v47 = .bool x47_8 ∧ Aside0 (spec_FromPaths.j0 kq a0 a1 a2 l3 l4 l5 l6 x47_8 = some (r1, r2, r3)) ∧ Aside0 (kq ≤ k) ∧ Aside0 (wc.heap[gb275]? = some (.cells #[(.slice none 0 0), (.slice none 0 0)] 33 (0, 0))) ∧ Aside0 (Below w.heap.size w wc))
 case first =>
  have H := HC9.out
  clear HC9
  by_cases c12 : t276 < 0
  ·rw [if_pos c12] at H
   have c12b0 : decide (t276 < 0) = true := decide_eq_true c12
   clear c12
   (first | rw [c12b0] | (simp only [i64_w, i32_w]; rw [c12b0]) | skip)
   have H' := Aside0.mk H
   clear H
   go_wp2
   go_meet
   case rel => exact ⟨_, (true), (by first | rfl | (simp; done) | (simp [*]; done)), H', ⟨by first | omega | exact Nat.le_refl _⟩, ⟨mb BK275.out⟩, ⟨b1 GE275.out⟩⟩
  ·rw [if_neg c12] at H
   have c12b0 : decide (t276 < 0) = false := decide_eq_false c12
   clear c12
   (first | rw [c12b0] | (simp only [i64_w, i32_w]; rw [c12b0]) | skip)
   replace H := Option.bind_eq_some_iff.mp H
   obtain ⟨t277, A130, H⟩ := H
   (try dsimp -simprocs only at H)
   have A13 := Aside0.mk A130
   clear A130
   by_cases c14 : t276 = t277
   ·rw [if_pos c14] at H
    have c14b0 : (t276 == t277) = true := beq_iff_eq.mpr c14
    have c14b1 : (t276 != t277) = false := bne_eq_false_iff_eq.mpr c14
    clear c14
    replace H := Option.bind_eq_some_iff.mp H
    obtain ⟨t278, A150, H⟩ := H
    (try dsimp -simprocs only at H)
    have A15 := Aside0.mk A150
    clear A150
    by_cases c16 : t278 = true
    ·subst c16
     rw [if_pos rfl] at H
     replace H := Option.bind_eq_some_iff.mp H
     obtain ⟨t279, A170, H⟩ := H
     (try dsimp -simprocs only at H)
     have A17 := Aside0.mk A170
     clear A170
     have H' := Aside0.mk H
     clear H
     go_wp2_with (first | (go_at_call 114; (with_reducible refine (spec_RootFrom.calls k a0 a1 a2 _ _ l5 _ _ l6 t277 _ ?side1 ?side2 ?side3 ?side4 A13.out).mono ?_); (case side1 => exact cv ((Kd.C_below HR5.out HB.out))); (case side2 => exact HC5.out); (case side3 => exact cv ((Kd.C_below HR6.out HB.out))); (case side4 => exact HC6.out); rintro e w18 ⟨rfl, hb⟩; replace BK275 := Aside0.mk (blk_below (g := gb275) (o := .cells #[.slice none 0 0, .slice none 0 0] 33 (0, 0)) (mb BK275.out) hb); replace HB := Aside0.mk (below_step (b1 GE275.out) hb); (try clear hb); (try clear hb2); (try clear hk); (try clear hi)) | (go_at_call 75; (with_reducible refine (spec_l1Same.calls _ _ l3 _ _ l5 true _ ?side1 ?side2 ?side3 ?side4 A15.out).mono ?_); (case side1 => exact cv ((Kd.C_below HR3.out HB.out))); (case side2 => exact HC3.out); (case side3 => exact cv ((Kd.C_below HR5.out HB.out))); (case side4 => exact HC5.out); rintro e w' ⟨rfl, ⟨nd, rfl⟩⟩) | (go_at_call 115; (with_reducible refine (spec_l3Paths.calls k _ _ l4 _ _ l6 t279 _ ?side1 ?side2 ?side3 ?side4 A17.out).mono ?_); (case side1 => repeat (first | exact (Kd.C_below HR4.out (b1 GE275.out)) | (with_reducible refine Kd.C_alloc ?_ _) | (with_reducible refine Kd.C_drewN ?_ _) | (with_reducible refine Kd.C_drew ?_))); (case side2 => exact HC4.out); (case side3 => repeat (first | exact (Kd.C_below HR6.out (b1 GE275.out)) | (with_reducible refine Kd.C_alloc ?_ _) | (with_reducible refine Kd.C_drewN ?_ _) | (with_reducible refine Kd.C_drew ?_))); (case side4 => exact HC6.out); rintro e w' ⟨rfl, ⟨nd, rfl⟩⟩))
     go_meet
     case rel => exact ⟨_, (t279), (by first | rfl | (simp; done) | (simp [*]; done)), H', ⟨by first | omega | exact Nat.le_refl _⟩, ⟨mb BK275.out⟩, ⟨b1 GE275.out⟩⟩
    ·replace c16 := Bool.eq_false_iff.mpr c16
     subst c16
     rw [if_neg (show ¬ (false = true) by decide)] at H
     have H' := Aside0.mk H
     clear H
     go_wp2_with (first | (go_at_call 114; (with_reducible refine (spec_RootFrom.calls k a0 a1 a2 _ _ l5 _ _ l6 t277 _ ?side1 ?side2 ?side3 ?side4 A13.out).mono ?_); (case side1 => exact cv ((Kd.C_below HR5.out HB.out))); (case side2 => exact HC5.out); (case side3 => exact cv ((Kd.C_below HR6.out HB.out))); (case side4 => exact HC6.out); rintro e w19 ⟨rfl, hb⟩; replace BK275 := Aside0.mk (blk_below (g := gb275) (o := .cells #[.slice none 0 0, .slice none 0 0] 33 (0, 0)) (mb BK275.out) hb); replace HB := Aside0.mk (below_step (b1 GE275.out) hb); (try clear hb); (try clear hb2); (try clear hk); (try clear hi)) | (go_at_call 75; (with_reducible refine (spec_l1Same.calls _ _ l3 _ _ l5 false _ ?side1 ?side2 ?side3 ?side4 A15.out).mono ?_); (case side1 => exact cv ((Kd.C_below HR3.out HB.out))); (case side2 => exact HC3.out); (case side3 => exact cv ((Kd.C_below HR5.out HB.out))); (case side4 => exact HC5.out); rintro e w' ⟨rfl, ⟨nd, rfl⟩⟩))
     go_meet
     case rel => exact ⟨_, (false), (by first | rfl | (simp; done) | (simp [*]; done)), H', ⟨by first | omega | exact Nat.le_refl _⟩, ⟨mb BK275.out⟩, ⟨b1 GE275.out⟩⟩
   ·rw [if_neg c14] at H
    have c14b0 : (t276 == t277) = false := beq_eq_false_iff_ne.mpr c14
    have c14b1 : (t276 != t277) = true := bne_iff_ne.mpr c14
    have H' := Aside0.mk H
    clear H
    go_wp2_with (first | (go_at_call 114; (with_reducible refine (spec_RootFrom.calls k a0 a1 a2 _ _ l5 _ _ l6 t277 _ ?side1 ?side2 ?side3 ?side4 A13.out).mono ?_); (case side1 => exact cv ((Kd.C_below HR5.out HB.out))); (case side2 => exact HC5.out); (case side3 => exact cv ((Kd.C_below HR6.out HB.out))); (case side4 => exact HC6.out); rintro e w20 ⟨rfl, hb⟩; replace BK275 := Aside0.mk (blk_below (g := gb275) (o := .cells #[.slice none 0 0, .slice none 0 0] 33 (0, 0)) (mb BK275.out) hb); replace HB := Aside0.mk (below_step (b1 GE275.out) hb); (try clear hb); (try clear hb2); (try clear hk); (try clear hi)))
    go_meet
    case rel => exact ⟨_, (true), (by first | rfl | (simp; done) | (simp [*]; done)), H', ⟨by first | omega | exact Nat.le_refl _⟩, ⟨mb BK275.out⟩, ⟨b1 GE275.out⟩⟩
 case rest =>
  clear HC9
  try clear c1
  try clear p2
  try clear c3
  try clear c4
  try clear c5
  try clear c6
  try clear c7
  try clear c11
  try clear c12
  try clear c12b0
  try clear c14
  try clear c14b0
  try clear c14b1
  try clear c16
  obtain ⟨kq, x47_8, rfl, HA, HJ8, BK275, HB⟩ := hcut
  cases kq with
  | zero => exact absurd HA.out (by simp [spec_FromPaths.j0])
  | succ kj8 =>
   have H := HA.out
   clear HA
   simp only [spec_FromPaths.j0] at H
   by_cases c21 : x47_8 = true
   ·subst c21
    rw [if_pos rfl] at H
    simp only [Option.some.injEq, Prod.mk.injEq] at H
    obtain ⟨rfl, rfl, rfl⟩ := H
    have hcz22_0 : wc.cell? ⟨gb275, 0, none⟩ = some (.slice none 0 0) := (blk_cell BK275.out 0).trans rfl
    have hcz22_1 : wc.cell? ⟨gb275, 1, none⟩ = some (.slice none 0 0) := (blk_cell BK275.out 1).trans rfl
    have hfz22_0 := blk_frozen BK275.out 0
    have hfz22_1 := blk_frozen BK275.out 1
    go_wp2
    refine bodyPost_ret (results_ct rfl _ _ gb275 33 #[.slice none 0 0, .slice none 0 0] (0, 0) _ rfl (by (with_reducible repeat (first | refine blk_drewN ?_ _ | refine blk_drew ?_ | refine blk_alloc ?_ _)); refine blk_put (cs := #[.slice none 0 0, .slice none 0 0]) ?_ 1 _ rfl; (with_reducible repeat (first | refine blk_drewN ?_ _ | refine blk_drew ?_ | refine blk_alloc ?_ _)); refine blk_put (cs := #[.slice none 0 0, .slice none 0 0]) ?_ 0 _ rfl; (with_reducible repeat (first | refine blk_drewN ?_ _ | refine blk_drew ?_ | refine blk_alloc ?_ _)); exact BK275.out) Try.underlying33 rfl (by kernel_rfl)) rfl ?_
    exact ⟨_, _, by first | rfl | (simp [errW_none, errW_some] <;> rfl) | (simp [*, errW_none, errW_some] <;> rfl), Kd.R_V (base := 0) (by first | exact Kd.R_nil _ _ _ _ _ | exact Kd.N_nil _ _ _ _ _ | exact Kd.V_nil _ _ _ _ _ | exact Kd.Q_nil _ _ _ _ _ | exact Kd.S_nil _ _ _ _ _), Kd.R_V (base := 0) (by first | exact Kd.R_nil _ _ _ _ _ | exact Kd.N_nil _ _ _ _ _ | exact Kd.V_nil _ _ _ _ _ | exact Kd.Q_nil _ _ _ _ _ | exact Kd.S_nil _ _ _ _ _), b1 GE275.out⟩
   ·replace c21 := Bool.eq_false_iff.mpr c21
    subst c21
    rw [if_neg (show ¬ (false = true) by decide)] at H
    replace H := Option.bind_eq_some_iff.mp H
    obtain ⟨t280, A230, H⟩ := H
    (try dsimp -simprocs only at H)
    have A23 := Aside0.mk A230
    clear A230
    replace H := Option.bind_eq_some_iff.mp H
    obtain ⟨t283, A240, H⟩ := H
    (try dsimp -simprocs only at H)
    have A24 := Aside0.mk A240
    clear A240
    have H' := Aside0.mk H
    clear H
    go_wp2_with (first | ((with_reducible refine gate_callee (f := 84) rfl ?_); refine goesL_ (some 54) rfl rfl Try.func84 (by kernel_rfl) rfl #[.int .i64 a0, .int .i64 a1, .int .i64 a2, .slice A3 l3.length c3, .slice A4 l4.length c4] rfl av ?_; (with_reducible refine (spec_l3Inputs.calls kj8 a0 a1 a2 _ _ l3 _ _ l4 t280 _ ?side1 ?side2 ?side3 ?side4 A23.out).mono ?_); (case side1 => exact cv ((Kd.C_below HR3.out HB.out))); (case side2 => exact HC3.out); (case side3 => exact cv ((Kd.C_below HR4.out HB.out))); (case side4 => exact HC4.out); rintro e w25 ⟨v281, rfl, ho0, hb⟩; refine ⟨_, rfl, ?_⟩; have HO282 := Aside0.mk (Kd.N_lower (Kd.N_mono (ok' := fun k_ => (w.heap.size ≤ k_) ∧ k_ ≠ gb275) ho0 (fun k_ hk_ => ⟨(Nat.le_trans (below_size (b1 GE275.out)) hk_), (Kd.freshB (g := gb275) (o := .cells #[.slice none 0 0, .slice none 0 0] 33 (0, 0)) (mb BK275.out) k_ hk_)⟩)) (below_size (b1 GE275.out))); replace BK275 := Aside0.mk (blk_below (g := gb275) (o := .cells #[.slice none 0 0, .slice none 0 0] 33 (0, 0)) (mb BK275.out) hb); replace HB := Aside0.mk (below_step (b1 GE275.out) hb); (try clear hb); (try clear hb2); (try clear hk); (try clear hi); (try clear ho0)) | ((with_reducible refine gate_callee (f := 84) rfl ?_); refine goesL_ (some 60) rfl rfl Try.func84 (by kernel_rfl) rfl #[.int .i64 a0, .int .i64 a1, .int .i64 a2, .slice A5 l5.length c5, .slice A6 l6.length c6] rfl av ?_; (with_reducible refine (spec_l3Inputs.calls kj8 a0 a1 a2 _ _ l5 _ _ l6 t283 _ ?side1 ?side2 ?side3 ?side4 A24.out).mono ?_); (case side1 => exact cv ((Kd.C_below HR5.out HB.out))); (case side2 => exact HC5.out); (case side3 => exact cv ((Kd.C_below HR6.out HB.out))); (case side4 => exact HC6.out); rintro e w26 ⟨v284, rfl, ho0, hb⟩; refine ⟨_, rfl, ?_⟩; have HO285 := Aside0.mk (Kd.N_lower (Kd.N_mono (ok' := fun k_ => (w.heap.size ≤ k_) ∧ some k_ ≠ (v281 : Value).ownBlock ∧ k_ ≠ gb275) ho0 (fun k_ hk_ => ⟨(Nat.le_trans (below_size (b1 GE275.out)) hk_), (Kd.fresh' (Kd.N_lt (mv HO282.out)) k_ hk_), (Kd.freshB (g := gb275) (o := .cells #[.slice none 0 0, .slice none 0 0] 33 (0, 0)) (mb BK275.out) k_ hk_)⟩)) (below_size (b1 GE275.out))); replace HO282 := Aside0.mk (Kd.N_elder' (mv HO282.out) (by first | exact Kd.N_base ho0 | exact Kd.S_base ho0) hb); replace BK275 := Aside0.mk (blk_below (g := gb275) (o := .cells #[.slice none 0 0, .slice none 0 0] 33 (0, 0)) (mb BK275.out) hb); replace HB := Aside0.mk (below_step (b1 GE275.out) hb); (try clear hb); (try clear hb2); (try clear hk); (try clear hi); (try clear ho0); obtain ⟨Ao27, co27, eo27⟩ := Kd.N_slice HO282.out; subst eo27))
    go_loopg [19] kj8 (fun kq v19 w' => ∃ (x19_2 : Int), v19 = .int .i64 x19_2 ∧ Aside0 (spec_FromPaths.l0 kq t280 t283 x19_2 = some (r1, r2, r3)) ∧ Aside0 (kq ≤ kj8) ∧ Aside0 (Kd.N (Kd.slice 5 (Kd.int .u8)) 22 w' w.heap.size (fun k_ => (w.heap.size ≤ k_) ∧ some k_ ≠ (v284 : Value).ownBlock ∧ k_ ≠ gb275) (.slice Ao27 t280.length co27) t280) ∧ Aside0 (Kd.N (Kd.slice 5 (Kd.int .u8)) 22 w' w.heap.size (fun k_ => (w.heap.size ≤ k_) ∧ some k_ ≠ ((.slice Ao27 t280.length co27) : Value).ownBlock ∧ k_ ≠ gb275) v284 t283) ∧ Aside0 (w'.heap[gb275]? = some (.cells #[(.slice none 0 0), (.slice none 0 0)] 33 (0, 0))) ∧ Aside0 (Below w.heap.size w w'))
    case atStart => exact ⟨(wrap64 ((t280.length : Int) - 1)), (by first | rfl | (simp; done) | (simp [*]; done)), H', ⟨Nat.le_refl _⟩, ⟨by (with_reducible repeat (first | apply Kd.N_alloc | apply Kd.N_drewN | apply Kd.N_drew)); exact Kd.N_mono HO282.out (fun _ hk => ⟨hk.1.1, ⟨hk.2, hk.1.2⟩⟩)⟩, ⟨mv HO285.out⟩, ⟨mb BK275.out⟩, ⟨b1 GE275.out⟩⟩
    case round =>
     clear H'
     try clear c1
     try clear c2
     try clear p2
     try clear c3
     try clear c4
     try clear c5
     try clear c6
     try clear p6
     try clear c7
     try clear c8
     try clear c11
     try clear c12
     try clear c12b0
     try clear c14
     try clear c14b0
     try clear c14b1
     try clear c16
     try clear c21
     try clear hcz22_0
     try clear hcz22_1
     try clear hfz22_0
     try clear hfz22_1
     try clear p2
     obtain ⟨x19_2, rfl, HA, HK2, HO_17, HO_18, BK275, HB⟩ := hrel
     cases gk with
     | zero => exact absurd HA.out (by simp [spec_FromPaths.l0])
     | succ k2 =>
      have H := HA.out
      clear HA
      simp only [spec_FromPaths.l0] at H
      by_cases c28 : x19_2 ≥ 0
      ·rw [if_pos c28] at H
       have c28b0 : decide (0 ≤ x19_2) = true := decide_eq_true c28
       clear c28
       by_cases c29 : 0 ≤ x19_2
       ·rw [if_pos c29] at H
        have c29b0 : decide (0 ≤ x19_2) = true := decide_eq_true c29
        clear c29
        by_cases c30 : x19_2 < (t280.length : Int)
        ·rw [if_pos c30] at H
         have c30b0 : decide (x19_2 < (t280.length : Int)) = true := decide_eq_true c30
         clear c30
         by_cases c31 : x19_2 < (t283.length : Int)
         ·rw [if_pos c31] at H
          have c31b0 : decide (x19_2 < (t283.length : Int)) = true := decide_eq_true c31
          clear c31
          replace H := Option.bind_eq_some_iff.mp H
          obtain ⟨t288, A320, H⟩ := H
          (try dsimp -simprocs only at H)
          have A32 := Aside0.mk A320
          clear A320
          by_cases c33 : t288 = true
          ·subst c33
           rw [if_pos rfl] at H
           have H' := Aside0.mk H
           clear H
           try go_wp2
           have n0_ := Aside0.mk (Kd.N_drew HO_17.out)
           have n1_ := Aside0.mk (Kd.N_drew HO_18.out)
           have n2_ := Aside0.mk (blk_drew BK275.out)
           have n3_ := Aside0.mk (below_drew1 HB.out)
           clear HO_17
           clear HO_18
           clear BK275
           clear HB
           have HO_17 := n0_
           have HO_18 := n1_
           have BK275 := n2_
           have HB := n3_
           clear n0_ n1_ n2_ n3_
           have p286 : 0 ≤ (x19_2 : Int) := of_decide_eq_true asm
           have q286 : x19_2 < (t280.length : Int) := of_decide_eq_true asm
           obtain ⟨ad286, A286_0, c286_0, e286, hx286_0, hl286_0, hi286_0⟩ := at_L1 (Kd.N_reads' HO_17.out).2.2 x19_2 p286 q286
           cases e286
           obtain ⟨ce286, hce286, hMe286, hcc286⟩ := Kd.N_get HO_17.out [] x19_2 p286 (by first | exact q286 | exact of_decide_eq_true asm | (have e_ := (Kd.N_reads' HO_17.out).1; omega))
           obtain ⟨ua286_0, uc286_0, rfl, ul286_0, ge286_0⟩ := Kd.FK_slice_open hMe286
           have hv286_0 := hcc286 0 _ rfl
           rw [Nat.add_zero, show ((Kd.slice 5 (Kd.int .u8))).sz = 1 from rfl, Nat.mul_one] at hv286_0
           replace hv286_0 := Option.some.inj (hv286_0.symm.trans hx286_0)
           injection hv286_0 with hva_ hvn_ hvc_
           rw [hva_] at ge286_0
           rw [hvc_] at ul286_0
           have HL286_0 := Aside0.mk (show Kd.V (Kd.int .u8) 5 _ w.heap.size _ _ (rd_L1 t280 x19_2) from Kd.V_mk ul286_0 ge286_0)
           clear hva_ hvn_ hvc_ ge286_0 ul286_0
           clear hcc286 hce286
           have HR286_0 := Aside0.mk hi286_0
           have HC286_0 := Aside0.mk hl286_0
           clear hi286_0 hl286_0
           replace p286 := eq_true p286
           replace q286 := eq_true q286
           obtain ⟨Ao35, co35, eo35⟩ := Kd.N_slice HO_18.out
           (first | subst eo35 | (injection eo35 with f1_ f2_ f3_; have f4_ := f1_.symm; have f5_ := f3_.symm; clear f1_ f2_ f3_; subst f4_; subst f5_))
           have p287 : 0 ≤ (x19_2 : Int) := of_decide_eq_true asm
           have q287 : x19_2 < (t283.length : Int) := of_decide_eq_true asm
           obtain ⟨ad287, A287_0, c287_0, e287, hx287_0, hl287_0, hi287_0⟩ := at_L1 (Kd.N_reads' HO_18.out).2.2 x19_2 p287 q287
           cases e287
           obtain ⟨ce287, hce287, hMe287, hcc287⟩ := Kd.N_get HO_18.out [] x19_2 p287 (by first | exact q287 | exact of_decide_eq_true asm | (have e_ := (Kd.N_reads' HO_18.out).1; omega))
           obtain ⟨ua287_0, uc287_0, rfl, ul287_0, ge287_0⟩ := Kd.FK_slice_open hMe287
           have hv287_0 := hcc287 0 _ rfl
           rw [Nat.add_zero, show ((Kd.slice 5 (Kd.int .u8))).sz = 1 from rfl, Nat.mul_one] at hv287_0
           replace hv287_0 := Option.some.inj (hv287_0.symm.trans hx287_0)
           injection hv287_0 with hva_ hvn_ hvc_
           rw [hva_] at ge287_0
           rw [hvc_] at ul287_0
           have HL287_0 := Aside0.mk (show Kd.V (Kd.int .u8) 5 _ w.heap.size _ _ (rd_L1 t283 x19_2) from Kd.V_mk ul287_0 ge287_0)
           clear hva_ hvn_ hvc_ ge287_0 ul287_0
           clear hcc287 hce287
           have HR287_0 := Aside0.mk hi287_0
           have HC287_0 := Aside0.mk hl287_0
           clear hi287_0 hl287_0
           replace p287 := eq_true p287
           replace q287 := eq_true q287
           refine start_ (n := 10) (S := fun w' => w'.cell? (ad286.add (x19_2).toNat) = some (.slice A286_0 (rd_L1 t280 x19_2).length c286_0) ∧ w'.cell? (ad287.add (x19_2).toNat) = some (.slice A287_0 (rd_L1 t283 x19_2).length c287_0)) (ds := []) #[false, false, false, false, false, false, false, false, false, false] (by kernel_rfl) rfl rfl ⟨hx286_0, hx287_0⟩ (fun hHeld => ?_); refine with_tabW spec_FromPaths.tab8 spec_FromPaths.bits8 (fun HT_ HW_ => ?_)
           generalize wr.drew = w34 at HO_17 HO_18 BK275 HB HL286_0 HL287_0 HR286_0 HR287_0 hx286_0 hx287_0 hHeld ⊢
           refine pz (i := 0) (N := some 68) #[true, false, false, false, false, false, false, false, false, false] rfl rfl HT_.out ?_
           refine pz (i := 1) (N := some 69) #[true, true, false, false, false, false, false, false, false, false] rfl rfl HT_.out ?_
           refine pz (i := 2) (N := some 70) #[true, true, true, false, false, false, false, false, false, false] rfl rfl HT_.out ?_
           refine pz (i := 4) (N := some 72) #[true, true, true, false, true, false, false, false, false, false] rfl rfl HT_.out ?_
           refine pz (i := 5) (N := some 73) #[true, true, true, false, true, true, false, false, false, false] rfl rfl HT_.out ?_
           refine pz (i := 6) (N := some 74) #[true, true, true, false, true, true, true, false, false, false] rfl rfl HT_.out ?_
           refine tz (i := 3) (N := some 71) #[true, true, true, true, true, true, true, false, false, false] rfl rfl HT_.out HW_.out hHeld (Or.inl ⟨by rfl, by rintro w' ⟨s0, s1⟩; go_simp; with_reducible rfl⟩) ?_
           refine tz (i := 7) (N := some 75) #[true, true, true, true, true, true, true, true, false, false] rfl rfl HT_.out HW_.out hHeld (Or.inl ⟨by rfl, by rintro w' ⟨s0, s1⟩; go_simp; with_reducible rfl⟩) ?_
           refine one_ (i := 8) (N := some 76) #[true, true, true, true, true, true, true, true, true, false] rfl rfl (one_of HT_.out (by kernel_rfl)) (by decide) (fun K hK => ?_)
           refine goes_ Try.func75 (by kernel_rfl) rfl #[.slice A286_0 (rd_L1 t280 x19_2).length c286_0, .slice A287_0 (rd_L1 t283 x19_2).length c287_0] (by rfl) rfl rfl av ?_
           with_reducible refine (spec_l1Same.calls _ _ (rd_L1 t280 x19_2) _ _ (rd_L1 t283 x19_2) true _ ?side1 ?side2 ?side3 ?side4 A32.out).mono ?_
           (case side1 => repeat (first | exact (by repeat (first | (with_reducible exact HR286_0.out) | (with_reducible refine Kd.C_alloc ?_ _) | (with_reducible refine Kd.C_drewN ?_ _) | (with_reducible refine Kd.C_drew ?_) | exact HR286_0.out)) | (with_reducible refine Kd.C_alloc ?_ _) | (with_reducible refine Kd.C_drewN ?_ _) | (with_reducible refine Kd.C_drew ?_)))
           (case side2 => exact HC286_0.out)
           (case side3 => repeat (first | exact (by repeat (first | (with_reducible exact HR287_0.out) | (with_reducible refine Kd.C_alloc ?_ _) | (with_reducible refine Kd.C_drewN ?_ _) | (with_reducible refine Kd.C_drew ?_) | exact HR287_0.out)) | (with_reducible refine Kd.C_alloc ?_ _) | (with_reducible refine Kd.C_drewN ?_ _) | (with_reducible refine Kd.C_drew ?_)))
           (case side4 => exact HC287_0.out)
           rintro e w' ⟨rfl, ⟨nd, rfl⟩⟩
           refine ⟨_, rfl, ?_⟩
           refine hK.out _ _ ⟨hHeld.1, hHeld.2⟩ (fun hHeld => ?_)
           clear hK K
           refine nz (N := some 76) ?_
           refine pz (i := 9) (N := some 77) #[true, true, true, true, true, true, true, true, true, true] rfl rfl HT_.out ?_
           refine done_ (done_of HT_.out (by kernel_rfl)) ?_
           (try simp only [Dig.setCell_drewN])
           try go_wp2
           go_roundg k2
           case measure => have := HJ8.out; have := HK2.out; omega
           case rel => exact ⟨(wrap64 (x19_2 - 1)), (by first | rfl | (simp; done) | (simp [*]; done)), H', ⟨by have := HJ8.out; have := HK2.out; omega⟩, ⟨mv HO_17.out⟩, ⟨mv HO_18.out⟩, ⟨mb BK275.out⟩, ⟨b1 GE275.out⟩⟩
          ·replace c33 := Bool.eq_false_iff.mpr c33
           subst c33
           rw [if_neg (show ¬ (false = true) by decide)] at H
           simp only [Option.some.injEq, Prod.mk.injEq] at H
           obtain ⟨rfl, rfl, rfl⟩ := H
           try go_wp2
           have n0_ := Aside0.mk (Kd.N_drew HO_17.out)
           have n1_ := Aside0.mk (Kd.N_drew HO_18.out)
           have n2_ := Aside0.mk (blk_drew BK275.out)
           have n3_ := Aside0.mk (below_drew1 HB.out)
           clear HO_17
           clear HO_18
           clear BK275
           clear HB
           have HO_17 := n0_
           have HO_18 := n1_
           have BK275 := n2_
           have HB := n3_
           clear n0_ n1_ n2_ n3_
           have p286 : 0 ≤ (x19_2 : Int) := of_decide_eq_true asm
           have q286 : x19_2 < (t280.length : Int) := of_decide_eq_true asm
           obtain ⟨ad286, A286_0, c286_0, e286, hx286_0, hl286_0, hi286_0⟩ := at_L1 (Kd.N_reads' HO_17.out).2.2 x19_2 p286 q286
           cases e286
           obtain ⟨ce286, hce286, hMe286, hcc286⟩ := Kd.N_get HO_17.out [] x19_2 p286 (by first | exact q286 | exact of_decide_eq_true asm | (have e_ := (Kd.N_reads' HO_17.out).1; omega))
           obtain ⟨ua286_0, uc286_0, rfl, ul286_0, ge286_0⟩ := Kd.FK_slice_open hMe286
           have hv286_0 := hcc286 0 _ rfl
           rw [Nat.add_zero, show ((Kd.slice 5 (Kd.int .u8))).sz = 1 from rfl, Nat.mul_one] at hv286_0
           replace hv286_0 := Option.some.inj (hv286_0.symm.trans hx286_0)
           injection hv286_0 with hva_ hvn_ hvc_
           rw [hva_] at ge286_0
           rw [hvc_] at ul286_0
           have HL286_0 := Aside0.mk (show Kd.V (Kd.int .u8) 5 _ w.heap.size _ _ (rd_L1 t280 x19_2) from Kd.V_mk ul286_0 ge286_0)
           clear hva_ hvn_ hvc_ ge286_0 ul286_0
           clear hcc286 hce286
           have HR286_0 := Aside0.mk hi286_0
           have HC286_0 := Aside0.mk hl286_0
           clear hi286_0 hl286_0
           replace p286 := eq_true p286
           replace q286 := eq_true q286
           obtain ⟨Ao37, co37, eo37⟩ := Kd.N_slice HO_18.out
           (first | subst eo37 | (injection eo37 with f1_ f2_ f3_; have f4_ := f1_.symm; have f5_ := f3_.symm; clear f1_ f2_ f3_; subst f4_; subst f5_))
           have p287 : 0 ≤ (x19_2 : Int) := of_decide_eq_true asm
           have q287 : x19_2 < (t283.length : Int) := of_decide_eq_true asm
           obtain ⟨ad287, A287_0, c287_0, e287, hx287_0, hl287_0, hi287_0⟩ := at_L1 (Kd.N_reads' HO_18.out).2.2 x19_2 p287 q287
           cases e287
           obtain ⟨ce287, hce287, hMe287, hcc287⟩ := Kd.N_get HO_18.out [] x19_2 p287 (by first | exact q287 | exact of_decide_eq_true asm | (have e_ := (Kd.N_reads' HO_18.out).1; omega))
           obtain ⟨ua287_0, uc287_0, rfl, ul287_0, ge287_0⟩ := Kd.FK_slice_open hMe287
           have hv287_0 := hcc287 0 _ rfl
           rw [Nat.add_zero, show ((Kd.slice 5 (Kd.int .u8))).sz = 1 from rfl, Nat.mul_one] at hv287_0
           replace hv287_0 := Option.some.inj (hv287_0.symm.trans hx287_0)
           injection hv287_0 with hva_ hvn_ hvc_
           rw [hva_] at ge287_0
           rw [hvc_] at ul287_0
           have HL287_0 := Aside0.mk (show Kd.V (Kd.int .u8) 5 _ w.heap.size _ _ (rd_L1 t283 x19_2) from Kd.V_mk ul287_0 ge287_0)
           clear hva_ hvn_ hvc_ ge287_0 ul287_0
           clear hcc287 hce287
           have HR287_0 := Aside0.mk hi287_0
           have HC287_0 := Aside0.mk hl287_0
           clear hi287_0 hl287_0
           replace p287 := eq_true p287
           replace q287 := eq_true q287
           refine start_ (n := 10) (S := fun w' => w'.cell? (ad286.add (x19_2).toNat) = some (.slice A286_0 (rd_L1 t280 x19_2).length c286_0) ∧ w'.cell? (ad287.add (x19_2).toNat) = some (.slice A287_0 (rd_L1 t283 x19_2).length c287_0)) (ds := []) #[false, false, false, false, false, false, false, false, false, false] (by kernel_rfl) rfl rfl ⟨hx286_0, hx287_0⟩ (fun hHeld => ?_); refine with_tabW spec_FromPaths.tab8 spec_FromPaths.bits8 (fun HT_ HW_ => ?_)
           generalize wr.drew = w36 at HO_17 HO_18 BK275 HB HL286_0 HL287_0 HR286_0 HR287_0 hx286_0 hx287_0 hHeld ⊢
           refine pz (i := 0) (N := some 68) #[true, false, false, false, false, false, false, false, false, false] rfl rfl HT_.out ?_
           refine pz (i := 1) (N := some 69) #[true, true, false, false, false, false, false, false, false, false] rfl rfl HT_.out ?_
           refine pz (i := 2) (N := some 70) #[true, true, true, false, false, false, false, false, false, false] rfl rfl HT_.out ?_
           refine pz (i := 4) (N := some 72) #[true, true, true, false, true, false, false, false, false, false] rfl rfl HT_.out ?_
           refine pz (i := 5) (N := some 73) #[true, true, true, false, true, true, false, false, false, false] rfl rfl HT_.out ?_
           refine pz (i := 6) (N := some 74) #[true, true, true, false, true, true, true, false, false, false] rfl rfl HT_.out ?_
           refine tz (i := 3) (N := some 71) #[true, true, true, true, true, true, true, false, false, false] rfl rfl HT_.out HW_.out hHeld (Or.inl ⟨by rfl, by rintro w' ⟨s0, s1⟩; go_simp; with_reducible rfl⟩) ?_
           refine tz (i := 7) (N := some 75) #[true, true, true, true, true, true, true, true, false, false] rfl rfl HT_.out HW_.out hHeld (Or.inl ⟨by rfl, by rintro w' ⟨s0, s1⟩; go_simp; with_reducible rfl⟩) ?_
           refine one_ (i := 8) (N := some 76) #[true, true, true, true, true, true, true, true, true, false] rfl rfl (one_of HT_.out (by kernel_rfl)) (by decide) (fun K hK => ?_)
           refine goes_ Try.func75 (by kernel_rfl) rfl #[.slice A286_0 (rd_L1 t280 x19_2).length c286_0, .slice A287_0 (rd_L1 t283 x19_2).length c287_0] (by rfl) rfl rfl av ?_
           with_reducible refine (spec_l1Same.calls _ _ (rd_L1 t280 x19_2) _ _ (rd_L1 t283 x19_2) false _ ?side1 ?side2 ?side3 ?side4 A32.out).mono ?_
           (case side1 => repeat (first | exact (by repeat (first | (with_reducible exact HR286_0.out) | (with_reducible refine Kd.C_alloc ?_ _) | (with_reducible refine Kd.C_drewN ?_ _) | (with_reducible refine Kd.C_drew ?_) | exact HR286_0.out)) | (with_reducible refine Kd.C_alloc ?_ _) | (with_reducible refine Kd.C_drewN ?_ _) | (with_reducible refine Kd.C_drew ?_)))
           (case side2 => exact HC286_0.out)
           (case side3 => repeat (first | exact (by repeat (first | (with_reducible exact HR287_0.out) | (with_reducible refine Kd.C_alloc ?_ _) | (with_reducible refine Kd.C_drewN ?_ _) | (with_reducible refine Kd.C_drew ?_) | exact HR287_0.out)) | (with_reducible refine Kd.C_alloc ?_ _) | (with_reducible refine Kd.C_drewN ?_ _) | (with_reducible refine Kd.C_drew ?_)))
           (case side4 => exact HC287_0.out)
           rintro e w' ⟨rfl, ⟨nd, rfl⟩⟩
           refine ⟨_, rfl, ?_⟩
           refine hK.out _ _ ⟨hHeld.1, hHeld.2⟩ (fun hHeld => ?_)
           clear hK K
           refine nz (N := some 76) ?_
           refine pz (i := 9) (N := some 77) #[true, true, true, true, true, true, true, true, true, true] rfl rfl HT_.out ?_
           refine done_ (done_of HT_.out (by kernel_rfl)) ?_
           (try simp only [Dig.setCell_drewN])
           try go_wp2
           (try (rw [drewN_self w36]; generalize hq_ : World.drewN w36 _ = w36; have n0_ : Aside0 (Kd.V (Kd.int .u8) 5 w36 w.heap.size (fun k_ => (w.heap.size ≤ k_) ∧ some k_ ≠ (.slice (some ad286) t280.length co27 : Value).ownBlock ∧ some k_ ≠ (.slice (some ad287) t283.length co37 : Value).ownBlock ∧ k_ ≠ gb275) (.slice A286_0 (rd_L1 t280 x19_2).length c286_0) (rd_L1 t280 x19_2)) := ⟨by rw [← hq_]; exact (by (with_reducible repeat (first | apply Kd.V_alloc | apply Kd.V_drewN | apply Kd.V_drew)); exact Kd.V_mono HL286_0.out (fun _ hk => ⟨hk.1.1, ⟨hk.2, ⟨hk.1.2.1, hk.1.2.2⟩⟩⟩))⟩; have n1_ : Aside0 (Kd.V (Kd.int .u8) 5 w36 w.heap.size (fun k_ => (w.heap.size ≤ k_) ∧ some k_ ≠ (.slice (some ad286) t280.length co27 : Value).ownBlock ∧ some k_ ≠ (.slice (some ad287) t283.length co37 : Value).ownBlock ∧ k_ ≠ gb275) (.slice A287_0 (rd_L1 t283 x19_2).length c287_0) (rd_L1 t283 x19_2)) := ⟨by rw [← hq_]; exact (by (with_reducible repeat (first | apply Kd.V_alloc | apply Kd.V_drewN | apply Kd.V_drew)); exact Kd.V_mono HL287_0.out (fun _ hk => ⟨hk.1.1, ⟨hk.1.2.1, ⟨hk.2, hk.1.2.2⟩⟩⟩))⟩; have n2_ : Aside0 (Kd.N (Kd.slice 5 (Kd.int .u8)) 22 w36 w.heap.size (fun k_ => (w.heap.size ≤ k_) ∧ some k_ ≠ (.slice (some ad287) t283.length co37 : Value).ownBlock ∧ k_ ≠ gb275) (.slice (some ad286) t280.length co27) t280) := ⟨by rw [← hq_]; exact (mv HO_17.out)⟩; have n3_ : Aside0 (Kd.N (Kd.slice 5 (Kd.int .u8)) 22 w36 w.heap.size (fun k_ => (w.heap.size ≤ k_) ∧ some k_ ≠ (.slice (some ad286) t280.length co27 : Value).ownBlock ∧ k_ ≠ gb275) (.slice (some ad287) t283.length co37) t283) := ⟨by rw [← hq_]; exact (mv HO_18.out)⟩; have n4_ : Aside0 (w36.heap[gb275]? = some (.cells #[.slice none 0 0, .slice none 0 0] 33 (0, 0))) := ⟨by rw [← hq_]; exact (mb BK275.out)⟩; have n5_ : Aside0 (Below w.heap.size w w36) := ⟨by rw [← hq_]; exact (b1 GE275.out)⟩; have n6_ : Aside0 (Kd.C (Kd.int .u8) w36 A286_0 (rd_L1 t280 x19_2).length (rd_L1 t280 x19_2)) := ⟨by rw [← hq_]; exact (by repeat (first | (with_reducible exact HR286_0.out) | (with_reducible refine Kd.C_alloc ?_ _) | (with_reducible refine Kd.C_drewN ?_ _) | (with_reducible refine Kd.C_drew ?_) | exact HR286_0.out))⟩; have n7_ : Aside0 (Kd.C (Kd.int .u8) w36 A287_0 (rd_L1 t283 x19_2).length (rd_L1 t283 x19_2)) := ⟨by rw [← hq_]; exact (by repeat (first | (with_reducible exact HR287_0.out) | (with_reducible refine Kd.C_alloc ?_ _) | (with_reducible refine Kd.C_drewN ?_ _) | (with_reducible refine Kd.C_drew ?_) | exact HR287_0.out))⟩; clear HL286_0 HL287_0 HO_17 HO_18 BK275 HB HR286_0 HR287_0 hq_; have HL286_0 := n0_; have HL287_0 := n1_; have HO_17 := n2_; have HO_18 := n3_; have BK275 := n4_; have HB := n5_; have HR286_0 := n6_; have HR287_0 := n7_; clear n0_ n1_ n2_ n3_ n4_ n5_ n6_ n7_))
           have n0_ := Aside0.mk (Kd.N_drew HO_17.out)
           have n1_ := Aside0.mk (Kd.N_drew HO_18.out)
           have n2_ := Aside0.mk (Kd.V_drew HL286_0.out)
           have n3_ := Aside0.mk (Kd.V_drew HL287_0.out)
           have n4_ := Aside0.mk (blk_drew BK275.out)
           have n5_ := Aside0.mk (Kd.C_drew HR286_0.out)
           have n6_ := Aside0.mk (Kd.C_drew HR287_0.out)
           have n7_ := Aside0.mk (below_drew1 HB.out)
           clear HO_17
           clear HO_18
           clear HL286_0
           clear HL287_0
           clear BK275
           clear HR286_0
           clear HR287_0
           clear HB
           have HO_17 := n0_
           have HO_18 := n1_
           have HL286_0 := n2_
           have HL287_0 := n3_
           have BK275 := n4_
           have HR286_0 := n5_
           have HR287_0 := n6_
           have HB := n7_
           clear n0_ n1_ n2_ n3_ n4_ n5_ n6_ n7_
           have p289 : 0 ≤ (x19_2 : Int) := of_decide_eq_true asm
           have q289 : x19_2 < (t280.length : Int) := of_decide_eq_true asm
           obtain ⟨ad289, A289_0, c289_0, e289, hx289_0, hl289_0, hi289_0⟩ := at_L1 (Kd.N_reads' HO_17.out).2.2 x19_2 p289 q289
           obtain rfl : ad286 = ad289 := (by injection e289)
           obtain ⟨ce289, hce289, hMe289, hcc289⟩ := Kd.N_get HO_17.out [] x19_2 p289 (by first | exact q289 | exact of_decide_eq_true asm | (have e_ := (Kd.N_reads' HO_17.out).1; omega))
           obtain ⟨ua289_0, uc289_0, rfl, ul289_0, ge289_0⟩ := Kd.FK_slice_open hMe289
           have hv289_0 := hcc289 0 _ rfl
           rw [Nat.add_zero, show ((Kd.slice 5 (Kd.int .u8))).sz = 1 from rfl, Nat.mul_one] at hv289_0
           replace hv289_0 := Option.some.inj (hv289_0.symm.trans hx289_0)
           injection hv289_0 with hva_ hvn_ hvc_
           rw [hva_] at ge289_0
           rw [hvc_] at ul289_0
           have HL289_0 := Aside0.mk (show Kd.V (Kd.int .u8) 5 _ w.heap.size _ _ (rd_L1 t280 x19_2) from Kd.V_mk ul289_0 ge289_0)
           clear hva_ hvn_ hvc_ ge289_0 ul289_0
           clear hcc289 hce289
           have HR289_0 := Aside0.mk hi289_0
           have HC289_0 := Aside0.mk hl289_0
           clear hi289_0 hl289_0
           replace p289 := eq_true p289
           replace q289 := eq_true q289
           have p290 : 0 ≤ (x19_2 : Int) := of_decide_eq_true asm
           have q290 : x19_2 < (t283.length : Int) := of_decide_eq_true asm
           obtain ⟨ad290, A290_0, c290_0, e290, hx290_0, hl290_0, hi290_0⟩ := at_L1 (Kd.N_reads' HO_18.out).2.2 x19_2 p290 q290
           obtain rfl : ad287 = ad290 := (by injection e290)
           obtain ⟨ce290, hce290, hMe290, hcc290⟩ := Kd.N_get HO_18.out [] x19_2 p290 (by first | exact q290 | exact of_decide_eq_true asm | (have e_ := (Kd.N_reads' HO_18.out).1; omega))
           obtain ⟨ua290_0, uc290_0, rfl, ul290_0, ge290_0⟩ := Kd.FK_slice_open hMe290
           have hv290_0 := hcc290 0 _ rfl
           rw [Nat.add_zero, show ((Kd.slice 5 (Kd.int .u8))).sz = 1 from rfl, Nat.mul_one] at hv290_0
           replace hv290_0 := Option.some.inj (hv290_0.symm.trans hx290_0)
           injection hv290_0 with hva_ hvn_ hvc_
           rw [hva_] at ge290_0
           rw [hvc_] at ul290_0
           have HL290_0 := Aside0.mk (show Kd.V (Kd.int .u8) 5 _ w.heap.size _ _ (rd_L1 t283 x19_2) from Kd.V_mk ul290_0 ge290_0)
           clear hva_ hvn_ hvc_ ge290_0 ul290_0
           clear hcc290 hce290
           have HR290_0 := Aside0.mk hi290_0
           have HC290_0 := Aside0.mk hl290_0
           clear hi290_0 hl290_0
           replace p290 := eq_true p290
           replace q290 := eq_true q290
           refine start_ (n := 11) (S := fun w' => w'.cell? (ad286.add (x19_2).toNat) = some (.slice A289_0 (rd_L1 t280 x19_2).length c289_0) ∧ w'.cell? (ad287.add (x19_2).toNat) = some (.slice A290_0 (rd_L1 t283 x19_2).length c290_0)) (ds := []) #[false, false, false, false, false, false, false, false, false, false, false] (by kernel_rfl) rfl rfl ⟨hx289_0, hx290_0⟩ (fun hHeld => ?_); refine with_tabW spec_FromPaths.tab9 spec_FromPaths.bits9 (fun HT_ HW_ => ?_)
           generalize w36.drew = w38 at HO_17 HO_18 HL286_0 HL287_0 BK275 HR286_0 HR287_0 HB HL289_0 HL290_0 HR289_0 HR290_0 hx289_0 hx290_0 hHeld ⊢
           refine pz (i := 0) (N := some 78) #[true, false, false, false, false, false, false, false, false, false, false] rfl rfl HT_.out ?_
           refine pz (i := 1) (N := some 79) #[true, true, false, false, false, false, false, false, false, false, false] rfl rfl HT_.out ?_
           refine pz (i := 2) (N := some 80) #[true, true, true, false, false, false, false, false, false, false, false] rfl rfl HT_.out ?_
           refine pz (i := 4) (N := some 82) #[true, true, true, false, true, false, false, false, false, false, false] rfl rfl HT_.out ?_
           refine pz (i := 5) (N := some 83) #[true, true, true, false, true, true, false, false, false, false, false] rfl rfl HT_.out ?_
           refine pz (i := 6) (N := some 84) #[true, true, true, false, true, true, true, false, false, false, false] rfl rfl HT_.out ?_
           refine tz (i := 3) (N := some 81) #[true, true, true, true, true, true, true, false, false, false, false] rfl rfl HT_.out HW_.out hHeld (Or.inl ⟨by rfl, by rintro w' ⟨s0, s1⟩; go_simp; with_reducible rfl⟩) ?_
           refine tz (i := 7) (N := some 85) #[true, true, true, true, true, true, true, true, false, false, false] rfl rfl HT_.out HW_.out hHeld (Or.inl ⟨by rfl, by rintro w' ⟨s0, s1⟩; go_simp; with_reducible rfl⟩) ?_
           refine pz (i := 8) (N := some 86) #[true, true, true, true, true, true, true, true, true, false, false] rfl rfl HT_.out ?_
           refine one_ (i := 9) (N := none) #[true, true, true, true, true, true, true, true, true, true, false] rfl rfl (one_of HT_.out (by kernel_rfl)) (by decide) (fun K hK => ?_)
           have hs39 : w38.cell? ⟨gb275, 0, none⟩ = some (.slice none 0 0) := (blk_cell BK275.out 0).trans rfl
           have hfs39 := blk_frozen BK275.out 0
           have hs40 : w38.cell? ⟨gb275, 1, none⟩ = some (.slice none 0 0) := (blk_cell BK275.out 1).trans rfl
           have hfs40 := blk_frozen BK275.out 1
           refine skip_ (w1 := ?_) (by rfl) rfl ?_ ?_
           rotate_left
           ·go_simp
            rfl
           refine hK.out _ _ ⟨((cell_far (p := ⟨gb275, _, none⟩) (by first | exact Kd.own_blk (Kd.N_away HO_17.out (fun _ hk => hk.2.2)) | (rw [add_block]; exact Kd.own_blk (Kd.N_away HO_17.out (fun _ hk => hk.2.2))) | (show (Addr.add _ _).block ≠ _; rw [add_block]; exact Kd.own_blk (Kd.N_away HO_17.out (fun _ hk => hk.2.2))) | (dsimp only; exact Kd.own_blk (Kd.N_away HO_17.out (fun _ hk => hk.2.2)))) _).trans (((cell_far (p := ⟨gb275, _, none⟩) (by first | exact Kd.own_blk (Kd.N_away HO_17.out (fun _ hk => hk.2.2)) | (rw [add_block]; exact Kd.own_blk (Kd.N_away HO_17.out (fun _ hk => hk.2.2))) | (show (Addr.add _ _).block ≠ _; rw [add_block]; exact Kd.own_blk (Kd.N_away HO_17.out (fun _ hk => hk.2.2))) | (dsimp only; exact Kd.own_blk (Kd.N_away HO_17.out (fun _ hk => hk.2.2)))) _).trans (hHeld.1)))), ((cell_far (p := ⟨gb275, _, none⟩) (by first | exact Kd.own_blk (Kd.N_away HO_18.out (fun _ hk => hk.2.2)) | (rw [add_block]; exact Kd.own_blk (Kd.N_away HO_18.out (fun _ hk => hk.2.2))) | (show (Addr.add _ _).block ≠ _; rw [add_block]; exact Kd.own_blk (Kd.N_away HO_18.out (fun _ hk => hk.2.2))) | (dsimp only; exact Kd.own_blk (Kd.N_away HO_18.out (fun _ hk => hk.2.2)))) _).trans (((cell_far (p := ⟨gb275, _, none⟩) (by first | exact Kd.own_blk (Kd.N_away HO_18.out (fun _ hk => hk.2.2)) | (rw [add_block]; exact Kd.own_blk (Kd.N_away HO_18.out (fun _ hk => hk.2.2))) | (show (Addr.add _ _).block ≠ _; rw [add_block]; exact Kd.own_blk (Kd.N_away HO_18.out (fun _ hk => hk.2.2))) | (dsimp only; exact Kd.own_blk (Kd.N_away HO_18.out (fun _ hk => hk.2.2)))) _).trans (hHeld.2))))⟩ (fun hHeld => ?_)
           clear hK K
           refine pz (i := 10) (N := some 15) #[true, true, true, true, true, true, true, true, true, true, true] rfl rfl HT_.out ?_
           refine done_ (done_of HT_.out (by kernel_rfl)) ?_
           (try simp only [Dig.setCell_drewN])
           try go_wp2
           refine bodyPost_ret (results_ct rfl _ _ gb275 33 #[.slice A289_0 (rd_L1 t280 x19_2).length c289_0, .slice A290_0 (rd_L1 t283 x19_2).length c290_0] (0, 0) _ rfl (by (with_reducible repeat (first | refine blk_drewN ?_ _ | refine blk_drew ?_ | refine blk_alloc ?_ _)); refine blk_put (cs := #[.slice A289_0 (rd_L1 t280 x19_2).length c289_0, .slice none 0 0]) ?_ 1 _ rfl; (with_reducible repeat (first | refine blk_drewN ?_ _ | refine blk_drew ?_ | refine blk_alloc ?_ _)); refine blk_put (cs := #[.slice none 0 0, .slice none 0 0]) ?_ 0 _ rfl; (with_reducible repeat (first | refine blk_drewN ?_ _ | refine blk_drew ?_ | refine blk_alloc ?_ _)); exact BK275.out) Try.underlying33 rfl (by kernel_rfl)) rfl ?_
           exact ⟨_, _, by first | rfl | (simp [errW_none, errW_some] <;> rfl) | (simp [*, errW_none, errW_some] <;> rfl), by (with_reducible repeat (first | apply Kd.V_alloc | apply Kd.V_drewN | apply Kd.V_drew)); exact Kd.V_mono (Kd.V_far (p := ⟨gb275, 1, none⟩) (Kd.V_far (p := ⟨gb275, 0, none⟩) (Kd.V_mono HL289_0.out (fun k_ hk => (⟨hk, hk.1.2.2⟩ : _ ∧ k_ ≠ gb275))) (fun _ hk => hk.2) (.slice A289_0 (rd_L1 t280 x19_2).length c289_0)) (fun _ hk => hk.2) (.slice A290_0 (rd_L1 t283 x19_2).length c290_0)) (fun _ hk => hk.1.1.1), by (with_reducible repeat (first | apply Kd.V_alloc | apply Kd.V_drewN | apply Kd.V_drew)); exact Kd.V_mono (Kd.V_far (p := ⟨gb275, 1, none⟩) (Kd.V_far (p := ⟨gb275, 0, none⟩) (Kd.V_mono HL290_0.out (fun k_ hk => (⟨hk, hk.1.2.2⟩ : _ ∧ k_ ≠ gb275))) (fun _ hk => hk.2) (.slice A289_0 (rd_L1 t280 x19_2).length c289_0)) (fun _ hk => hk.2) (.slice A290_0 (rd_L1 t283 x19_2).length c290_0)) (fun _ hk => hk.1.1.1), b1 GE275.out⟩
         ·rw [if_neg c31] at H
          exact absurd H (by simp)
        ·rw [if_neg c30] at H
         exact absurd H (by simp)
       ·rw [if_neg c29] at H
        exact absurd H (by simp)
      ·rw [if_neg c28] at H
       have c28b0 : decide (0 ≤ x19_2) = false := decide_eq_false c28
       clear c28
       simp only [Option.some.injEq, Prod.mk.injEq] at H
       obtain ⟨rfl, rfl, rfl⟩ := H
       have hcz41_0 : wr.cell? ⟨gb275, 0, none⟩ = some (.slice none 0 0) := (blk_cell BK275.out 0).trans rfl
       have hcz41_1 : wr.cell? ⟨gb275, 1, none⟩ = some (.slice none 0 0) := (blk_cell BK275.out 1).trans rfl
       have hfz41_0 := blk_frozen BK275.out 0
       have hfz41_1 := blk_frozen BK275.out 1
       go_wp2
       refine bodyPost_ret (results_ct rfl _ _ gb275 33 #[.slice none 0 0, .slice none 0 0] (0, 0) _ rfl (by (with_reducible repeat (first | refine blk_drewN ?_ _ | refine blk_drew ?_ | refine blk_alloc ?_ _)); refine blk_put (cs := #[.slice none 0 0, .slice none 0 0]) ?_ 1 _ rfl; (with_reducible repeat (first | refine blk_drewN ?_ _ | refine blk_drew ?_ | refine blk_alloc ?_ _)); refine blk_put (cs := #[.slice none 0 0, .slice none 0 0]) ?_ 0 _ rfl; (with_reducible repeat (first | refine blk_drewN ?_ _ | refine blk_drew ?_ | refine blk_alloc ?_ _)); exact BK275.out) Try.underlying33 rfl (by kernel_rfl)) rfl ?_
       exact ⟨_, _, by first | rfl | (simp [errW_none, errW_some] <;> rfl) | (simp [*, errW_none, errW_some] <;> rfl), Kd.R_V (base := 0) (by first | exact Kd.R_nil _ _ _ _ _ | exact Kd.N_nil _ _ _ _ _ | exact Kd.V_nil _ _ _ _ _ | exact Kd.Q_nil _ _ _ _ _ | exact Kd.S_nil _ _ _ _ _), Kd.R_V (base := 0) (by first | exact Kd.R_nil _ _ _ _ _ | exact Kd.N_nil _ _ _ _ _ | exact Kd.V_nil _ _ _ _ _ | exact Kd.Q_nil _ _ _ _ _ | exact Kd.S_nil _ _ _ _ _), b1 GE275.out⟩

/-! ### spec_Proven: function 83 -/
def spec_Proven.f (k : Nat) (a0 : Int) (a1 : Int) (a2 : Int) (a3 : Int) (l4 : List Int) (l5 : List Int) : Option (Bool) := (spec_RootFrom.f k a0 a2 a3 l4 l5).bind fun t291 => (if t291 ≥ 0 then (some (t291 == a1)) else (some false))
set_option maxHeartbeats 8000000 in
set_option maxRecDepth 100000 in
theorem spec_Proven.calls (k : Nat) (a0 : Int) (a1 : Int) (a2 : Int) (a3 : Int) (A4 : Option Addr) (c4 : Nat) (l4 : List Int) (A5 : Option Addr) (c5 : Nat) (l5 : List Int) (r : Bool) (w : World) (hr4 : Kd.C (Kd.int .u8) w A4 l4.length l4) (hc4 : l4.length ≤ c4) (hr5 : Kd.C (Kd.int .i64) w A5 l5.length l5) (hc5 : l5.length ≤ c5) (h : spec_Proven.f k a0 a1 a2 a3 l4 l5 = some r) :
  Calls Try.prog 83 #[.int .i64 a0, .int .i64 a1, .int .i64 a2, .int .i64 a3, .slice A4 l4.length c4, .slice A5 l5.length c5] w fun e w' => e = .returned (.bool r) ∧ Below w.heap.size w w' := by
 have HR4 := Aside0.mk hr4
 have HC4 := Aside0.mk hc4
 clear hr4 hc4
 have HR5 := Aside0.mk hr5
 have HC5 := Aside0.mk hc5
 clear hr5 hc5
 have HB := Aside0.mk (Below.refl w.heap.size w)
 have H : ((spec_RootFrom.f k a0 a2 a3 l4 l5).bind fun t291 => (if t291 ≥ 0 then (some (t291 == a1)) else (some false))) = some r := h
 clear h
 replace H := Option.bind_eq_some_iff.mp H
 obtain ⟨t291, A70, H⟩ := H
 (try dsimp -simprocs only at H)
 have A7 := Aside0.mk A70
 clear A70
 by_cases c8 : t291 ≥ 0
 ·rw [if_pos c8] at H
  have c8b0 : decide (0 ≤ t291) = true := decide_eq_true c8
  clear c8
  obtain rfl := Option.some.inj H
  go_enter Try.func83, Try.ntmps83
  go_wp2_with (first | ((with_reducible refine gate_callee (f := 114) rfl ?_); refine goesL_ (some 19) rfl rfl Try.func114 (by kernel_rfl) rfl #[.int .i64 a0, .int .i64 a2, .int .i64 a3, .slice A4 l4.length c4, .slice A5 l5.length c5] rfl av ?_; (with_reducible refine (spec_RootFrom.calls k a0 a2 a3 _ _ l4 _ _ l5 t291 _ ?side1 ?side2 ?side3 ?side4 A7.out).mono ?_); (case side1 => exact cv (HR4.out)); (case side2 => exact HC4.out); (case side3 => exact cv (HR5.out)); (case side4 => exact HC5.out); rintro e w9 ⟨rfl, hb⟩; refine ⟨_, rfl, ?_⟩; replace HB := Aside0.mk (below_step (bt) hb); (try clear hb); (try clear hb2); (try clear hk); (try clear hi)))
  go_ret
  exact ⟨by first | rfl | (simp [errW_none, errW_some] <;> rfl) | (simp [*, errW_none, errW_some] <;> rfl), bt⟩
 ·rw [if_neg c8] at H
  have c8b0 : decide (0 ≤ t291) = false := decide_eq_false c8
  clear c8
  obtain rfl := Option.some.inj H
  go_enter Try.func83, Try.ntmps83
  go_wp2_with (first | ((with_reducible refine gate_callee (f := 114) rfl ?_); refine goesL_ (some 19) rfl rfl Try.func114 (by kernel_rfl) rfl #[.int .i64 a0, .int .i64 a2, .int .i64 a3, .slice A4 l4.length c4, .slice A5 l5.length c5] rfl av ?_; (with_reducible refine (spec_RootFrom.calls k a0 a2 a3 _ _ l4 _ _ l5 t291 _ ?side1 ?side2 ?side3 ?side4 A7.out).mono ?_); (case side1 => exact cv (HR4.out)); (case side2 => exact HC4.out); (case side3 => exact cv (HR5.out)); (case side4 => exact HC5.out); rintro e w10 ⟨rfl, hb⟩; refine ⟨_, rfl, ?_⟩; replace HB := Aside0.mk (below_step (bt) hb); (try clear hb); (try clear hb2); (try clear hk); (try clear hi)))
  go_ret
  exact ⟨by first | rfl | (simp [errW_none, errW_some] <;> rfl) | (simp [*, errW_none, errW_some] <;> rfl), bt⟩

end Go.Proofs.Ytchjajbkaiefdaa.PFnExactFirstLiar
