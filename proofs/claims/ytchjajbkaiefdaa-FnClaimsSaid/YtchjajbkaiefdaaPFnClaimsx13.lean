-- Written by a program of this workplace (wip/mp.py) out of the translation.
import Derived.Test.YtchjajbkaiefdaaPFnClaimsx0
import Derived.Test.YtchjajbkaiefdaaPFnClaimsx7
import Derived.Test.YtchjajbkaiefdaaPFnClaimsx10
import Derived.Test.YtchjajbkaiefdaaPFnClaimsx11
import Derived.Test.YtchjajbkaiefdaaPFnClaimsx12
namespace Go.Proofs.Ytchjajbkaiefdaa.PFnClaims
open Go.RowKit Go.Proofs.YtchjajbkaiefdaaW.PrintWords Go.Proofs.YtchjajbkaiefdaaW.PrintLast Go.Proofs.YtchjajbkaiefdaaW.PrintMore Go.Proofs.Ytchjajbkaiefdaa.Slim
attribute [local go_sem] max2_int min2_int max_two min_two max_three min_three max_four min_four   -- for this text's walks alone
set_option linter.unusedVariables false
set_option linter.unusedSimpArgs false

/-! ### impl_Collides: function 13 -/
def impl_Collides.f (a0 : Int) (l1_0 : List Int) (l1_1 : List Int) : Option (Bool) := (impl_Digest.f a0 l1_0).bind fun t629 => (if t629 ≥ 0 then ((bytes_Equal.f l1_0 l1_1).bind fun t630 => (if t630 = true then (some false) else ((impl_Digest.f a0 l1_1).bind fun t631 => (some (t629 == t631))))) else (some false))
set_option maxHeartbeats 8000000 in
set_option maxRecDepth 100000 in
theorem impl_Collides.calls (a0 : Int) (A1_0 : Option Addr) (c1_0 : Nat) (l1_0 : List Int) (A1_1 : Option Addr) (c1_1 : Nat) (l1_1 : List Int) (r : Bool) (w : World) (hr1_0 : Kd.C (Kd.int .u8) w A1_0 l1_0.length l1_0) (hc1_0 : l1_0.length ≤ c1_0) (hr1_1 : Kd.C (Kd.int .u8) w A1_1 l1_1.length l1_1) (hc1_1 : l1_1.length ≤ c1_1) (h : impl_Collides.f a0 l1_0 l1_1 = some r) :
  Calls Try.prog 13 #[.int .i64 a0, .agg #[.slice A1_0 l1_0.length c1_0, .slice A1_1 l1_1.length c1_1]] w fun e w' => e = .returned (.bool r) ∧ Below w.heap.size w w' := by
 have hu33 := Try.underlying33
 have HR1_0 := Aside0.mk hr1_0
 have HC1_0 := Aside0.mk hc1_0
 clear hr1_0 hc1_0
 have HR1_1 := Aside0.mk hr1_1
 have HC1_1 := Aside0.mk hc1_1
 clear hr1_1 hc1_1
 have HB := Aside0.mk (Below.refl w.heap.size w)
 have H : ((impl_Digest.f a0 l1_0).bind fun t629 => (if t629 ≥ 0 then ((bytes_Equal.f l1_0 l1_1).bind fun t630 => (if t630 = true then (some false) else ((impl_Digest.f a0 l1_1).bind fun t631 => (some (t629 == t631))))) else (some false))) = some r := h
 clear h
 replace H := Option.bind_eq_some_iff.mp H
 obtain ⟨t629, A30, H⟩ := H
 (try dsimp -simprocs only at H)
 have A3 := Aside0.mk A30
 clear A30
 by_cases c4 : t629 ≥ 0
 ·rw [if_pos c4] at H
  have c4b0 : decide (0 ≤ t629) = true := decide_eq_true c4
  clear c4
  replace H := Option.bind_eq_some_iff.mp H
  obtain ⟨t630, A50, H⟩ := H
  (try dsimp -simprocs only at H)
  have A5 := Aside0.mk A50
  clear A50
  by_cases c6 : t630 = true
  ·subst c6
   rw [if_pos rfl] at H
   obtain rfl := Option.some.inj H
   go_enter Try.func13, Try.ntmps13
   go_wp2_with (first | ((with_reducible refine gate_dst (N := 3) rfl ?_); refine box_event ?hg (N := 3) ?hd (cs := #[.slice A1_0 l1_0.length c1_0, .slice A1_1 l1_1.length c1_1]) (t := 33) ?hr ?_; (case hd => rfl); (case hg => rfl); (case hr => first | (go_simp; done) | (go_simp; rfl)); intro gb628 hg w7 hbox hb; have BK628 := Aside0.mk (hbox); have GW628 := Aside0.mk ((by rw [hg]; exact (below_size (bt)) : w.heap.size ≤ gb628)); have GE628 := Aside0.mk ((by rw [hg]; exact (below_size (bt)) : w.heap.size ≤ gb628)); replace HB := Aside0.mk (below_step (bt) hb); clear hb hbox hg; have hcz8_0 : w7.cell? ⟨gb628, 0, none⟩ = some (.slice A1_0 l1_0.length c1_0) := (blk_cell BK628.out 0).trans rfl; have hcz8_1 : w7.cell? ⟨gb628, 1, none⟩ = some (.slice A1_1 l1_1.length c1_1) := (blk_cell BK628.out 1).trans rfl; have hfz8_0 := blk_frozen BK628.out 0; have hfz8_1 := blk_frozen BK628.out 1) | ((with_reducible refine gate_callee (f := 56) rfl ?_); refine goesL_ (some 9) rfl rfl Try.func56 (by kernel_rfl) rfl #[.int .i64 a0, .slice A1_0 l1_0.length c1_0] rfl av ?_; (with_reducible refine (impl_Digest.calls a0 _ _ l1_0 t629 _ ?side1 ?side2 A3.out).mono ?_); (case side1 => exact cv ((Kd.C_below HR1_0.out HB.out))); (case side2 => exact HC1_0.out); rintro e w9 ⟨rfl, hb⟩; refine ⟨_, rfl, ?_⟩; replace BK628 := Aside0.mk (blk_below (g := gb628) (o := .cells #[.slice A1_0 l1_0.length c1_0, .slice A1_1 l1_1.length c1_1] 33 (0, 0)) (mb BK628.out) hb); replace HB := Aside0.mk (below_step (b1 GE628.out) hb); (try clear hb); (try clear hb2); (try clear hk); (try clear hi); have hcz10_0 : w9.cell? ⟨gb628, 0, none⟩ = some (.slice A1_0 l1_0.length c1_0) := (blk_cell BK628.out 0).trans rfl; have hcz10_1 : w9.cell? ⟨gb628, 1, none⟩ = some (.slice A1_1 l1_1.length c1_1) := (blk_cell BK628.out 1).trans rfl; have hfz10_0 := blk_frozen BK628.out 0; have hfz10_1 := blk_frozen BK628.out 1) | (go_at_call 60; (with_reducible refine (bytes_Equal.calls _ _ l1_0 _ _ l1_1 true _ ?side1 ?side2 ?side3 ?side4 A5.out).mono ?_); (case side1 => exact cv ((Kd.C_below HR1_0.out HB.out))); (case side2 => exact HC1_0.out); (case side3 => exact cv ((Kd.C_below HR1_1.out HB.out))); (case side4 => exact HC1_1.out); rintro e w' ⟨rfl, ⟨nd, rfl⟩⟩))
   go_ret
   exact ⟨by first | rfl | (simp [errW_none, errW_some] <;> rfl) | (simp [*, errW_none, errW_some] <;> rfl), b1 GE628.out⟩
  ·replace c6 := Bool.eq_false_iff.mpr c6
   subst c6
   rw [if_neg (show ¬ (false = true) by decide)] at H
   replace H := Option.bind_eq_some_iff.mp H
   obtain ⟨t631, A110, H⟩ := H
   (try dsimp -simprocs only at H)
   have A11 := Aside0.mk A110
   clear A110
   obtain rfl := Option.some.inj H
   go_enter Try.func13, Try.ntmps13
   go_wp2_with (first | ((with_reducible refine gate_dst (N := 3) rfl ?_); refine box_event ?hg (N := 3) ?hd (cs := #[.slice A1_0 l1_0.length c1_0, .slice A1_1 l1_1.length c1_1]) (t := 33) ?hr ?_; (case hd => rfl); (case hg => rfl); (case hr => first | (go_simp; done) | (go_simp; rfl)); intro gb628 hg w12 hbox hb; have BK628 := Aside0.mk (hbox); have GW628 := Aside0.mk ((by rw [hg]; exact (below_size (bt)) : w.heap.size ≤ gb628)); have GE628 := Aside0.mk ((by rw [hg]; exact (below_size (bt)) : w.heap.size ≤ gb628)); replace HB := Aside0.mk (below_step (bt) hb); clear hb hbox hg; have hcz13_0 : w12.cell? ⟨gb628, 0, none⟩ = some (.slice A1_0 l1_0.length c1_0) := (blk_cell BK628.out 0).trans rfl; have hcz13_1 : w12.cell? ⟨gb628, 1, none⟩ = some (.slice A1_1 l1_1.length c1_1) := (blk_cell BK628.out 1).trans rfl; have hfz13_0 := blk_frozen BK628.out 0; have hfz13_1 := blk_frozen BK628.out 1) | ((with_reducible refine gate_callee (f := 56) rfl ?_); refine goesL_ (some 9) rfl rfl Try.func56 (by kernel_rfl) rfl #[.int .i64 a0, .slice A1_0 l1_0.length c1_0] rfl av ?_; (with_reducible refine (impl_Digest.calls a0 _ _ l1_0 t629 _ ?side1 ?side2 A3.out).mono ?_); (case side1 => exact cv ((Kd.C_below HR1_0.out HB.out))); (case side2 => exact HC1_0.out); rintro e w14 ⟨rfl, hb⟩; refine ⟨_, rfl, ?_⟩; replace BK628 := Aside0.mk (blk_below (g := gb628) (o := .cells #[.slice A1_0 l1_0.length c1_0, .slice A1_1 l1_1.length c1_1] 33 (0, 0)) (mb BK628.out) hb); replace HB := Aside0.mk (below_step (b1 GE628.out) hb); (try clear hb); (try clear hb2); (try clear hk); (try clear hi); have hcz15_0 : w14.cell? ⟨gb628, 0, none⟩ = some (.slice A1_0 l1_0.length c1_0) := (blk_cell BK628.out 0).trans rfl; have hcz15_1 : w14.cell? ⟨gb628, 1, none⟩ = some (.slice A1_1 l1_1.length c1_1) := (blk_cell BK628.out 1).trans rfl; have hfz15_0 := blk_frozen BK628.out 0; have hfz15_1 := blk_frozen BK628.out 1) | (go_at_call 60; (with_reducible refine (bytes_Equal.calls _ _ l1_0 _ _ l1_1 false _ ?side1 ?side2 ?side3 ?side4 A5.out).mono ?_); (case side1 => exact cv ((Kd.C_below HR1_0.out HB.out))); (case side2 => exact HC1_0.out); (case side3 => exact cv ((Kd.C_below HR1_1.out HB.out))); (case side4 => exact HC1_1.out); rintro e w' ⟨rfl, ⟨nd, rfl⟩⟩) | (go_at_call 56; (with_reducible refine (impl_Digest.calls a0 _ _ l1_1 t631 _ ?side1 ?side2 A11.out).mono ?_); (case side1 => repeat (first | exact (Kd.C_below HR1_1.out (b1 GE628.out)) | (with_reducible refine Kd.C_alloc ?_ _) | (with_reducible refine Kd.C_drewN ?_ _) | (with_reducible refine Kd.C_drew ?_))); (case side2 => exact HC1_1.out); rintro e w16 ⟨rfl, hb⟩; replace BK628 := Aside0.mk (blk_below (g := gb628) (o := .cells #[.slice A1_0 l1_0.length c1_0, .slice A1_1 l1_1.length c1_1] 33 (0, 0)) (mb BK628.out) hb); replace HB := Aside0.mk (below_step (b1 GE628.out) hb); (try clear hb); (try clear hb2); (try clear hk); (try clear hi)))
   go_ret
   exact ⟨by first | rfl | (simp [errW_none, errW_some] <;> rfl) | (simp [*, errW_none, errW_some] <;> rfl), b1 GE628.out⟩
 ·rw [if_neg c4] at H
  have c4b0 : decide (0 ≤ t629) = false := decide_eq_false c4
  clear c4
  obtain rfl := Option.some.inj H
  go_enter Try.func13, Try.ntmps13
  go_wp2_with (first | ((with_reducible refine gate_dst (N := 3) rfl ?_); refine box_event ?hg (N := 3) ?hd (cs := #[.slice A1_0 l1_0.length c1_0, .slice A1_1 l1_1.length c1_1]) (t := 33) ?hr ?_; (case hd => rfl); (case hg => rfl); (case hr => first | (go_simp; done) | (go_simp; rfl)); intro gb628 hg w17 hbox hb; have BK628 := Aside0.mk (hbox); have GW628 := Aside0.mk ((by rw [hg]; exact (below_size (bt)) : w.heap.size ≤ gb628)); have GE628 := Aside0.mk ((by rw [hg]; exact (below_size (bt)) : w.heap.size ≤ gb628)); replace HB := Aside0.mk (below_step (bt) hb); clear hb hbox hg; have hcz18_0 : w17.cell? ⟨gb628, 0, none⟩ = some (.slice A1_0 l1_0.length c1_0) := (blk_cell BK628.out 0).trans rfl; have hcz18_1 : w17.cell? ⟨gb628, 1, none⟩ = some (.slice A1_1 l1_1.length c1_1) := (blk_cell BK628.out 1).trans rfl; have hfz18_0 := blk_frozen BK628.out 0; have hfz18_1 := blk_frozen BK628.out 1) | ((with_reducible refine gate_callee (f := 56) rfl ?_); refine goesL_ (some 9) rfl rfl Try.func56 (by kernel_rfl) rfl #[.int .i64 a0, .slice A1_0 l1_0.length c1_0] rfl av ?_; (with_reducible refine (impl_Digest.calls a0 _ _ l1_0 t629 _ ?side1 ?side2 A3.out).mono ?_); (case side1 => exact cv ((Kd.C_below HR1_0.out HB.out))); (case side2 => exact HC1_0.out); rintro e w19 ⟨rfl, hb⟩; refine ⟨_, rfl, ?_⟩; replace BK628 := Aside0.mk (blk_below (g := gb628) (o := .cells #[.slice A1_0 l1_0.length c1_0, .slice A1_1 l1_1.length c1_1] 33 (0, 0)) (mb BK628.out) hb); replace HB := Aside0.mk (below_step (b1 GE628.out) hb); (try clear hb); (try clear hb2); (try clear hk); (try clear hi)))
  go_ret
  exact ⟨by first | rfl | (simp [errW_none, errW_some] <;> rfl) | (simp [*, errW_none, errW_some] <;> rfl), b1 GE628.out⟩

/-! ### impl_Path: function 43 -/
def impl_Path.f (k : Nat) (a0 : Int) (l1 : List (List Int)) (a2 : Int) : Option (List Int × Bool) := (impl_leavesOk.f a0 l1).bind fun t632 => (if t632 = true then ((impl_in.f a2 0 (wrap64 ((l1.length : Int) - 1))).bind fun t633 => (if t633 = true then ((impl_path.f k a0 l1 a2).bind fun t634 => (some (t634, true))) else (some (([] : List Int), false)))) else (some (([] : List Int), false)))
set_option maxHeartbeats 8000000 in
set_option maxRecDepth 100000 in
theorem impl_Path.calls (k : Nat) (a0 : Int) (A1 : Option Addr) (c1 : Nat) (l1 : List (List Int)) (a2 : Int) (r1 : List Int) (r2 : Bool) (w : World) (hr1 : Kd.C (Kd.slice 5 (Kd.int .u8)) w A1 l1.length l1) (hc1 : l1.length ≤ c1) (h : impl_Path.f k a0 l1 a2 = some (r1, r2)) :
  Calls Try.prog 43 #[.int .i64 a0, .slice A1 l1.length c1, .int .i64 a2] w fun e w' => ∃ v0_ : Value, e = .returned (.tuple #[v0_, .bool r2]) ∧ Kd.R (Kd.int .i64) 3 w' w.heap.size (fun _ => True) v0_ r1 ∧ Below w.heap.size w w' := by
 have HR1 := Aside0.mk hr1
 have HC1 := Aside0.mk hc1
 clear hr1 hc1
 have HB := Aside0.mk (Below.refl w.heap.size w)
 have H : ((impl_leavesOk.f a0 l1).bind fun t632 => (if t632 = true then ((impl_in.f a2 0 (wrap64 ((l1.length : Int) - 1))).bind fun t633 => (if t633 = true then ((impl_path.f k a0 l1 a2).bind fun t634 => (some (t634, true))) else (some (([] : List Int), false)))) else (some (([] : List Int), false)))) = some (r1, r2) := h
 clear h
 replace H := Option.bind_eq_some_iff.mp H
 obtain ⟨t632, A40, H⟩ := H
 (try dsimp -simprocs only at H)
 have A4 := Aside0.mk A40
 clear A40
 by_cases c5 : t632 = true
 ·subst c5
  rw [if_pos rfl] at H
  replace H := Option.bind_eq_some_iff.mp H
  obtain ⟨t633, A60, H⟩ := H
  (try dsimp -simprocs only at H)
  have A6 := Aside0.mk A60
  clear A60
  by_cases c7 : t633 = true
  ·subst c7
   rw [if_pos rfl] at H
   replace H := Option.bind_eq_some_iff.mp H
   obtain ⟨t634, A80, H⟩ := H
   (try dsimp -simprocs only at H)
   have A8 := Aside0.mk A80
   clear A80
   simp only [Option.some.injEq, Prod.mk.injEq] at H
   obtain ⟨rfl, rfl⟩ := H
   go_enter Try.func43, Try.ntmps43
   go_wp2_with (first | ((with_reducible refine gate_callee (f := 55) rfl ?_); refine goesL_ (some 10) rfl rfl Try.func55 (by kernel_rfl) rfl #[.int .i64 a0, .slice A1 l1.length c1] rfl av ?_; (with_reducible refine (impl_leavesOk.calls a0 _ _ l1 true _ ?side1 ?side2 A4.out).mono ?_); (case side1 => exact cv (HR1.out)); (case side2 => exact HC1.out); rintro e w' ⟨rfl, ⟨nd, rfl⟩⟩; refine ⟨_, rfl, ?_⟩) | (go_at_call 94; (with_reducible refine (impl_in.calls a2 0 (wrap64 ((l1.length : Int) - 1)) true _ A6.out).mono ?_); rintro e w' ⟨rfl, ⟨nd, rfl⟩⟩) | ((with_reducible refine gate_callee (f := 58) rfl ?_); refine goesL_ (some 23) rfl rfl Try.func58 (by kernel_rfl) rfl #[.int .i64 a0, .slice A1 l1.length c1, .int .i64 a2] rfl av ?_; (with_reducible refine (impl_path.calls k a0 _ _ l1 a2 t634 _ ?side1 ?side2 A8.out).mono ?_); (case side1 => exact cv (HR1.out)); (case side2 => exact HC1.out); rintro e w9 ⟨v635, rfl, ho0, hb⟩; refine ⟨_, rfl, ?_⟩; have HO636 := Aside0.mk (Kd.R_lower ho0 (below_size (bt))); replace HB := Aside0.mk (below_step (bt) hb); (try clear hb); (try clear hb2); (try clear hk); (try clear hi); (try clear ho0)))
   go_ret2
   exact ⟨_, by first | rfl | (simp [errW_none, errW_some] <;> rfl) | (simp [*, errW_none, errW_some] <;> rfl), by (with_reducible repeat (first | apply Kd.R_alloc | apply Kd.R_drewN | apply Kd.R_drew)); exact HO636.out, bt⟩
  ·replace c7 := Bool.eq_false_iff.mpr c7
   subst c7
   rw [if_neg (show ¬ (false = true) by decide)] at H
   simp only [Option.some.injEq, Prod.mk.injEq] at H
   obtain ⟨rfl, rfl⟩ := H
   go_enter Try.func43, Try.ntmps43
   go_wp2_with (first | ((with_reducible refine gate_callee (f := 55) rfl ?_); refine goesL_ (some 10) rfl rfl Try.func55 (by kernel_rfl) rfl #[.int .i64 a0, .slice A1 l1.length c1] rfl av ?_; (with_reducible refine (impl_leavesOk.calls a0 _ _ l1 true _ ?side1 ?side2 A4.out).mono ?_); (case side1 => exact cv (HR1.out)); (case side2 => exact HC1.out); rintro e w' ⟨rfl, ⟨nd, rfl⟩⟩; refine ⟨_, rfl, ?_⟩) | (go_at_call 94; (with_reducible refine (impl_in.calls a2 0 (wrap64 ((l1.length : Int) - 1)) false _ A6.out).mono ?_); rintro e w' ⟨rfl, ⟨nd, rfl⟩⟩))
   go_ret2
   exact ⟨_, by first | rfl | (simp [errW_none, errW_some] <;> rfl) | (simp [*, errW_none, errW_some] <;> rfl), by first | exact Kd.R_nil _ _ _ _ _ | exact Kd.N_nil _ _ _ _ _ | exact Kd.V_nil _ _ _ _ _ | exact Kd.Q_nil _ _ _ _ _ | exact Kd.S_nil _ _ _ _ _, bt⟩
 ·replace c5 := Bool.eq_false_iff.mpr c5
  subst c5
  rw [if_neg (show ¬ (false = true) by decide)] at H
  simp only [Option.some.injEq, Prod.mk.injEq] at H
  obtain ⟨rfl, rfl⟩ := H
  go_enter Try.func43, Try.ntmps43
  go_wp2_with (first | ((with_reducible refine gate_callee (f := 55) rfl ?_); refine goesL_ (some 10) rfl rfl Try.func55 (by kernel_rfl) rfl #[.int .i64 a0, .slice A1 l1.length c1] rfl av ?_; (with_reducible refine (impl_leavesOk.calls a0 _ _ l1 false _ ?side1 ?side2 A4.out).mono ?_); (case side1 => exact cv (HR1.out)); (case side2 => exact HC1.out); rintro e w' ⟨rfl, ⟨nd, rfl⟩⟩; refine ⟨_, rfl, ?_⟩))
  go_ret2
  exact ⟨_, by first | rfl | (simp [errW_none, errW_some] <;> rfl) | (simp [*, errW_none, errW_some] <;> rfl), by first | exact Kd.R_nil _ _ _ _ _ | exact Kd.N_nil _ _ _ _ _ | exact Kd.V_nil _ _ _ _ _ | exact Kd.Q_nil _ _ _ _ _ | exact Kd.S_nil _ _ _ _ _, bt⟩

/-! ### impl_Honest: function 15 -/
def impl_Honest.f (k : Nat) (a0 : Int) (l1 : List (List Int)) (a2 : Int) : Option (Int × Int × List Int × List Int × Bool) := (impl_Path.f k a0 l1 a2).bind fun bt638 => (if bt638.2 = true then (if 0 ≤ a2 then (if a2 < (l1.length : Int) then ((bytes_Clone.f (rd_L2 l1 a2)).bind fun t643 => (some ((l1.length : Int), a2, t643, bt638.1, true))) else (none)) else (none)) else (some (0, 0, ([] : List Int), ([] : List Int), false)))
set_option maxHeartbeats 8000000 in
set_option maxRecDepth 100000 in
theorem impl_Honest.calls (k : Nat) (a0 : Int) (A1 : Option Addr) (c1 : Nat) (l1 : List (List Int)) (a2 : Int) (r1 : Int) (r2 : Int) (r3 : List Int) (r4 : List Int) (r5 : Bool) (w : World) (hr1 : Kd.C (Kd.slice 5 (Kd.int .u8)) w A1 l1.length l1) (hc1 : l1.length ≤ c1) (h : impl_Honest.f k a0 l1 a2 = some (r1, r2, r3, r4, r5)) :
  Calls Try.prog 15 #[.int .i64 a0, .slice A1 l1.length c1, .int .i64 a2] w fun e w' => ∃ v2_ v3_ : Value, e = .returned (.tuple #[.agg #[.int .i64 r1, .int .i64 r2, v2_, v3_], .bool r5]) ∧ Kd.R (Kd.int .u8) 5 w' w.heap.size (fun _ => True) v2_ r3 ∧ Kd.R (Kd.int .i64) 3 w' w.heap.size (fun _ => True) v3_ r4 ∧ Below w.heap.size w w' := by
 have hu31 := Try.underlying31
 have HR1 := Aside0.mk hr1
 have HC1 := Aside0.mk hc1
 clear hr1 hc1
 have HB := Aside0.mk (Below.refl w.heap.size w)
 have H : ((impl_Path.f k a0 l1 a2).bind fun bt638 => (if bt638.2 = true then (if 0 ≤ a2 then (if a2 < (l1.length : Int) then ((bytes_Clone.f (rd_L2 l1 a2)).bind fun t643 => (some ((l1.length : Int), a2, t643, bt638.1, true))) else (none)) else (none)) else (some (0, 0, ([] : List Int), ([] : List Int), false)))) = some (r1, r2, r3, r4, r5) := h
 clear h
 replace H := Option.bind_eq_some_iff.mp H
 obtain ⟨⟨t638, t639⟩, A40, H⟩ := H
 (try dsimp -simprocs only at H)
 have A4 := Aside0.mk A40
 clear A40
 by_cases c5 : t639 = true
 ·subst c5
  rw [if_pos rfl] at H
  by_cases c6 : 0 ≤ a2
  ·rw [if_pos c6] at H
   have c6b0 : decide (0 ≤ a2) = true := decide_eq_true c6
   clear c6
   by_cases c7 : a2 < (l1.length : Int)
   ·rw [if_pos c7] at H
    have c7b0 : decide (a2 < (l1.length : Int)) = true := decide_eq_true c7
    clear c7
    replace H := Option.bind_eq_some_iff.mp H
    obtain ⟨t643, A80, H⟩ := H
    (try dsimp -simprocs only at H)
    have A8 := Aside0.mk A80
    clear A80
    simp only [Option.some.injEq, Prod.mk.injEq] at H
    obtain ⟨rfl, rfl, rfl, rfl, rfl⟩ := H
    go_enter Try.func15, Try.ntmps15
    go_wp2_with (first | ((with_reducible refine gate_dst (N := 6) rfl ?_); refine box_event ?hg (N := 6) ?hd (cs := #[.int .i64 0, .int .i64 0, .slice none 0 0, .slice none 0 0]) (t := 31) ?hr ?_; (case hd => rfl); (case hg => rfl); (case hr => first | (go_simp; done) | (go_simp; rfl)); intro gb637 hg w9 hbox hb; have BK637 := Aside0.mk (hbox); have GW637 := Aside0.mk ((by rw [hg]; exact (below_size (bt)) : w.heap.size ≤ gb637)); have GE637 := Aside0.mk ((by rw [hg]; exact (below_size (bt)) : w.heap.size ≤ gb637)); replace HB := Aside0.mk (below_step (bt) hb); clear hb hbox hg) | ((with_reducible refine gate_callee (f := 43) rfl ?_); refine goesL_ (some 14) rfl rfl Try.func43 (by kernel_rfl) rfl #[.int .i64 a0, .slice A1 l1.length c1, .int .i64 a2] rfl av ?_; (with_reducible refine (impl_Path.calls k a0 _ _ l1 a2 t638 true _ ?side1 ?side2 A4.out).mono ?_); (case side1 => exact cv ((Kd.C_below HR1.out HB.out))); (case side2 => exact HC1.out); rintro e w10 ⟨v640, rfl, ho0, hb⟩; refine ⟨_, rfl, ?_⟩; have HO641 := Aside0.mk (Kd.R_lower ho0 (below_size (b1 GE637.out))); replace BK637 := Aside0.mk (blk_below (g := gb637) (o := .cells #[.int .i64 0, .int .i64 0, .slice none 0 0, .slice none 0 0] 31 (0, 0)) (mb BK637.out) hb); replace HB := Aside0.mk (below_step (b1 GE637.out) hb); (try clear hb); (try clear hb2); (try clear hk); (try clear hi); (try clear ho0); have p642 : 0 ≤ (a2 : Int) := of_decide_eq_true asm; have q642 : a2 < (l1.length : Int) := of_decide_eq_true asm; obtain ⟨ad642, A642_0, c642_0, e642, hx642_0, hl642_0, hi642_0⟩ := at_L2 HR1.out a2 p642 q642; cases e642; (try (replace hx642_0 := (HB.out.cell (World.block_lt_of_cell? w _ hx642_0)).trans hx642_0)); have HR642_0 := Aside0.mk hi642_0; have HC642_0 := Aside0.mk hl642_0; clear hi642_0 hl642_0; replace p642 := eq_true p642; replace q642 := eq_true q642) | ((with_reducible refine gate_callee (f := 61) rfl ?_); refine goesL_ (some 27) rfl rfl Try.func61 (by kernel_rfl) rfl #[.slice A642_0 (rd_L2 l1 a2).length c642_0] rfl av ?_; (with_reducible refine (bytes_Clone.calls _ _ (rd_L2 l1 a2) t643 _ ?side1 ?side2 A8.out).mono ?_); (case side1 => exact cv ((Kd.C_below HR642_0.out HB.out))); (case side2 => exact HC642_0.out); rintro e w11 ⟨v644, rfl, ho0, hb⟩; refine ⟨_, rfl, ?_⟩; replace HO641 := Aside0.mk (Kd.R_below (mv HO641.out) hb); have HO645 := Aside0.mk (Kd.R_lower ho0 (below_size (b1 GE637.out))); replace BK637 := Aside0.mk (blk_below (g := gb637) (o := .cells #[.int .i64 0, .int .i64 0, .slice none 0 0, .slice none 0 0] 31 (0, 0)) (mb BK637.out) hb); replace HB := Aside0.mk (below_step (b1 GE637.out) hb); (try clear hb); (try clear hb2); (try clear hk); (try clear hi); (try clear ho0); obtain ⟨Ao12, co12, eo12⟩ := Kd.R_slice HO641.out; subst eo12; obtain ⟨Ao13, co13, eo13⟩ := Kd.R_slice HO645.out; subst eo13; have hcz14_0 : w11.cell? ⟨gb637, 0, none⟩ = some (.int .i64 0) := (blk_cell BK637.out 0).trans rfl; have hcz14_1 : w11.cell? ⟨gb637, 1, none⟩ = some (.int .i64 0) := (blk_cell BK637.out 1).trans rfl; have hcz14_2 : w11.cell? ⟨gb637, 2, none⟩ = some (.slice none 0 0) := (blk_cell BK637.out 2).trans rfl; have hcz14_3 : w11.cell? ⟨gb637, 3, none⟩ = some (.slice none 0 0) := (blk_cell BK637.out 3).trans rfl; have hfz14_0 := blk_frozen BK637.out 0; have hfz14_1 := blk_frozen BK637.out 1; have hfz14_2 := blk_frozen BK637.out 2; have hfz14_3 := blk_frozen BK637.out 3))
    refine bodyPost_ret (results_ct rfl _ _ gb637 31 #[.int .i64 (l1.length : Int), .int .i64 a2, .slice Ao13 t643.length co13, .slice Ao12 t638.length co12] (0, 0) _ rfl (by (with_reducible repeat (first | refine blk_drewN ?_ _ | refine blk_drew ?_ | refine blk_alloc ?_ _)); refine blk_put (cs := #[.int .i64 (l1.length : Int), .int .i64 a2, .slice Ao13 t643.length co13, .slice none 0 0]) ?_ 3 _ rfl; (with_reducible repeat (first | refine blk_drewN ?_ _ | refine blk_drew ?_ | refine blk_alloc ?_ _)); refine blk_put (cs := #[.int .i64 (l1.length : Int), .int .i64 a2, .slice none 0 0, .slice none 0 0]) ?_ 2 _ rfl; (with_reducible repeat (first | refine blk_drewN ?_ _ | refine blk_drew ?_ | refine blk_alloc ?_ _)); refine blk_put (cs := #[.int .i64 (l1.length : Int), .int .i64 0, .slice none 0 0, .slice none 0 0]) ?_ 1 _ rfl; (with_reducible repeat (first | refine blk_drewN ?_ _ | refine blk_drew ?_ | refine blk_alloc ?_ _)); refine blk_put (cs := #[.int .i64 0, .int .i64 0, .slice none 0 0, .slice none 0 0]) ?_ 0 _ rfl; (with_reducible repeat (first | refine blk_drewN ?_ _ | refine blk_drew ?_ | refine blk_alloc ?_ _)); exact BK637.out) Try.underlying31 rfl (by kernel_rfl)) rfl ?_
    exact ⟨_, _, by first | rfl | (simp [errW_none, errW_some] <;> rfl) | (simp [*, errW_none, errW_some] <;> rfl), by (with_reducible repeat (first | apply Kd.R_alloc | apply Kd.R_drewN | apply Kd.R_drew)); exact Kd.R_mono (Kd.R_far (p := ⟨gb637, 3, none⟩) (Kd.R_far (p := ⟨gb637, 2, none⟩) (Kd.R_far (p := ⟨gb637, 1, none⟩) (Kd.R_far (p := ⟨gb637, 0, none⟩) (Kd.R_types HO645.out BK637.out (by decide)) (fun _ hk => hk.2) (.int .i64 (l1.length : Int))) (fun _ hk => hk.2) (.int .i64 a2)) (fun _ hk => hk.2) (.slice Ao13 t643.length co13)) (fun _ hk => hk.2) (.slice Ao12 t638.length co12)) (fun _ hk => trivial), by (with_reducible repeat (first | apply Kd.R_alloc | apply Kd.R_drewN | apply Kd.R_drew)); exact Kd.R_mono (Kd.R_far (p := ⟨gb637, 3, none⟩) (Kd.R_far (p := ⟨gb637, 2, none⟩) (Kd.R_far (p := ⟨gb637, 1, none⟩) (Kd.R_far (p := ⟨gb637, 0, none⟩) (Kd.R_types HO641.out BK637.out (by decide)) (fun _ hk => hk.2) (.int .i64 (l1.length : Int))) (fun _ hk => hk.2) (.int .i64 a2)) (fun _ hk => hk.2) (.slice Ao13 t643.length co13)) (fun _ hk => hk.2) (.slice Ao12 t638.length co12)) (fun _ hk => trivial), b1 GE637.out⟩
   ·rw [if_neg c7] at H
    exact absurd H (by simp)
  ·rw [if_neg c6] at H
   exact absurd H (by simp)
 ·replace c5 := Bool.eq_false_iff.mpr c5
  subst c5
  rw [if_neg (show ¬ (false = true) by decide)] at H
  simp only [Option.some.injEq, Prod.mk.injEq] at H
  obtain ⟨rfl, rfl, rfl, rfl, rfl⟩ := H
  go_enter Try.func15, Try.ntmps15
  go_wp2_with (first | ((with_reducible refine gate_dst (N := 6) rfl ?_); refine box_event ?hg (N := 6) ?hd (cs := #[.int .i64 0, .int .i64 0, .slice none 0 0, .slice none 0 0]) (t := 31) ?hr ?_; (case hd => rfl); (case hg => rfl); (case hr => first | (go_simp; done) | (go_simp; rfl)); intro gb637 hg w15 hbox hb; have BK637 := Aside0.mk (hbox); have GW637 := Aside0.mk ((by rw [hg]; exact (below_size (bt)) : w.heap.size ≤ gb637)); have GE637 := Aside0.mk ((by rw [hg]; exact (below_size (bt)) : w.heap.size ≤ gb637)); replace HB := Aside0.mk (below_step (bt) hb); clear hb hbox hg) | ((with_reducible refine gate_callee (f := 43) rfl ?_); refine goesL_ (some 14) rfl rfl Try.func43 (by kernel_rfl) rfl #[.int .i64 a0, .slice A1 l1.length c1, .int .i64 a2] rfl av ?_; (with_reducible refine (impl_Path.calls k a0 _ _ l1 a2 t638 false _ ?side1 ?side2 A4.out).mono ?_); (case side1 => exact cv ((Kd.C_below HR1.out HB.out))); (case side2 => exact HC1.out); rintro e w16 ⟨v640, rfl, ho0, hb⟩; refine ⟨_, rfl, ?_⟩; have HO641 := Aside0.mk (Kd.R_lower ho0 (below_size (b1 GE637.out))); replace BK637 := Aside0.mk (blk_below (g := gb637) (o := .cells #[.int .i64 0, .int .i64 0, .slice none 0 0, .slice none 0 0] 31 (0, 0)) (mb BK637.out) hb); replace HB := Aside0.mk (below_step (b1 GE637.out) hb); (try clear hb); (try clear hb2); (try clear hk); (try clear hi); (try clear ho0); have hcz17_0 : w16.cell? ⟨gb637, 0, none⟩ = some (.int .i64 0) := (blk_cell BK637.out 0).trans rfl; have hcz17_1 : w16.cell? ⟨gb637, 1, none⟩ = some (.int .i64 0) := (blk_cell BK637.out 1).trans rfl; have hcz17_2 : w16.cell? ⟨gb637, 2, none⟩ = some (.slice none 0 0) := (blk_cell BK637.out 2).trans rfl; have hcz17_3 : w16.cell? ⟨gb637, 3, none⟩ = some (.slice none 0 0) := (blk_cell BK637.out 3).trans rfl; have hfz17_0 := blk_frozen BK637.out 0; have hfz17_1 := blk_frozen BK637.out 1; have hfz17_2 := blk_frozen BK637.out 2; have hfz17_3 := blk_frozen BK637.out 3))
  refine bodyPost_ret (results_ct rfl _ _ gb637 31 #[.int .i64 0, .int .i64 0, .slice none 0 0, .slice none 0 0] (0, 0) _ rfl (by (with_reducible repeat (first | refine blk_drewN ?_ _ | refine blk_drew ?_ | refine blk_alloc ?_ _)); refine blk_put (cs := #[.int .i64 0, .int .i64 0, .slice none 0 0, .slice none 0 0]) ?_ 3 _ rfl; (with_reducible repeat (first | refine blk_drewN ?_ _ | refine blk_drew ?_ | refine blk_alloc ?_ _)); refine blk_put (cs := #[.int .i64 0, .int .i64 0, .slice none 0 0, .slice none 0 0]) ?_ 2 _ rfl; (with_reducible repeat (first | refine blk_drewN ?_ _ | refine blk_drew ?_ | refine blk_alloc ?_ _)); refine blk_put (cs := #[.int .i64 0, .int .i64 0, .slice none 0 0, .slice none 0 0]) ?_ 1 _ rfl; (with_reducible repeat (first | refine blk_drewN ?_ _ | refine blk_drew ?_ | refine blk_alloc ?_ _)); refine blk_put (cs := #[.int .i64 0, .int .i64 0, .slice none 0 0, .slice none 0 0]) ?_ 0 _ rfl; (with_reducible repeat (first | refine blk_drewN ?_ _ | refine blk_drew ?_ | refine blk_alloc ?_ _)); exact BK637.out) Try.underlying31 rfl (by kernel_rfl)) rfl ?_
  exact ⟨_, _, by first | rfl | (simp [errW_none, errW_some] <;> rfl) | (simp [*, errW_none, errW_some] <;> rfl), by first | exact Kd.R_nil _ _ _ _ _ | exact Kd.N_nil _ _ _ _ _ | exact Kd.V_nil _ _ _ _ _ | exact Kd.Q_nil _ _ _ _ _ | exact Kd.S_nil _ _ _ _ _, by first | exact Kd.R_nil _ _ _ _ _ | exact Kd.N_nil _ _ _ _ _ | exact Kd.V_nil _ _ _ _ _ | exact Kd.Q_nil _ _ _ _ _ | exact Kd.S_nil _ _ _ _ _, b1 GE637.out⟩

/-! ### impl_FirstLiar: function 16 -/
def impl_FirstLiar.l0 : Nat → Int → List (List Int) → List (S31) → Int → Int → Option (Int × List Int × List Int × Bool)
 | 0, _, _, _, _, _ => none
 | k + 1, x0, x1, x17, x18, x19 => if x19 < x18 then (if 0 ≤ x19 then (if x19 < (x17.length : Int) then ((impl_Liar.f k x0 x1 ((rd_T31 x17 x19).f0) ((rd_T31 x17 x19).f1) ((rd_T31 x17 x19).f2) ((rd_T31 x17 x19).f3)).bind fun bt649 => (if bt649.2.2 = true then (some (x19, bt649.1, bt649.2.1, true)) else (impl_FirstLiar.l0 k x0 x1 x17 x18 (wrap64 (x19 + 1))))) else (none)) else (none)) else (some ((-1), ([] : List Int), ([] : List Int), false))
def impl_FirstLiar.f (k : Nat) (a0 : Int) (l1 : List (List Int)) (l2 : List (S31)) : Option (Int × List Int × List Int × Bool) := if (l2.length : Int) > 60 then (some ((-1), ([] : List Int), ([] : List Int), false)) else (impl_FirstLiar.l0 k a0 l1 l2 (l2.length : Int) 0)
set_option maxHeartbeats 8000000 in
set_option maxRecDepth 100000 in
theorem impl_FirstLiar.calls (k : Nat) (a0 : Int) (A1 : Option Addr) (c1 : Nat) (l1 : List (List Int)) (A2 : Option Addr) (c2 : Nat) (l2 : List (S31)) (r1 : Int) (r2 : List Int) (r3 : List Int) (r4 : Bool) (w : World) (hr1 : Kd.C (Kd.slice 5 (Kd.int .u8)) w A1 l1.length l1) (hc1 : l1.length ≤ c1) (hr2 : Kd.C k31 w A2 l2.length l2) (hc2 : l2.length ≤ c2) (h : impl_FirstLiar.f k a0 l1 l2 = some (r1, r2, r3, r4)) :
  Calls Try.prog 16 #[.int .i64 a0, .slice A1 l1.length c1, .slice A2 l2.length c2] w fun e w' => ∃ v1_ v2_ : Value, e = .returned (.tuple #[.int .i64 r1, .agg #[v1_, v2_], .bool r4]) ∧ Kd.R (Kd.int .u8) 5 w' w.heap.size (fun k_ => some k_ ≠ (v2_ : Value).ownBlock) v1_ r2 ∧ Kd.R (Kd.int .u8) 5 w' w.heap.size (fun k_ => some k_ ≠ (v1_ : Value).ownBlock) v2_ r3 ∧ Below w.heap.size w w' := by
 have hu33 := Try.underlying33
 have hu31 := Try.underlying31
 have HR1 := Aside0.mk hr1
 have HC1 := Aside0.mk hc1
 clear hr1 hc1
 have HR2 := Aside0.mk hr2
 have HC2 := Aside0.mk hc2
 clear hr2 hc2
 have HB := Aside0.mk (Below.refl w.heap.size w)
 have H : (if (l2.length : Int) > 60 then (some ((-1), ([] : List Int), ([] : List Int), false)) else (impl_FirstLiar.l0 k a0 l1 l2 (l2.length : Int) 0)) = some (r1, r2, r3, r4) := h
 clear h
 by_cases c4 : (l2.length : Int) > 60
 ·rw [if_pos c4] at H
  have c4b0 : decide (60 < (l2.length : Int)) = true := decide_eq_true c4
  have c4b1 : decide (60 < l2.length) = true := decide_eq_true (by omega)
  clear c4
  simp only [Option.some.injEq, Prod.mk.injEq] at H
  obtain ⟨rfl, rfl, rfl, rfl⟩ := H
  go_enter Try.func16, Try.ntmps16
  go_wp2_with (first | ((with_reducible refine gate_dst (N := 7) rfl ?_); refine box_event ?hg (N := 7) ?hd (cs := #[.slice none 0 0, .slice none 0 0]) (t := 33) ?hr ?_; (case hd => rfl); (case hg => rfl); (case hr => first | (go_simp; done) | (go_simp; rfl)); intro gb646 hg w5 hbox hb; have BK646 := Aside0.mk (hbox); have GW646 := Aside0.mk ((by rw [hg]; exact (below_size (bt)) : w.heap.size ≤ gb646)); have GE646 := Aside0.mk ((by rw [hg]; exact (below_size (bt)) : w.heap.size ≤ gb646)); replace HB := Aside0.mk (below_step (bt) hb); clear hb hbox hg; have hcz6_0 : w5.cell? ⟨gb646, 0, none⟩ = some (.slice none 0 0) := (blk_cell BK646.out 0).trans rfl; have hcz6_1 : w5.cell? ⟨gb646, 1, none⟩ = some (.slice none 0 0) := (blk_cell BK646.out 1).trans rfl; have hfz6_0 := blk_frozen BK646.out 0; have hfz6_1 := blk_frozen BK646.out 1))
  refine bodyPost_ret (results_list (rs := [.tmp 6, .cell 7 33, .tmp 8]) rfl (by simp) (.tmp (.cell gb646 33 #[.slice none 0 0, .slice none 0 0] (0, 0) _ rfl (by (with_reducible repeat (first | refine blk_drewN ?_ _ | refine blk_drew ?_ | refine blk_alloc ?_ _)); refine blk_put (cs := #[.slice none 0 0, .slice none 0 0]) ?_ 1 _ rfl; (with_reducible repeat (first | refine blk_drewN ?_ _ | refine blk_drew ?_ | refine blk_alloc ?_ _)); refine blk_put (cs := #[.slice none 0 0, .slice none 0 0]) ?_ 0 _ rfl; (with_reducible repeat (first | refine blk_drewN ?_ _ | refine blk_drew ?_ | refine blk_alloc ?_ _)); exact BK646.out) Try.underlying33 rfl (by kernel_rfl) (.tmp .nil)))) rfl ?_
  exact ⟨_, _, by first | rfl | (simp [errW_none, errW_some] <;> rfl) | (simp [*, errW_none, errW_some] <;> rfl), by first | exact Kd.R_nil _ _ _ _ _ | exact Kd.N_nil _ _ _ _ _ | exact Kd.V_nil _ _ _ _ _ | exact Kd.Q_nil _ _ _ _ _ | exact Kd.S_nil _ _ _ _ _, by first | exact Kd.R_nil _ _ _ _ _ | exact Kd.N_nil _ _ _ _ _ | exact Kd.V_nil _ _ _ _ _ | exact Kd.Q_nil _ _ _ _ _ | exact Kd.S_nil _ _ _ _ _, b1 GE646.out⟩
 ·rw [if_neg c4] at H
  have c4b0 : decide (60 < (l2.length : Int)) = false := decide_eq_false c4
  have c4b1 : decide (60 < l2.length) = false := decide_eq_false (by omega)
  clear c4
  have H' := Aside0.mk H
  clear H
  go_enter Try.func16, Try.ntmps16
  go_wp2_with (first | ((with_reducible refine gate_dst (N := 7) rfl ?_); refine box_event ?hg (N := 7) ?hd (cs := #[.slice none 0 0, .slice none 0 0]) (t := 33) ?hr ?_; (case hd => rfl); (case hg => rfl); (case hr => first | (go_simp; done) | (go_simp; rfl)); intro gb646 hg w7 hbox hb; have BK646 := Aside0.mk (hbox); have GW646 := Aside0.mk ((by rw [hg]; exact (below_size (bt)) : w.heap.size ≤ gb646)); have GE646 := Aside0.mk ((by rw [hg]; exact (below_size (bt)) : w.heap.size ≤ gb646)); replace HB := Aside0.mk (below_step (bt) hb); clear hb hbox hg))
  go_loopg [19] k (fun kq v19 w' => ∃ (x19_1 : Int), v19 = .int .i64 x19_1 ∧ Aside0 (impl_FirstLiar.l0 kq a0 l1 l2 (l2.length : Int) x19_1 = some (r1, r2, r3, r4)) ∧ Aside0 (kq ≤ k) ∧ Aside0 (w'.heap[gb646]? = some (.cells #[(.slice none 0 0), (.slice none 0 0)] 33 (0, 0))) ∧ Aside0 (Below w.heap.size w w'))
  case atStart => exact ⟨(0), (by first | rfl | (simp; done) | (simp [*]; done)), H', ⟨Nat.le_refl _⟩, ⟨mb BK646.out⟩, ⟨b1 GE646.out⟩⟩
  case round =>
   clear H'
   try clear c1
   try clear c2
   try clear p2
   try clear c4
   try clear c4b0
   try clear c4b1
   try clear hcz6_0
   try clear hcz6_1
   try clear hfz6_0
   try clear hfz6_1
   obtain ⟨x19_1, rfl, HA, HK1, BK646, HB⟩ := hrel
   cases gk with
   | zero => exact absurd HA.out (by simp [impl_FirstLiar.l0])
   | succ k1 =>
    have H := HA.out
    clear HA
    simp only [impl_FirstLiar.l0] at H
    by_cases c8 : x19_1 < (l2.length : Int)
    ·rw [if_pos c8] at H
     have c8b0 : decide (x19_1 < (l2.length : Int)) = true := decide_eq_true c8
     clear c8
     by_cases c9 : 0 ≤ x19_1
     ·rw [if_pos c9] at H
      have c9b0 : decide (0 ≤ x19_1) = true := decide_eq_true c9
      clear c9
      by_cases c10 : x19_1 < (l2.length : Int)
      ·rw [if_pos c10] at H
       have c10b0 : decide (x19_1 < (l2.length : Int)) = true := decide_eq_true c10
       clear c10
       replace H := Option.bind_eq_some_iff.mp H
       obtain ⟨⟨t649, t652, t655⟩, A110, H⟩ := H
       (try dsimp -simprocs only at H)
       have A11 := Aside0.mk A110
       clear A110
       by_cases c12 : t655 = true
       ·subst c12
        rw [if_pos rfl] at H
        simp only [Option.some.injEq, Prod.mk.injEq] at H
        obtain ⟨rfl, rfl, rfl, rfl⟩ := H
        have p647 : 0 ≤ (x19_1 : Int) := of_decide_eq_true asm
        have q647 : x19_1 < (l2.length : Int) := of_decide_eq_true asm
        obtain ⟨ad647, A647_2, c647_2, A647_3, c647_3, e647, hx647_0, hx647_1, hx647_2, hx647_3, hl647_2, hi647_2, hl647_3, hi647_3⟩ := at_T31 HR2.out x19_1 p647 q647
        cases e647
        replace hx647_0 := (HB.out.cell (World.block_lt_of_cell? w _ hx647_0)).trans hx647_0
        replace hx647_1 := (HB.out.cell (World.block_lt_of_cell? w _ hx647_1)).trans hx647_1
        replace hx647_2 := (HB.out.cell (World.block_lt_of_cell? w _ hx647_2)).trans hx647_2
        replace hx647_3 := (HB.out.cell (World.block_lt_of_cell? w _ hx647_3)).trans hx647_3
        have HR647_2 := Aside0.mk hi647_2
        have HC647_2 := Aside0.mk hl647_2
        clear hi647_2 hl647_2
        have HR647_3 := Aside0.mk hi647_3
        have HC647_3 := Aside0.mk hl647_3
        clear hi647_3 hl647_3
        replace p647 := eq_true p647
        replace q647 := eq_true q647
        try go_wp2_with (first | ((with_reducible refine gate_dst (N := 10) rfl ?_); refine box_event ?hg (N := 10) ?hd (cs := #[.int .i64 0, .int .i64 0, .slice none 0 0, .slice none 0 0]) (t := 31) ?hr ?_; (case hd => rfl); (case hg => rfl); (case hr => first | (go_simp; done) | (go_simp; rfl)); intro gb648 hg w13 hbox hb; have BK648 := Aside0.mk (hbox); have GW648 := Aside0.mk ((by rw [hg]; exact (below_size (b1 GE646.out)) : w.heap.size ≤ gb648)); have GE648 := Aside0.mk ((by rw [hg]; exact (below_size (b1 GE646.out)) : w.heap.size ≤ gb648)); replace HB := Aside0.mk (below_step (b1 GE646.out) hb); have NB646_648 := Aside0.mk ((by rw [hg]; exact Nat.ne_of_lt (blk_lt (g := gb646) (o := .cells #[.slice none 0 0, .slice none 0 0] 33 (0, 0)) (mb BK646.out)) : gb646 ≠ gb648)); have NB648_646 := Aside0.mk ((by rw [hg]; exact Nat.ne_of_gt (blk_lt (g := gb646) (o := .cells #[.slice none 0 0, .slice none 0 0] 33 (0, 0)) (mb BK646.out)) : gb648 ≠ gb646)); replace BK646 := Aside0.mk (blk_below (g := gb646) (o := .cells #[.slice none 0 0, .slice none 0 0] 33 (0, 0)) (mb BK646.out) hb); clear hb hbox hg; have hnb14 := NB648_646.out; have hnc14 := NB646_648.out; have hcz15_0 : w13.cell? ⟨gb648, 0, none⟩ = some (.int .i64 0) := (blk_cell BK648.out 0).trans rfl; have hcz15_1 : w13.cell? ⟨gb648, 1, none⟩ = some (.int .i64 0) := (blk_cell BK648.out 1).trans rfl; have hcz15_2 : w13.cell? ⟨gb648, 2, none⟩ = some (.slice none 0 0) := (blk_cell BK648.out 2).trans rfl; have hcz15_3 : w13.cell? ⟨gb648, 3, none⟩ = some (.slice none 0 0) := (blk_cell BK648.out 3).trans rfl; have hfz15_0 := blk_frozen BK648.out 0; have hfz15_1 := blk_frozen BK648.out 1; have hfz15_2 := blk_frozen BK648.out 2; have hfz15_3 := blk_frozen BK648.out 3) | ((with_reducible refine gate_callee (f := 12) rfl ?_); refine goesL_ (some 28) rfl rfl Try.func12 (by kernel_rfl) rfl #[.int .i64 a0, .slice A1 l1.length c1, .agg #[.int .i64 ((rd_T31 l2 x19_1).f0), .int .i64 ((rd_T31 l2 x19_1).f1), .slice A647_2 ((rd_T31 l2 x19_1).f2).length c647_2, .slice A647_3 ((rd_T31 l2 x19_1).f3).length c647_3]] rfl av ?_; (with_reducible refine (impl_Liar.calls k1 a0 _ _ l1 ((rd_T31 l2 x19_1).f0) ((rd_T31 l2 x19_1).f1) _ _ ((rd_T31 l2 x19_1).f2) _ _ ((rd_T31 l2 x19_1).f3) t649 t652 true _ ?side1 ?side2 ?side3 ?side4 ?side5 ?side6 A11.out).mono ?_); (case side1 => exact Kd.C_below HR1.out (b2 GE646.out GE648.out)); (case side2 => exact HC1.out); (case side3 => exact Kd.C_below HR647_2.out (b2 GE646.out GE648.out)); (case side4 => exact HC647_2.out); (case side5 => exact Kd.C_below HR647_3.out (b2 GE646.out GE648.out)); (case side6 => exact HC647_3.out); rintro e w16 ⟨v650, v653, rfl, ho0, ho1, hb⟩; refine ⟨_, rfl, ?_⟩; have HO651 := Aside0.mk (Kd.R_lower ho0 (below_size (b2 GE646.out GE648.out))); have HO654 := Aside0.mk (Kd.R_lower ho1 (below_size (b2 GE646.out GE648.out))); replace BK646 := Aside0.mk (blk_below (g := gb646) (o := .cells #[.slice none 0 0, .slice none 0 0] 33 (0, 0)) (by (with_reducible repeat (first | refine blk_drewN ?_ _ | refine blk_drew ?_ | refine blk_alloc ?_ _)); refine blk_far ?_ NB646_648.out _; (with_reducible repeat (first | refine blk_drewN ?_ _ | refine blk_drew ?_ | refine blk_alloc ?_ _)); refine blk_far ?_ NB646_648.out _; (with_reducible repeat (first | refine blk_drewN ?_ _ | refine blk_drew ?_ | refine blk_alloc ?_ _)); refine blk_far ?_ NB646_648.out _; (with_reducible repeat (first | refine blk_drewN ?_ _ | refine blk_drew ?_ | refine blk_alloc ?_ _)); refine blk_far ?_ NB646_648.out _; (with_reducible repeat (first | refine blk_drewN ?_ _ | refine blk_drew ?_ | refine blk_alloc ?_ _)); exact BK646.out) hb); replace BK648 := Aside0.mk (blk_below (g := gb648) (o := .cells #[.int .i64 ((rd_T31 l2 x19_1).f0), .int .i64 ((rd_T31 l2 x19_1).f1), .slice A647_2 ((rd_T31 l2 x19_1).f2).length c647_2, .slice A647_3 ((rd_T31 l2 x19_1).f3).length c647_3] 31 (0, 0)) (by (with_reducible repeat (first | refine blk_drewN ?_ _ | refine blk_drew ?_ | refine blk_alloc ?_ _)); refine blk_put (cs := #[.int .i64 ((rd_T31 l2 x19_1).f0), .int .i64 ((rd_T31 l2 x19_1).f1), .slice A647_2 ((rd_T31 l2 x19_1).f2).length c647_2, .slice none 0 0]) ?_ 3 _ rfl; (with_reducible repeat (first | refine blk_drewN ?_ _ | refine blk_drew ?_ | refine blk_alloc ?_ _)); refine blk_put (cs := #[.int .i64 ((rd_T31 l2 x19_1).f0), .int .i64 ((rd_T31 l2 x19_1).f1), .slice none 0 0, .slice none 0 0]) ?_ 2 _ rfl; (with_reducible repeat (first | refine blk_drewN ?_ _ | refine blk_drew ?_ | refine blk_alloc ?_ _)); refine blk_put (cs := #[.int .i64 ((rd_T31 l2 x19_1).f0), .int .i64 0, .slice none 0 0, .slice none 0 0]) ?_ 1 _ rfl; (with_reducible repeat (first | refine blk_drewN ?_ _ | refine blk_drew ?_ | refine blk_alloc ?_ _)); refine blk_put (cs := #[.int .i64 0, .int .i64 0, .slice none 0 0, .slice none 0 0]) ?_ 0 _ rfl; (with_reducible repeat (first | refine blk_drewN ?_ _ | refine blk_drew ?_ | refine blk_alloc ?_ _)); exact BK648.out) hb); replace HB := Aside0.mk (below_step (b2 GE646.out GE648.out) hb); (try clear hb); (try clear hb2); (try clear hk); (try clear hi); (try clear ho0); (try clear ho1)) | ((with_reducible refine gate_dst (N := 11) rfl ?_); refine box_event ?hg (N := 11) ?hd (cs := #[.slice none 0 0, .slice none 0 0]) (t := 33) ?hr ?_; (case hd => rfl); (case hg => rfl); (case hr => first | (go_simp; done) | (go_simp; rfl)); intro gb656 hg w17 hbox hb; replace HO651 := Aside0.mk (Kd.R_below (mv HO651.out) hb); replace HO654 := Aside0.mk (Kd.R_below (mv HO654.out) hb); have BK656 := Aside0.mk (hbox); have GW656 := Aside0.mk ((by rw [hg]; exact (below_size (b2 GE646.out GE648.out)) : w.heap.size ≤ gb656)); have GE656 := Aside0.mk ((by rw [hg]; exact (below_size (b2 GE646.out GE648.out)) : w.heap.size ≤ gb656)); replace HB := Aside0.mk (below_step (b2 GE646.out GE648.out) hb); have NB646_656 := Aside0.mk ((by rw [hg]; exact Nat.ne_of_lt (blk_lt (g := gb646) (o := .cells #[.slice none 0 0, .slice none 0 0] 33 (0, 0)) (mb BK646.out)) : gb646 ≠ gb656)); have NB656_646 := Aside0.mk ((by rw [hg]; exact Nat.ne_of_gt (blk_lt (g := gb646) (o := .cells #[.slice none 0 0, .slice none 0 0] 33 (0, 0)) (mb BK646.out)) : gb656 ≠ gb646)); replace BK646 := Aside0.mk (blk_below (g := gb646) (o := .cells #[.slice none 0 0, .slice none 0 0] 33 (0, 0)) (mb BK646.out) hb); have NB648_656 := Aside0.mk ((by rw [hg]; exact Nat.ne_of_lt (blk_lt (g := gb648) (o := .cells #[.int .i64 ((rd_T31 l2 x19_1).f0), .int .i64 ((rd_T31 l2 x19_1).f1), .slice A647_2 ((rd_T31 l2 x19_1).f2).length c647_2, .slice A647_3 ((rd_T31 l2 x19_1).f3).length c647_3] 31 (0, 0)) (mb BK648.out)) : gb648 ≠ gb656)); have NB656_648 := Aside0.mk ((by rw [hg]; exact Nat.ne_of_gt (blk_lt (g := gb648) (o := .cells #[.int .i64 ((rd_T31 l2 x19_1).f0), .int .i64 ((rd_T31 l2 x19_1).f1), .slice A647_2 ((rd_T31 l2 x19_1).f2).length c647_2, .slice A647_3 ((rd_T31 l2 x19_1).f3).length c647_3] 31 (0, 0)) (mb BK648.out)) : gb656 ≠ gb648)); replace BK648 := Aside0.mk (blk_below (g := gb648) (o := .cells #[.int .i64 ((rd_T31 l2 x19_1).f0), .int .i64 ((rd_T31 l2 x19_1).f1), .slice A647_2 ((rd_T31 l2 x19_1).f2).length c647_2, .slice A647_3 ((rd_T31 l2 x19_1).f3).length c647_3] 31 (0, 0)) (mb BK648.out) hb); clear hb hbox hg; obtain ⟨Ao18, co18, eo18⟩ := Kd.R_slice HO651.out; subst eo18; have hnb19 := NB656_646.out; have hnc19 := NB646_656.out; have hnb20 := NB656_648.out; have hnc20 := NB648_656.out; have hcz21_0 : w17.cell? ⟨gb656, 0, none⟩ = some (.slice none 0 0) := (blk_cell BK656.out 0).trans rfl; have hcz21_1 : w17.cell? ⟨gb656, 1, none⟩ = some (.slice none 0 0) := (blk_cell BK656.out 1).trans rfl; have hfz21_0 := blk_frozen BK656.out 0; have hfz21_1 := blk_frozen BK656.out 1; obtain ⟨Ao22, co22, eo22⟩ := Kd.R_slice HO654.out; subst eo22))
        have n0_ : Aside0 (Kd.R (Kd.int .u8) 5 ((w17.setCell ⟨gb656, 0, none⟩ (.slice Ao18 t649.length co18)).setCell ⟨gb656, 1, none⟩ (.slice Ao22 t652.length co22)) w.heap.size (fun k_ => some k_ ≠ (.slice Ao22 t652.length co22 : Value).ownBlock) (.slice Ao18 t649.length co18) t649) := ⟨by (with_reducible repeat (first | apply Kd.R_alloc | apply Kd.R_drewN | apply Kd.R_drew)); exact Kd.R_mono (Kd.R_far (p := ⟨gb656, 1, none⟩) (Kd.R_far (p := ⟨gb656, 0, none⟩) (Kd.R_types HO651.out BK656.out (by decide)) (fun _ hk => hk.2) (.slice Ao18 t649.length co18)) (fun _ hk => hk.2) (.slice Ao22 t652.length co22)) (fun _ hk => hk.1)⟩
        have n1_ : Aside0 (Kd.R (Kd.int .u8) 5 ((w17.setCell ⟨gb656, 0, none⟩ (.slice Ao18 t649.length co18)).setCell ⟨gb656, 1, none⟩ (.slice Ao22 t652.length co22)) w.heap.size (fun k_ => some k_ ≠ (.slice Ao18 t649.length co18 : Value).ownBlock) (.slice Ao22 t652.length co22) t652) := ⟨by (with_reducible repeat (first | apply Kd.R_alloc | apply Kd.R_drewN | apply Kd.R_drew)); exact Kd.R_mono (Kd.R_far (p := ⟨gb656, 1, none⟩) (Kd.R_far (p := ⟨gb656, 0, none⟩) (Kd.R_types HO654.out BK656.out (by decide)) (fun _ hk => hk.2) (.slice Ao18 t649.length co18)) (fun _ hk => hk.2) (.slice Ao22 t652.length co22)) (fun _ hk => hk.1)⟩
        have n2_ : Aside0 (((w17.setCell ⟨gb656, 0, none⟩ (.slice Ao18 t649.length co18)).setCell ⟨gb656, 1, none⟩ (.slice Ao22 t652.length co22)).heap[gb646]? = some (.cells #[.slice none 0 0, .slice none 0 0] 33 (0, 0))) := ⟨by (with_reducible repeat (first | refine blk_drewN ?_ _ | refine blk_drew ?_ | refine blk_alloc ?_ _)); refine blk_far ?_ NB646_656.out _; (with_reducible repeat (first | refine blk_drewN ?_ _ | refine blk_drew ?_ | refine blk_alloc ?_ _)); refine blk_far ?_ NB646_656.out _; (with_reducible repeat (first | refine blk_drewN ?_ _ | refine blk_drew ?_ | refine blk_alloc ?_ _)); exact BK646.out⟩
        have n3_ : Aside0 (((w17.setCell ⟨gb656, 0, none⟩ (.slice Ao18 t649.length co18)).setCell ⟨gb656, 1, none⟩ (.slice Ao22 t652.length co22)).heap[gb648]? = some (.cells #[.int .i64 ((rd_T31 l2 x19_1).f0), .int .i64 ((rd_T31 l2 x19_1).f1), .slice A647_2 ((rd_T31 l2 x19_1).f2).length c647_2, .slice A647_3 ((rd_T31 l2 x19_1).f3).length c647_3] 31 (0, 0))) := ⟨by (with_reducible repeat (first | refine blk_drewN ?_ _ | refine blk_drew ?_ | refine blk_alloc ?_ _)); refine blk_far ?_ NB648_656.out _; (with_reducible repeat (first | refine blk_drewN ?_ _ | refine blk_drew ?_ | refine blk_alloc ?_ _)); refine blk_far ?_ NB648_656.out _; (with_reducible repeat (first | refine blk_drewN ?_ _ | refine blk_drew ?_ | refine blk_alloc ?_ _)); exact BK648.out⟩
        have n4_ : Aside0 (((w17.setCell ⟨gb656, 0, none⟩ (.slice Ao18 t649.length co18)).setCell ⟨gb656, 1, none⟩ (.slice Ao22 t652.length co22)).heap[gb656]? = some (.cells #[.slice Ao18 t649.length co18, .slice Ao22 t652.length co22] 33 (0, 0))) := ⟨by (with_reducible repeat (first | refine blk_drewN ?_ _ | refine blk_drew ?_ | refine blk_alloc ?_ _)); refine blk_put (cs := #[.slice Ao18 t649.length co18, .slice none 0 0]) ?_ 1 _ rfl; (with_reducible repeat (first | refine blk_drewN ?_ _ | refine blk_drew ?_ | refine blk_alloc ?_ _)); refine blk_put (cs := #[.slice none 0 0, .slice none 0 0]) ?_ 0 _ rfl; (with_reducible repeat (first | refine blk_drewN ?_ _ | refine blk_drew ?_ | refine blk_alloc ?_ _)); exact BK656.out⟩
        have n5_ : Aside0 (Below w.heap.size w ((w17.setCell ⟨gb656, 0, none⟩ (.slice Ao18 t649.length co18)).setCell ⟨gb656, 1, none⟩ (.slice Ao22 t652.length co22))) := ⟨b3 GE646.out GE648.out GE656.out⟩
        (try clear HO651)
        (try clear HO654)
        (try clear BK646)
        (try clear BK648)
        (try clear BK656)
        (try clear HB)
        generalize ((w17.setCell ⟨gb656, 0, none⟩ (.slice Ao18 t649.length co18)).setCell ⟨gb656, 1, none⟩ (.slice Ao22 t652.length co22)) = w23 at n0_ n1_ n2_ n3_ n4_ n5_ ⊢
        have HO651 := n0_
        have HO654 := n1_
        have BK646 := n2_
        have BK648 := n3_
        have BK656 := n4_
        have HB := n5_
        clear n0_ n1_ n2_ n3_ n4_ n5_
        have n0_ := Aside0.mk (Kd.R_drew HO651.out)
        have n1_ := Aside0.mk (Kd.R_drew HO654.out)
        have n2_ := Aside0.mk (blk_drew BK646.out)
        have n3_ := Aside0.mk (blk_drew BK648.out)
        have n4_ := Aside0.mk (blk_drew BK656.out)
        have n5_ := Aside0.mk (below_drew1 HB.out)
        clear HO651
        clear HO654
        clear BK646
        clear BK648
        clear BK656
        clear HB
        have HO651 := n0_
        have HO654 := n1_
        have BK646 := n2_
        have BK648 := n3_
        have BK656 := n4_
        have HB := n5_
        clear n0_ n1_ n2_ n3_ n4_ n5_
        refine start_ (n := 5) (S := fun w' => w'.cell? ⟨gb656, 0, none⟩ = some (.slice Ao18 t649.length co18) ∧ w'.cell? ⟨gb656, 1, none⟩ = some (.slice Ao22 t652.length co22)) (ds := []) #[false, false, false, false, false] (by kernel_rfl) rfl rfl ⟨(blk_cell BK656.out 0).trans rfl, (blk_cell BK656.out 1).trans rfl⟩ (fun hHeld => ?_)
        generalize w23.drew = w24 at HO651 HO654 BK646 BK648 BK656 HB hHeld ⊢
        refine pure_ (i := 0) (N := some 32) (v := ?_) (a' := ?_) #[true, false, false, false, false] rfl rfl (by kernel_rfl) (fun _ _ _ h => h) (Or.inl ⟨by rfl, ?_⟩) ?_ ?_
        rotate_left
        ·intro w'
         go_simp
         with_reducible rfl
        rotate_left
        ·simp only [Act.put, List.setIfInBounds_toArray, List.set_cons_zero, List.set_cons_succ, i64_w, i32_w]
         rfl
        refine pure_ (i := 2) (N := some 6) (v := ?_) (a' := ?_) #[true, false, true, false, false] rfl rfl (by kernel_rfl) (fun _ _ _ h => h) (Or.inl ⟨by rfl, ?_⟩) ?_ ?_
        rotate_left
        ·intro w'
         go_simp
         with_reducible rfl
        rotate_left
        ·simp only [Act.put, List.setIfInBounds_toArray, List.set_cons_zero, List.set_cons_succ, i64_w, i32_w]
         rfl
        refine take_ (i := 1) (N := some 33) (v := ?_) (a' := ?_) #[true, true, true, false, false] rfl rfl (by kernel_rfl) (fun _ _ _ h => h) (Or.inl ⟨by rfl, ?_⟩) hHeld ?_ ?_
        rotate_left
        ·rintro w' ⟨s0, s1⟩
         go_simp
         with_reducible rfl
        rotate_left
        ·simp only [Act.put, List.setIfInBounds_toArray, List.set_cons_zero, List.set_cons_succ, i64_w, i32_w]
         rfl
        refine one_ (i := 3) (N := none) #[true, true, true, true, false] rfl rfl (by kernel_rfl) (by decide) (fun K hK => ?_)
        have hs25 : w24.cell? ⟨gb646, 0, none⟩ = some (.slice none 0 0) := (blk_cell BK646.out 0).trans rfl
        have hfs25 := blk_frozen BK646.out 0
        have hns25_1 := NB648_646.out
        have hns25_2 := NB656_646.out
        have hms25_1 := NB646_648.out
        have hms25_2 := NB646_656.out
        have hs26 : w24.cell? ⟨gb646, 1, none⟩ = some (.slice none 0 0) := (blk_cell BK646.out 1).trans rfl
        have hfs26 := blk_frozen BK646.out 1
        have hns26_1 := NB648_646.out
        have hns26_2 := NB656_646.out
        have hms26_1 := NB646_648.out
        have hms26_2 := NB646_656.out
        refine skip_ (w1 := ?_) (by rfl) rfl ?_ ?_
        rotate_left
        ·go_simp
         rfl
        refine hK.out _ _ ⟨((cell_far (p := ⟨gb646, _, none⟩) NB656_646.out _).trans (((cell_far (p := ⟨gb646, _, none⟩) NB656_646.out _).trans (hHeld.1)))), ((cell_far (p := ⟨gb646, _, none⟩) NB656_646.out _).trans (((cell_far (p := ⟨gb646, _, none⟩) NB656_646.out _).trans (hHeld.2))))⟩ (fun hHeld => ?_)
        clear hK K
        refine pure_ (i := 4) (N := some 8) (v := ?_) (a' := ?_) #[true, true, true, true, true] rfl rfl (by kernel_rfl) (fun _ _ _ h => h) (Or.inl ⟨by rfl, ?_⟩) ?_ ?_
        rotate_left
        ·intro w'
         go_simp
         with_reducible rfl
        rotate_left
        ·simp only [Act.put, List.setIfInBounds_toArray, List.set_cons_zero, List.set_cons_succ, i64_w, i32_w]
         rfl
        refine done_ (by kernel_rfl) ?_
        try go_wp2
        refine bodyPost_ret (results_list (rs := [.tmp 6, .cell 7 33, .tmp 8]) rfl (by simp) (.tmp (.cell gb646 33 #[.slice Ao18 t649.length co18, .slice Ao22 t652.length co22] (0, 0) _ rfl (by (with_reducible repeat (first | refine blk_drewN ?_ _ | refine blk_drew ?_ | refine blk_alloc ?_ _)); refine blk_put (cs := #[.slice Ao18 t649.length co18, .slice none 0 0]) ?_ 1 _ rfl; (with_reducible repeat (first | refine blk_drewN ?_ _ | refine blk_drew ?_ | refine blk_alloc ?_ _)); refine blk_put (cs := #[.slice none 0 0, .slice none 0 0]) ?_ 0 _ rfl; (with_reducible repeat (first | refine blk_drewN ?_ _ | refine blk_drew ?_ | refine blk_alloc ?_ _)); exact BK646.out) Try.underlying33 rfl (by kernel_rfl) (.tmp .nil)))) rfl ?_
        exact ⟨_, _, by first | rfl | (simp [errW_none, errW_some] <;> rfl) | (simp [*, errW_none, errW_some] <;> rfl), by (with_reducible repeat (first | apply Kd.R_alloc | apply Kd.R_drewN | apply Kd.R_drew)); exact Kd.R_mono (Kd.R_far (p := ⟨gb646, 1, none⟩) (Kd.R_far (p := ⟨gb646, 0, none⟩) (Kd.R_types HO651.out BK646.out (by decide)) (fun _ hk => hk.2) (.slice Ao18 t649.length co18)) (fun _ hk => hk.2) (.slice Ao22 t652.length co22)) (fun _ hk => hk.1), by (with_reducible repeat (first | apply Kd.R_alloc | apply Kd.R_drewN | apply Kd.R_drew)); exact Kd.R_mono (Kd.R_far (p := ⟨gb646, 1, none⟩) (Kd.R_far (p := ⟨gb646, 0, none⟩) (Kd.R_types HO654.out BK646.out (by decide)) (fun _ hk => hk.2) (.slice Ao18 t649.length co18)) (fun _ hk => hk.2) (.slice Ao22 t652.length co22)) (fun _ hk => hk.1), b3 GE646.out GE648.out GE656.out⟩
       ·replace c12 := Bool.eq_false_iff.mpr c12
        subst c12
        rw [if_neg (show ¬ (false = true) by decide)] at H
        have H' := Aside0.mk H
        clear H
        have p647 : 0 ≤ (x19_1 : Int) := of_decide_eq_true asm
        have q647 : x19_1 < (l2.length : Int) := of_decide_eq_true asm
        obtain ⟨ad647, A647_2, c647_2, A647_3, c647_3, e647, hx647_0, hx647_1, hx647_2, hx647_3, hl647_2, hi647_2, hl647_3, hi647_3⟩ := at_T31 HR2.out x19_1 p647 q647
        cases e647
        replace hx647_0 := (HB.out.cell (World.block_lt_of_cell? w _ hx647_0)).trans hx647_0
        replace hx647_1 := (HB.out.cell (World.block_lt_of_cell? w _ hx647_1)).trans hx647_1
        replace hx647_2 := (HB.out.cell (World.block_lt_of_cell? w _ hx647_2)).trans hx647_2
        replace hx647_3 := (HB.out.cell (World.block_lt_of_cell? w _ hx647_3)).trans hx647_3
        have HR647_2 := Aside0.mk hi647_2
        have HC647_2 := Aside0.mk hl647_2
        clear hi647_2 hl647_2
        have HR647_3 := Aside0.mk hi647_3
        have HC647_3 := Aside0.mk hl647_3
        clear hi647_3 hl647_3
        replace p647 := eq_true p647
        replace q647 := eq_true q647
        go_wp2_with (first | ((with_reducible refine gate_dst (N := 10) rfl ?_); refine box_event ?hg (N := 10) ?hd (cs := #[.int .i64 0, .int .i64 0, .slice none 0 0, .slice none 0 0]) (t := 31) ?hr ?_; (case hd => rfl); (case hg => rfl); (case hr => first | (go_simp; done) | (go_simp; rfl)); intro gb648 hg w27 hbox hb; have BK648 := Aside0.mk (hbox); have GW648 := Aside0.mk ((by rw [hg]; exact (below_size (b1 GE646.out)) : w.heap.size ≤ gb648)); have GE648 := Aside0.mk ((by rw [hg]; exact (below_size (b1 GE646.out)) : w.heap.size ≤ gb648)); replace HB := Aside0.mk (below_step (b1 GE646.out) hb); have NB646_648 := Aside0.mk ((by rw [hg]; exact Nat.ne_of_lt (blk_lt (g := gb646) (o := .cells #[.slice none 0 0, .slice none 0 0] 33 (0, 0)) (mb BK646.out)) : gb646 ≠ gb648)); have NB648_646 := Aside0.mk ((by rw [hg]; exact Nat.ne_of_gt (blk_lt (g := gb646) (o := .cells #[.slice none 0 0, .slice none 0 0] 33 (0, 0)) (mb BK646.out)) : gb648 ≠ gb646)); replace BK646 := Aside0.mk (blk_below (g := gb646) (o := .cells #[.slice none 0 0, .slice none 0 0] 33 (0, 0)) (mb BK646.out) hb); clear hb hbox hg; have hnb28 := NB648_646.out; have hnc28 := NB646_648.out; have hcz29_0 : w27.cell? ⟨gb648, 0, none⟩ = some (.int .i64 0) := (blk_cell BK648.out 0).trans rfl; have hcz29_1 : w27.cell? ⟨gb648, 1, none⟩ = some (.int .i64 0) := (blk_cell BK648.out 1).trans rfl; have hcz29_2 : w27.cell? ⟨gb648, 2, none⟩ = some (.slice none 0 0) := (blk_cell BK648.out 2).trans rfl; have hcz29_3 : w27.cell? ⟨gb648, 3, none⟩ = some (.slice none 0 0) := (blk_cell BK648.out 3).trans rfl; have hfz29_0 := blk_frozen BK648.out 0; have hfz29_1 := blk_frozen BK648.out 1; have hfz29_2 := blk_frozen BK648.out 2; have hfz29_3 := blk_frozen BK648.out 3) | ((with_reducible refine gate_callee (f := 12) rfl ?_); refine goesL_ (some 28) rfl rfl Try.func12 (by kernel_rfl) rfl #[.int .i64 a0, .slice A1 l1.length c1, .agg #[.int .i64 ((rd_T31 l2 x19_1).f0), .int .i64 ((rd_T31 l2 x19_1).f1), .slice A647_2 ((rd_T31 l2 x19_1).f2).length c647_2, .slice A647_3 ((rd_T31 l2 x19_1).f3).length c647_3]] rfl av ?_; (with_reducible refine (impl_Liar.calls k1 a0 _ _ l1 ((rd_T31 l2 x19_1).f0) ((rd_T31 l2 x19_1).f1) _ _ ((rd_T31 l2 x19_1).f2) _ _ ((rd_T31 l2 x19_1).f3) t649 t652 false _ ?side1 ?side2 ?side3 ?side4 ?side5 ?side6 A11.out).mono ?_); (case side1 => exact Kd.C_below HR1.out (b2 GE646.out GE648.out)); (case side2 => exact HC1.out); (case side3 => exact Kd.C_below HR647_2.out (b2 GE646.out GE648.out)); (case side4 => exact HC647_2.out); (case side5 => exact Kd.C_below HR647_3.out (b2 GE646.out GE648.out)); (case side6 => exact HC647_3.out); rintro e w30 ⟨v650, v653, rfl, ho0, ho1, hb⟩; refine ⟨_, rfl, ?_⟩; have HO651 := Aside0.mk (Kd.R_lower ho0 (below_size (b2 GE646.out GE648.out))); have HO654 := Aside0.mk (Kd.R_lower ho1 (below_size (b2 GE646.out GE648.out))); replace BK646 := Aside0.mk (blk_below (g := gb646) (o := .cells #[.slice none 0 0, .slice none 0 0] 33 (0, 0)) (by (with_reducible repeat (first | refine blk_drewN ?_ _ | refine blk_drew ?_ | refine blk_alloc ?_ _)); refine blk_far ?_ NB646_648.out _; (with_reducible repeat (first | refine blk_drewN ?_ _ | refine blk_drew ?_ | refine blk_alloc ?_ _)); refine blk_far ?_ NB646_648.out _; (with_reducible repeat (first | refine blk_drewN ?_ _ | refine blk_drew ?_ | refine blk_alloc ?_ _)); refine blk_far ?_ NB646_648.out _; (with_reducible repeat (first | refine blk_drewN ?_ _ | refine blk_drew ?_ | refine blk_alloc ?_ _)); refine blk_far ?_ NB646_648.out _; (with_reducible repeat (first | refine blk_drewN ?_ _ | refine blk_drew ?_ | refine blk_alloc ?_ _)); exact BK646.out) hb); replace BK648 := Aside0.mk (blk_below (g := gb648) (o := .cells #[.int .i64 ((rd_T31 l2 x19_1).f0), .int .i64 ((rd_T31 l2 x19_1).f1), .slice A647_2 ((rd_T31 l2 x19_1).f2).length c647_2, .slice A647_3 ((rd_T31 l2 x19_1).f3).length c647_3] 31 (0, 0)) (by (with_reducible repeat (first | refine blk_drewN ?_ _ | refine blk_drew ?_ | refine blk_alloc ?_ _)); refine blk_put (cs := #[.int .i64 ((rd_T31 l2 x19_1).f0), .int .i64 ((rd_T31 l2 x19_1).f1), .slice A647_2 ((rd_T31 l2 x19_1).f2).length c647_2, .slice none 0 0]) ?_ 3 _ rfl; (with_reducible repeat (first | refine blk_drewN ?_ _ | refine blk_drew ?_ | refine blk_alloc ?_ _)); refine blk_put (cs := #[.int .i64 ((rd_T31 l2 x19_1).f0), .int .i64 ((rd_T31 l2 x19_1).f1), .slice none 0 0, .slice none 0 0]) ?_ 2 _ rfl; (with_reducible repeat (first | refine blk_drewN ?_ _ | refine blk_drew ?_ | refine blk_alloc ?_ _)); refine blk_put (cs := #[.int .i64 ((rd_T31 l2 x19_1).f0), .int .i64 0, .slice none 0 0, .slice none 0 0]) ?_ 1 _ rfl; (with_reducible repeat (first | refine blk_drewN ?_ _ | refine blk_drew ?_ | refine blk_alloc ?_ _)); refine blk_put (cs := #[.int .i64 0, .int .i64 0, .slice none 0 0, .slice none 0 0]) ?_ 0 _ rfl; (with_reducible repeat (first | refine blk_drewN ?_ _ | refine blk_drew ?_ | refine blk_alloc ?_ _)); exact BK648.out) hb); replace HB := Aside0.mk (below_step (b2 GE646.out GE648.out) hb); (try clear hb); (try clear hb2); (try clear hk); (try clear hi); (try clear ho0); (try clear ho1)) | ((with_reducible refine gate_dst (N := 11) rfl ?_); refine box_event ?hg (N := 11) ?hd (cs := #[.slice none 0 0, .slice none 0 0]) (t := 33) ?hr ?_; (case hd => rfl); (case hg => rfl); (case hr => first | (go_simp; done) | (go_simp; rfl)); intro gb656 hg w31 hbox hb; replace HO651 := Aside0.mk (Kd.R_below (mv HO651.out) hb); replace HO654 := Aside0.mk (Kd.R_below (mv HO654.out) hb); have BK656 := Aside0.mk (hbox); have GW656 := Aside0.mk ((by rw [hg]; exact (below_size (b2 GE646.out GE648.out)) : w.heap.size ≤ gb656)); have GE656 := Aside0.mk ((by rw [hg]; exact (below_size (b2 GE646.out GE648.out)) : w.heap.size ≤ gb656)); replace HB := Aside0.mk (below_step (b2 GE646.out GE648.out) hb); have NB646_656 := Aside0.mk ((by rw [hg]; exact Nat.ne_of_lt (blk_lt (g := gb646) (o := .cells #[.slice none 0 0, .slice none 0 0] 33 (0, 0)) (mb BK646.out)) : gb646 ≠ gb656)); have NB656_646 := Aside0.mk ((by rw [hg]; exact Nat.ne_of_gt (blk_lt (g := gb646) (o := .cells #[.slice none 0 0, .slice none 0 0] 33 (0, 0)) (mb BK646.out)) : gb656 ≠ gb646)); replace BK646 := Aside0.mk (blk_below (g := gb646) (o := .cells #[.slice none 0 0, .slice none 0 0] 33 (0, 0)) (mb BK646.out) hb); have NB648_656 := Aside0.mk ((by rw [hg]; exact Nat.ne_of_lt (blk_lt (g := gb648) (o := .cells #[.int .i64 ((rd_T31 l2 x19_1).f0), .int .i64 ((rd_T31 l2 x19_1).f1), .slice A647_2 ((rd_T31 l2 x19_1).f2).length c647_2, .slice A647_3 ((rd_T31 l2 x19_1).f3).length c647_3] 31 (0, 0)) (mb BK648.out)) : gb648 ≠ gb656)); have NB656_648 := Aside0.mk ((by rw [hg]; exact Nat.ne_of_gt (blk_lt (g := gb648) (o := .cells #[.int .i64 ((rd_T31 l2 x19_1).f0), .int .i64 ((rd_T31 l2 x19_1).f1), .slice A647_2 ((rd_T31 l2 x19_1).f2).length c647_2, .slice A647_3 ((rd_T31 l2 x19_1).f3).length c647_3] 31 (0, 0)) (mb BK648.out)) : gb656 ≠ gb648)); replace BK648 := Aside0.mk (blk_below (g := gb648) (o := .cells #[.int .i64 ((rd_T31 l2 x19_1).f0), .int .i64 ((rd_T31 l2 x19_1).f1), .slice A647_2 ((rd_T31 l2 x19_1).f2).length c647_2, .slice A647_3 ((rd_T31 l2 x19_1).f3).length c647_3] 31 (0, 0)) (mb BK648.out) hb); clear hb hbox hg; obtain ⟨Ao32, co32, eo32⟩ := Kd.R_slice HO651.out; subst eo32; have hnb33 := NB656_646.out; have hnc33 := NB646_656.out; have hnb34 := NB656_648.out; have hnc34 := NB648_656.out; have hcz35_0 : w31.cell? ⟨gb656, 0, none⟩ = some (.slice none 0 0) := (blk_cell BK656.out 0).trans rfl; have hcz35_1 : w31.cell? ⟨gb656, 1, none⟩ = some (.slice none 0 0) := (blk_cell BK656.out 1).trans rfl; have hfz35_0 := blk_frozen BK656.out 0; have hfz35_1 := blk_frozen BK656.out 1; obtain ⟨Ao36, co36, eo36⟩ := Kd.R_slice HO654.out; subst eo36))
        go_roundg k1
        case measure => have := HK1.out; omega
        case rel => exact ⟨(wrap64 (x19_1 + 1)), (by first | rfl | (simp; done) | (simp [*]; done)), H', ⟨by have := HK1.out; omega⟩, ⟨by (with_reducible repeat (first | refine blk_drewN ?_ _ | refine blk_drew ?_ | refine blk_alloc ?_ _)); refine blk_far ?_ NB646_656.out _; (with_reducible repeat (first | refine blk_drewN ?_ _ | refine blk_drew ?_ | refine blk_alloc ?_ _)); refine blk_far ?_ NB646_656.out _; (with_reducible repeat (first | refine blk_drewN ?_ _ | refine blk_drew ?_ | refine blk_alloc ?_ _)); exact BK646.out⟩, ⟨b3 GE646.out GE648.out GE656.out⟩⟩
      ·rw [if_neg c10] at H
       exact absurd H (by simp)
     ·rw [if_neg c9] at H
      exact absurd H (by simp)
    ·rw [if_neg c8] at H
     have c8b0 : decide (x19_1 < (l2.length : Int)) = false := decide_eq_false c8
     clear c8
     simp only [Option.some.injEq, Prod.mk.injEq] at H
     obtain ⟨rfl, rfl, rfl, rfl⟩ := H
     have hcz37_0 : wr.cell? ⟨gb646, 0, none⟩ = some (.slice none 0 0) := (blk_cell BK646.out 0).trans rfl
     have hcz37_1 : wr.cell? ⟨gb646, 1, none⟩ = some (.slice none 0 0) := (blk_cell BK646.out 1).trans rfl
     have hfz37_0 := blk_frozen BK646.out 0
     have hfz37_1 := blk_frozen BK646.out 1
     go_wp2
     refine bodyPost_ret (results_list (rs := [.tmp 6, .cell 7 33, .tmp 8]) rfl (by simp) (.tmp (.cell gb646 33 #[.slice none 0 0, .slice none 0 0] (0, 0) _ rfl (by (with_reducible repeat (first | refine blk_drewN ?_ _ | refine blk_drew ?_ | refine blk_alloc ?_ _)); refine blk_put (cs := #[.slice none 0 0, .slice none 0 0]) ?_ 1 _ rfl; (with_reducible repeat (first | refine blk_drewN ?_ _ | refine blk_drew ?_ | refine blk_alloc ?_ _)); refine blk_put (cs := #[.slice none 0 0, .slice none 0 0]) ?_ 0 _ rfl; (with_reducible repeat (first | refine blk_drewN ?_ _ | refine blk_drew ?_ | refine blk_alloc ?_ _)); exact BK646.out) Try.underlying33 rfl (by kernel_rfl) (.tmp .nil)))) rfl ?_
     exact ⟨_, _, by first | rfl | (simp [errW_none, errW_some] <;> rfl) | (simp [*, errW_none, errW_some] <;> rfl), by first | exact Kd.R_nil _ _ _ _ _ | exact Kd.N_nil _ _ _ _ _ | exact Kd.V_nil _ _ _ _ _ | exact Kd.Q_nil _ _ _ _ _ | exact Kd.S_nil _ _ _ _ _, by first | exact Kd.R_nil _ _ _ _ _ | exact Kd.N_nil _ _ _ _ _ | exact Kd.V_nil _ _ _ _ _ | exact Kd.Q_nil _ _ _ _ _ | exact Kd.S_nil _ _ _ _ _, b1 GE646.out⟩

end Go.Proofs.Ytchjajbkaiefdaa.PFnClaims
