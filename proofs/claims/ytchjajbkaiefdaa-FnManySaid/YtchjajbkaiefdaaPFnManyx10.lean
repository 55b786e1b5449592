-- Written by a program of this workplace (wip/mp.py) out of the translation.
import Derived.Test.YtchjajbkaiefdaaPFnManyx0
import Derived.Test.YtchjajbkaiefdaaPFnManyx8
import Derived.Test.YtchjajbkaiefdaaPFnManyx9
namespace Go.Proofs.Ytchjajbkaiefdaa.PFnMany
open Go.RowKit Go.Proofs.YtchjajbkaiefdaaW.PrintWords Go.Proofs.YtchjajbkaiefdaaW.PrintLast Go.Proofs.YtchjajbkaiefdaaW.PrintMore Go.Proofs.Ytchjajbkaiefdaa.Slim
attribute [local go_sem] max2_int min2_int max_two min_two max_three min_three max_four min_four   -- for this text's walks alone
set_option maxHeartbeats 8000000
set_option maxRecDepth 100000
set_option linter.unusedVariables false
set_option linter.unusedSimpArgs false

/-! ### spec_LeafOf: function 117 -/
def spec_LeafOf.f (k : Nat) (a0 : Int) (l1 : List Int) : Option (Int) := (spec_l2Leaf.f l1).bind fun t444 => ((spec_Digest.f k a0 t444).bind fun t447 => (some t447))
theorem spec_LeafOf.calls (k : Nat) (a0 : Int) (A1 : Option Addr) (c1 : Nat) (l1 : List Int) (r : Int) (w : World) (hr1 : Kd.C (Kd.int .u8) w A1 l1.length l1) (hc1 : l1.length ≤ c1) (h : spec_LeafOf.f k a0 l1 = some r) :
  Calls Try.prog 117 #[.int .i64 a0, .slice A1 l1.length c1] w fun e w' => e = .returned (.int .i64 r) ∧ Below w.heap.size w w' := by
 have HR1 := am hr1
 have HC1 := am hc1
 clear hr1 hc1
 have HB := am (Below.refl w.heap.size w)
 have H : ((spec_l2Leaf.f l1).bind fun t444 => ((spec_Digest.f k a0 t444).bind fun t447 => (some t447))) = some r := h
 clear h
 obtain ⟨t444, A3, H⟩ := bm H
 (try dsimp -simprocs only at H)
 obtain ⟨t447, A4, H⟩ := bm H
 (try dsimp -simprocs only at H)
 obtain rfl := Option.some.inj H
 go_enter Try.func117, Try.ntmps117
 go_wp2_with (first | ((with_reducible refine gate_callee (f := 116) rfl ?_); refine goesL_ (some 7) rfl rfl Try.func116 (by kernel_rfl) rfl #[.slice A1 l1.length c1] rfl av ?_; (with_reducible refine (spec_l2Leaf.calls _ _ l1 t444 _ ?side1 ?side2 A3.out).mono ?_); (case side1 => exact cv (HR1.out)); (case side2 => exact HC1.out); rintro e w5 ⟨v445, rfl, ho0, hb⟩; refine ⟨_, rfl, ?_⟩; have HO446 := am (Kd.R_lower ho0 (below_size (bt))); replace HB := am (below_step (bt) hb); (try clear hb); (try clear hb2); (try clear hk); (try clear hi); (try clear ho0); obtain ⟨Ao6, co6, eo6⟩ := Kd.R_slice HO446.out; subst eo6) | ((with_reducible refine gate_callee (f := 112) rfl ?_); refine goesL_ (some 8) rfl rfl Try.func112 (by kernel_rfl) rfl #[.int .i64 a0, .slice Ao6 t444.length co6] rfl av ?_; (with_reducible refine (spec_Digest.calls k a0 _ _ t444 t447 _ ?side1 ?side2 A4.out).mono ?_); (case side1 => exact cv ((Kd.R_reads' HO446.out).2.2)); (case side2 => exact (Kd.R_reads' HO446.out).2.1); rintro e w7 ⟨rfl, hb⟩; refine ⟨_, rfl, ?_⟩; replace HO446 := am (Kd.R_below (mv HO446.out) hb); replace HB := am (below_step (bt) hb); (try clear hb); (try clear hb2); (try clear hk); (try clear hi)))
 go_ret
 exact ⟨by first | rfl | (simp [errW_none, errW_some] <;> rfl) | (simp [*, errW_none, errW_some] <;> rfl), bt⟩

/-! ### spec_Eight: function 138 -/
def spec_Eight.l0 : Nat → Int → List Int → Int → Option (List Int)
 | 0, _, _, _ => none
 | k + 1, x0, x3, x4 => if x4 ≥ 0 then (if 0 ≤ (wrap64 (8 * x4)) then (if x3.length < 140737488355328 then (spec_Eight.l0 k x0 (x3 ++ [(shr .i64 x0 (wrap64 (8 * x4))) % 256]) (wrap64 (x4 - 1))) else (none)) else (none)) else (some x3)
def spec_Eight.f (k : Nat) (a0 : Int) : Option (List Int) := (some (([] : List Int) : List Int)).bind fun y448 => (if a0 < 0 then (some y448) else (spec_Eight.l0 k a0 y448 7))
theorem spec_Eight.calls (k : Nat) (a0 : Int) (r : List Int) (w : World) (h : spec_Eight.f k a0 = some r) :
  Calls Try.prog 138 #[.int .i64 a0] w fun e w' => ∃ v0_ : Value, e = .returned (v0_) ∧ Kd.R (Kd.int .u8) 5 w' w.heap.size (fun _ => True) v0_ r ∧ Below w.heap.size w w' := by
 have HB := am (Below.refl w.heap.size w)
 have H : ((some (([] : List Int) : List Int)).bind fun y448 => (if a0 < 0 then (some y448) else (spec_Eight.l0 k a0 y448 7))) = some r := h
 clear h
 obtain ⟨y448, hy448⟩ : ∃ y_ : List Int, y_ = (([] : List Int)) := ⟨_, rfl⟩
 replace H : (if a0 < 0 then (some y448) else (spec_Eight.l0 k a0 y448 7)) = some r := by first | (rw [hy448]; exact H) | exact H
 have Ny448 := am hy448
 clear hy448
 by_cases c2 : a0 < 0
 ·rw [if_pos c2] at H
  have c2b0 : decide (a0 < 0) = true := decide_eq_true c2
  clear c2
  obtain rfl := Option.some.inj H
  go_enter Try.func138, Try.ntmps138
  go_wp2_with (first | ((with_reducible refine gate_dst (N := 5) rfl ?_); refine Kd.R_lit (Kd.int .u8) _ 5 ?hg (N := 5) ?hd (xs := ([] : List Int)) (inner := []) (ok := fun _ => True) (okp := fun _ => True) ?hr ?hp (fun _ hk => hk) trivial (Below.refl _ _) (Nat.le_refl _) (by simp) ?_; (case hd => rfl); (case hg => rfl); (case hr => first | (go_simp; done) | (go_simp; rfl)); (case hp => exact (Reps.none _ _)); intro v449 w3 ho4 hb hg_ hnew_; clear hg_ hnew_; (first | rw [← Ny448.out] at ho4 | (simp only [Int.reduceToNat] at ho4; rw [← Ny448.out] at ho4)); have HO450 := am (Kd.R_lower ho4 (below_size (bt))); replace HB := am (below_step (bt) hb); clear hb ho4))
  go_ret
  exact ⟨_, by first | rfl | (simp [errW_none, errW_some] <;> rfl) | (simp [*, errW_none, errW_some] <;> rfl), rR (h := by exact HO450.out), bt⟩
 ·rw [if_neg c2] at H
  have c2b0 : decide (a0 < 0) = false := decide_eq_false c2
  clear c2
  have H' := am H
  clear H
  go_enter Try.func138, Try.ntmps138
  go_wp2_with (first | ((with_reducible refine gate_dst (N := 5) rfl ?_); refine Kd.R_lit (Kd.int .u8) _ 5 ?hg (N := 5) ?hd (xs := ([] : List Int)) (inner := []) (ok := fun _ => True) (okp := fun _ => True) ?hr ?hp (fun _ hk => hk) trivial (Below.refl _ _) (Nat.le_refl _) (by simp) ?_; (case hd => rfl); (case hg => rfl); (case hr => first | (go_simp; done) | (go_simp; rfl)); (case hp => exact (Reps.none _ _)); intro v449 w5 ho6 hb hg_ hnew_; clear hg_ hnew_; (first | rw [← Ny448.out] at ho6 | (simp only [Int.reduceToNat] at ho6; rw [← Ny448.out] at ho6)); have HO450 := am (Kd.R_lower ho6 (below_size (bt))); replace HB := am (below_step (bt) hb); clear hb ho6))
  go_loopg [3, 4] k (fun kq v3 v4 w' => ∃ (x3_1 : List Int) (x4_1 : Int), v4 = .int .i64 x4_1 ∧ Aside0 (spec_Eight.l0 kq a0 x3_1 x4_1 = some r) ∧ Aside0 (kq ≤ k) ∧ Aside0 (Kd.R (Kd.int .u8) 5 w' w.heap.size (fun _ => True) v3 x3_1) ∧ Aside0 (Below w.heap.size w w'))
  case atStart => exact ⟨(y448), (7), e0, H', ⟨Nat.le_refl _⟩, ⟨mv HO450.out⟩, ⟨bt⟩⟩
  case round =>
   clear H'
   obtain ⟨x3_1, x4_1, rfl, HA, HK1, HO_3, HB⟩ := hrel
   cases gk with
   | zero => exact absurd HA.out (by simp [spec_Eight.l0])
   | succ k1 =>
    have H := HA.out
    clear HA
    simp only [spec_Eight.l0] at H
    by_cases c7 : x4_1 ≥ 0
    ·rw [if_pos c7] at H
     have c7b0 : decide (0 ≤ x4_1) = true := decide_eq_true c7
     clear c7
     obtain ⟨ji8, hji8⟩ : ∃ j_ : Int, (wrap64 (8 * x4_1)) = j_ := ⟨_, rfl⟩
     replace H : (if 0 ≤ (ji8) then (if x3_1.length < 140737488355328 then (spec_Eight.l0 k1 a0 (x3_1 ++ [(shr .i64 a0 (ji8)) % 256]) (wrap64 (x4_1 - 1))) else (none)) else (none)) = some r := by first | (rw [hji8] at H; exact H) | (simp only [hji8] at H ⊢; exact H)
     have hji8w : (IntKind.i64.wrap (8 * x4_1)) = ji8 := (i64_w _).trans hji8
     by_cases c9 : 0 ≤ (ji8)
     ·rw [if_pos c9] at H
      have c9b0 := eq_true c9
      have c9b1 : decide (0 ≤ (ji8)) = true := decide_eq_true c9
      clear c9
      obtain ⟨ji10, hji10⟩ : ∃ j_ : Int, (shr .i64 a0 (ji8)) = j_ := ⟨_, rfl⟩
      replace H : (if x3_1.length < 140737488355328 then (spec_Eight.l0 k1 a0 (x3_1 ++ [(ji10) % 256]) (wrap64 (x4_1 - 1))) else (none)) = some r := by first | (rw [hji10] at H; exact H) | (simp only [hji10] at H ⊢; exact H)
      have hji10_ : (a0 / 2 ^ min (ji8).toNat 64) = ji10 := hji10
      have hji10z : (ji8) ≤ 64 → (a0 / 2 ^ (ji8).toNat) = ji10 := shr_small hji10
      by_cases c11 : x3_1.length < 140737488355328
      ·rw [if_pos c11] at H
       have LMc11 := am c11
       clear c11
       obtain ⟨y451, hy451⟩ : ∃ y_ : List Int, y_ = (x3_1 ++ [(ji10) % 256]) := ⟨_, rfl⟩
       replace H : (spec_Eight.l0 k1 a0 y451 (wrap64 (x4_1 - 1))) = some r := by first | (rw [hy451]; exact H) | exact H
       have Ny451 := am hy451
       clear hy451
       have H' := am H
       clear H
       go_wp2_with (first | ((with_reducible refine gate_builtin (b := .append) (xs := #[.tmp 13, .tmp 19]) rfl ?_); at_builtin; refine Kd.R_append (Kd.int .u8) (w0 := w) w.heap.size rfl (.tmp 13) (.tmp 19) 22 5 (.int .u8 0) 1 rfl Try.underlying22 info5 rfl (by decide) (by omega) u3 x3_1 ((ji10) % 256) [.int .u8 ((ji10) % 256)] (fun _ => True) (fun _ => False) rfl rfl ?aP (fun _ hk => hk.elim) ?aF ?aO ?aB ?aS ?aL ?_; (case aP => exact rfl); (case aB => exact (bt)); (case aF => exact (fun _ _ => trivial)); (case aO => exact (mv HO_3.out)); (case aS => exact (below_size (bt))); (case aL => have := LMc11.out; omega); intro v452 w12 ho hb hg hat; rw [← Ny451.out] at ho; replace HB := am (hb); have HO453 := am (ho); clear HO_3; clear ho hb hg hat))
       go_roundg k1
       case measure => have := HK1.out; omega
       case rel => exact ⟨(y451), (wrap64 (x4_1 - 1)), e0, H', ⟨by have := HK1.out; omega⟩, ⟨mv HO453.out⟩, ⟨bt⟩⟩
      ·exact nh c11 H
     ·exact nh c9 H
    ·rw [if_neg c7] at H
     have c7b0 : decide (0 ≤ x4_1) = false := decide_eq_false c7
     clear c7
     obtain rfl := Option.some.inj H
     go_wp2
     go_ret
     exact ⟨_, by first | rfl | (simp [errW_none, errW_some] <;> rfl) | (simp [*, errW_none, errW_some] <;> rfl), rR (h := by exact HO_3.out), bt⟩

/-! ### spec_l2Node: function 118 -/
def spec_l2Node.f (k : Nat) (a0 : Int) (a1 : Int) : Option (List Int) := (some (([1] : List Int) : List Int)).bind fun y454 => ((spec_Eight.f k a0).bind fun t457 => (if y454.length + t457.length < 140737488355328 then ((some (y454 ++ t457 : List Int)).bind fun y460 => ((spec_Eight.f k a1).bind fun t463 => (if y460.length + t463.length < 140737488355328 then (some (y460 ++ t463)) else (none)))) else (none)))
theorem spec_l2Node.calls (k : Nat) (a0 : Int) (a1 : Int) (r : List Int) (w : World) (h : spec_l2Node.f k a0 a1 = some r) :
  Calls Try.prog 118 #[.int .i64 a0, .int .i64 a1] w fun e w' => ∃ v0_ : Value, e = .returned (v0_) ∧ Kd.R (Kd.int .u8) 5 w' w.heap.size (fun _ => True) v0_ r ∧ Below w.heap.size w w' := by
 have HB := am (Below.refl w.heap.size w)
 have H : ((some (([1] : List Int) : List Int)).bind fun y454 => ((spec_Eight.f k a0).bind fun t457 => (if y454.length + t457.length < 140737488355328 then ((some (y454 ++ t457 : List Int)).bind fun y460 => ((spec_Eight.f k a1).bind fun t463 => (if y460.length + t463.length < 140737488355328 then (some (y460 ++ t463)) else (none)))) else (none)))) = some r := h
 clear h
 obtain ⟨y454, hy454⟩ : ∃ y_ : List Int, y_ = (([1] : List Int)) := ⟨_, rfl⟩
 replace H : ((spec_Eight.f k a0).bind fun t457 => (if y454.length + t457.length < 140737488355328 then ((some (y454 ++ t457 : List Int)).bind fun y460 => ((spec_Eight.f k a1).bind fun t463 => (if y460.length + t463.length < 140737488355328 then (some (y460 ++ t463)) else (none)))) else (none))) = some r := by first | (rw [hy454]; exact H) | exact H
 have Ny454 := am hy454
 clear hy454
 obtain ⟨t457, A3, H⟩ := bm H
 (try dsimp -simprocs only at H)
 by_cases c4 : y454.length + t457.length < 140737488355328
 ·rw [if_pos c4] at H
  have LMc4 := am c4
  clear c4
  obtain ⟨y460, hy460⟩ : ∃ y_ : List Int, y_ = (y454 ++ t457) := ⟨_, rfl⟩
  replace H : ((spec_Eight.f k a1).bind fun t463 => (if y460.length + t463.length < 140737488355328 then (some (y460 ++ t463)) else (none))) = some r := by first | (rw [hy460]; exact H) | exact H
  have Ny460 := am hy460
  clear hy460
  obtain ⟨t463, A5, H⟩ := bm H
  (try dsimp -simprocs only at H)
  by_cases c6 : y460.length + t463.length < 140737488355328
  ·rw [if_pos c6] at H
   have LMc6 := am c6
   clear c6
   obtain ⟨y466, hy466⟩ : ∃ y_ : List Int, y_ = (y460 ++ t463) := ⟨_, rfl⟩
   replace H : (some y466) = some r := by first | (rw [hy466]; exact H) | exact H
   have Ny466 := am hy466
   clear hy466
   obtain rfl := Option.some.inj H
   go_enter Try.func118, Try.ntmps118
   go_wp2_with (first | ((with_reducible refine gate_dst (N := 5) rfl ?_); refine Kd.R_lit (Kd.int .u8) _ 5 ?hg (N := 5) ?hd (xs := ([1] : List Int)) (inner := [.int .u8 1]) (ok := fun _ => True) (okp := fun _ => True) ?hr ?hp (fun _ hk => hk) trivial (Below.refl _ _) (Nat.le_refl _) (by simp) ?_; (case hd => rfl); (case hg => rfl); (case hr => first | (go_simp; done) | (go_simp; rfl)); (case hp => exact (Reps.one (show Kd.M (Kd.int .u8) _ _ _ 1 [.int .u8 1] from rfl) (Reps.none _ _))); intro v455 w7 ho8 hb hg_ hnew_; clear hg_ hnew_; (first | rw [← Ny454.out] at ho8 | (simp only [Int.reduceToNat] at ho8; rw [← Ny454.out] at ho8)); have HO456 := am (Kd.R_lower ho8 (below_size (bt))); replace HB := am (below_step (bt) hb); clear hb ho8) | ((with_reducible refine gate_callee (f := 138) rfl ?_); refine goesL_ (some 7) rfl rfl Try.func138 (by kernel_rfl) rfl #[.int .i64 a0] rfl av ?_; (with_reducible refine (spec_Eight.calls k a0 t457 _ A3.out).mono ?_); rintro e w9 ⟨v458, rfl, ho0, hb⟩; refine ⟨_, rfl, ?_⟩; have HO459 := am (Kd.R_lower (Kd.R_new' ho0 (Kd.R_lt (mv HO456.out))) (below_size (bt))); replace HO456 := am (Kd.R_elder' (mv HO456.out) (Kd.R_base ho0) hb); replace HB := am (below_step (bt) hb); (try clear hb); (try clear hb2); (try clear hk); (try clear hi); (try clear ho0); obtain ⟨Ao11, co11, eo11⟩ := Kd.R_slice HO459.out; subst eo11) | ((with_reducible refine gate_builtin (b := .append) (xs := #[.tmp 5, .tmp 7]) rfl ?_); at_builtin; refine Kd.R_append_rows (Kd.int .u8) (w0 := w) w.heap.size rfl (.tmp 5) (.tmp 7) 22 5 (.int .u8 0) 1 rfl Try.underlying22 info5 rfl (by decide) (by omega) v455 y454 t457 _ _ _ (fun k_ => nb k_ (.slice Ao11 t457.length co11)) (fun _ => False) rfl rfl ?aO ?aR (fun _ _ h => h) (fun _ h => h.elim) ?aF ?aB ?aS ?aL ?_; (case aR => exact cv ((Kd.R_reads' HO459.out).2.2)); (case aB => exact (bt)); (case aF => exact (fun k_ hk => Kd.fresh' (Kd.R_lt (mv HO459.out)) k_ hk)); (case aO => exact (rR (h := by exact Kd.R_mono HO456.out (fun _ hk => hk.2)))); (case aS => exact (below_size (bt))); (case aL => have := LMc4.out; omega); intro v461 w10 ho hb hg hat; rw [← Ny460.out] at ho; replace HO459 := am (Kd.R_after (ok := (fun _ => True)) (mv HO459.out) hg hat); replace HB := am (hb); have HO462 := am (ho); clear HO456; clear ho hb hg hat) | ((with_reducible refine gate_callee (f := 138) rfl ?_); refine goesL_ (some 10) rfl rfl Try.func138 (by kernel_rfl) rfl #[.int .i64 a1] rfl av ?_; (with_reducible refine (spec_Eight.calls k a1 t463 _ A5.out).mono ?_); rintro e w12 ⟨v464, rfl, ho0, hb⟩; refine ⟨_, rfl, ?_⟩; have HO465 := am (Kd.R_lower (Kd.R_new' (Kd.R_new' ho0 (Kd.R_lt (mv HO459.out))) (Kd.R_lt (mv HO462.out))) (below_size (bt))); replace HO459 := am (Kd.R_elder' (mv HO459.out) (Kd.R_base ho0) hb); replace HO462 := am (Kd.R_elder' (mv HO462.out) (Kd.R_base ho0) hb); replace HB := am (below_step (bt) hb); (try clear hb); (try clear hb2); (try clear hk); (try clear hi); (try clear ho0); obtain ⟨Ao14, co14, eo14⟩ := Kd.R_slice HO465.out; subst eo14) | ((with_reducible refine gate_builtin (b := .append) (xs := #[.tmp 8, .tmp 10]) rfl ?_); at_builtin; refine Kd.R_append_rows (Kd.int .u8) (w0 := w) w.heap.size rfl (.tmp 8) (.tmp 10) 22 5 (.int .u8 0) 1 rfl Try.underlying22 info5 rfl (by decide) (by omega) v461 y460 t463 _ _ _ (fun k_ => nb k_ (.slice Ao11 t457.length co11) ∧ nb k_ (.slice Ao14 t463.length co14)) (fun _ => False) rfl rfl ?aO ?aR (fun _ _ h => h) (fun _ h => h.elim) ?aF ?aB ?aS ?aL ?_; (case aR => exact cv ((Kd.R_reads' HO465.out).2.2)); (case aB => exact (bt)); (case aF => exact (fun k_ hk => ⟨Kd.fresh' (Kd.R_lt (mv HO459.out)) k_ hk, Kd.fresh' (Kd.R_lt (mv HO465.out)) k_ hk⟩)); (case aO => exact (mv HO462.out)); (case aS => exact (below_size (bt))); (case aL => have := LMc6.out; omega); intro v467 w13 ho hb hg hat; rw [← Ny466.out] at ho; replace HO459 := am (Kd.R_after (ok := (fun k_ => nb k_ (.slice Ao14 t463.length co14))) (rR (h := by exact Kd.R_mono HO459.out (fun _ hk => ⟨hk.2, hk.1.2⟩))) hg hat); replace HO465 := am (Kd.R_after (ok := (fun k_ => nb k_ (.slice Ao11 t457.length co11))) (rR (h := by exact Kd.R_mono HO465.out (fun _ hk => ⟨hk.1.2, hk.2⟩))) hg hat); replace HB := am (hb); have HO468 := am (ho); clear HO462; clear ho hb hg hat))
   go_ret
   exact ⟨_, by first | rfl | (simp [errW_none, errW_some] <;> rfl) | (simp [*, errW_none, errW_some] <;> rfl), rR (h := by exact Kd.R_mono HO468.out (fun _ hk => trivial)), bt⟩
  ·exact nh c6 H
 ·exact nh c4 H

/-! ### spec_l2Digest: function 139 -/
def spec_l2Digest.f (a0 : Int) (a1 : Int) : Option (Bool) := (spec_l1In.f a0 2 60).bind fun t469 => (if t469 = true then (if 0 ≤ a0 then ((spec_l1In.f a1 0 (wrap64 ((shl .i64 1 a0) - 1))).bind fun t470 => (some t470)) else (none)) else (some false))
theorem spec_l2Digest.calls (a0 : Int) (a1 : Int) (r : Bool) (w : World) (h : spec_l2Digest.f a0 a1 = some r) :
  Calls Try.prog 139 #[.int .i64 a0, .int .i64 a1] w fun e w' => e = .returned (.bool r) ∧ Drawn0 w w' := by
 have H : ((spec_l1In.f a0 2 60).bind fun t469 => (if t469 = true then (if 0 ≤ a0 then ((spec_l1In.f a1 0 (wrap64 ((shl .i64 1 a0) - 1))).bind fun t470 => (some t470)) else (none)) else (some false))) = some r := h
 clear h
 obtain ⟨t469, A3, H⟩ := bm H
 (try dsimp -simprocs only at H)
 by_cases c4 : t469 = true
 ·subst c4
  rw [if_pos rfl] at H
  by_cases c5 : 0 ≤ a0
  ·rw [if_pos c5] at H
   have c5b0 := eq_true c5
   have c5b1 : decide (0 ≤ a0) = true := decide_eq_true c5
   clear c5
   obtain ⟨ji6, hji6⟩ : ∃ j_ : Int, (shl .i64 1 a0) = j_ := ⟨_, rfl⟩
   replace H : ((spec_l1In.f a1 0 (wrap64 ((ji6) - 1))).bind fun t470 => (some t470)) = some r := by first | (rw [hji6] at H; exact H) | (simp only [hji6] at H ⊢; exact H)
   (try rw [hji6] at A3)
   have hji6_ : (IntKind.i64.wrap (1 * 2 ^ min a0.toNat 64)) = ji6 := hji6
   have hji6z : a0 ≤ 64 → (IntKind.i64.wrap (1 * 2 ^ a0.toNat)) = ji6 := shl_small hji6
   have hji6u : (IntKind.i64.wrap (2 ^ min a0.toNat 64)) = ji6 := by have h_ := hji6_; rw [Int.one_mul] at h_; exact h_
   have hji6v : a0 ≤ 64 → (IntKind.i64.wrap (2 ^ a0.toNat)) = ji6 := fun hle_ => by have h_ := hji6z hle_; rw [Int.one_mul] at h_; exact h_
   have hji6y : (wrap64 (1 * 2 ^ min a0.toNat 64)) = ji6 := (i64_w _).symm.trans hji6_
   have hji6x : a0 ≤ 64 → (wrap64 (1 * 2 ^ a0.toNat)) = ji6 := fun h_ => (i64_w _).symm.trans (hji6z h_)
   obtain ⟨t470, A7, H⟩ := bm H
   (try dsimp -simprocs only at H)
   obtain rfl := Option.some.inj H
   go_enter Try.func139, Try.ntmps139
   go_wp2_with (first | ((with_reducible refine gate_callee (f := 97) rfl ?_); refine goesL_ (some 6) rfl rfl Try.func97 (by kernel_rfl) rfl #[.int .i64 a0, .int .i64 2, .int .i64 60] rfl av ?_; (with_reducible refine (spec_l1In.calls a0 2 60 true _ A3.out).mono ?_); rintro e w' ⟨rfl, ⟨nd, rfl⟩⟩; refine ⟨_, rfl, ?_⟩) | (go_at_call 97; (with_reducible refine (spec_l1In.calls a1 0 (wrap64 ((ji6) - 1)) t470 _ A7.out).mono ?_); rintro e w' ⟨rfl, ⟨nd, rfl⟩⟩))
   go_ret
   exact ⟨by first | rfl | (simp; done) | (simp only [← hji6] <;> (first | rfl | simp)) | (simp [*]; done), by repeat (first | exact Drawn0.refl _ | apply Drawn0.step)⟩
  ·exact nh c5 H
 ·replace c4 := Bool.eq_false_iff.mpr c4
  subst c4
  rw [if_neg nft] at H
  obtain rfl := Option.some.inj H
  go_enter Try.func139, Try.ntmps139
  go_wp2_with (first | ((with_reducible refine gate_callee (f := 97) rfl ?_); refine goesL_ (some 6) rfl rfl Try.func97 (by kernel_rfl) rfl #[.int .i64 a0, .int .i64 2, .int .i64 60] rfl av ?_; (with_reducible refine (spec_l1In.calls a0 2 60 false _ A3.out).mono ?_); rintro e w' ⟨rfl, ⟨nd, rfl⟩⟩; refine ⟨_, rfl, ?_⟩))
  go_ret
  exact ⟨e0, by repeat (first | exact Drawn0.refl _ | apply Drawn0.step)⟩

/-! ### spec_NodeOf: function 135 -/
def spec_NodeOf.j0 : Nat → Int → Int → Int → Bool → Option (Int)
 | 0, _, _, _, _ => none
 | k + 1, x0, x1, x2, x16 => if x16 = true then (some (-1)) else ((spec_l2Node.f k x1 x2).bind fun t473 => ((spec_Digest.f k x0 t473).bind fun t476 => (some t476)))
def spec_NodeOf.f (k : Nat) (a0 : Int) (a1 : Int) (a2 : Int) : Option (Int) := (spec_l2Digest.f a0 a1).bind fun t471 => (if t471 = true then ((spec_l2Digest.f a0 a2).bind fun t472 => (spec_NodeOf.j0 k a0 a1 a2 (!t472))) else (spec_NodeOf.j0 k a0 a1 a2 true))
theorem spec_NodeOf.calls (k : Nat) (a0 : Int) (a1 : Int) (a2 : Int) (r : Int) (w : World) (h : spec_NodeOf.f k a0 a1 a2 = some r) :
  Calls Try.prog 135 #[.int .i64 a0, .int .i64 a1, .int .i64 a2] w fun e w' => e = .returned (.int .i64 r) ∧ Below w.heap.size w w' := by
 have HB := am (Below.refl w.heap.size w)
 have H : ((spec_l2Digest.f a0 a1).bind fun t471 => (if t471 = true then ((spec_l2Digest.f a0 a2).bind fun t472 => (spec_NodeOf.j0 k a0 a1 a2 (!t472))) else (spec_NodeOf.j0 k a0 a1 a2 true))) = some r := h
 clear h
 have HC4 := am H
 clear H
 go_enter Try.func135, Try.ntmps135
 go_upto_region 1 with (fail)
 go_cut [16] (fun v16 wc => ∃ (kq : Nat) (x16_3 : Bool), v16 = .bool x16_3 ∧ Aside0 (spec_NodeOf.j0 kq a0 a1 a2 x16_3 = some r) ∧ Aside0 (kq ≤ k) ∧ Aside0 (Below w.heap.size w wc))
 case first =>
  have H := HC4.out
  clear HC4
  obtain ⟨t471, A5, H⟩ := bm H
  (try dsimp -simprocs only at H)
  by_cases c6 : t471 = true
  ·subst c6
   rw [if_pos rfl] at H
   obtain ⟨t472, A7, H⟩ := bm H
   (try dsimp -simprocs only at H)
   have H' := am H
   clear H
   go_wp2_with (first | ((with_reducible refine gate_callee (f := 139) rfl ?_); refine goesL_ (some 9) rfl rfl Try.func139 (by kernel_rfl) rfl #[.int .i64 a0, .int .i64 a1] rfl av ?_; (with_reducible refine (spec_l2Digest.calls a0 a1 true _ A5.out).mono ?_); rintro e w' ⟨rfl, ⟨nd, rfl⟩⟩; refine ⟨_, rfl, ?_⟩) | (go_at_call 139; (with_reducible refine (spec_l2Digest.calls a0 a2 t472 _ A7.out).mono ?_); rintro e w' ⟨rfl, ⟨nd, rfl⟩⟩))
   go_meet
   case rel => exact ⟨_, (!t472), e0, H', ⟨by first | omega | exact Nat.le_refl _⟩, ⟨bt⟩⟩
  ·replace c6 := Bool.eq_false_iff.mpr c6
   subst c6
   rw [if_neg nft] at H
   have H' := am H
   clear H
   go_wp2_with (first | ((with_reducible refine gate_callee (f := 139) rfl ?_); refine goesL_ (some 9) rfl rfl Try.func139 (by kernel_rfl) rfl #[.int .i64 a0, .int .i64 a1] rfl av ?_; (with_reducible refine (spec_l2Digest.calls a0 a1 false _ A5.out).mono ?_); rintro e w' ⟨rfl, ⟨nd, rfl⟩⟩; refine ⟨_, rfl, ?_⟩))
   go_meet
   case rel => exact ⟨_, (true), e0, H', ⟨by first | omega | exact Nat.le_refl _⟩, ⟨bt⟩⟩
 case rest =>
  clear HC4
  obtain ⟨kq, x16_3, rfl, HA, HJ3, HB⟩ := hcut
  cases kq with
  | zero => exact absurd HA.out (by simp [spec_NodeOf.j0])
  | succ kj3 =>
   have H := HA.out
   clear HA
   simp only [spec_NodeOf.j0] at H
   by_cases c8 : x16_3 = true
   ·subst c8
    rw [if_pos rfl] at H
    obtain rfl := Option.some.inj H
    go_wp2
    go_ret
    exact ⟨by first | rfl | (simp [errW_none, errW_some] <;> rfl) | (simp [*, errW_none, errW_some] <;> rfl), bt⟩
   ·replace c8 := Bool.eq_false_iff.mpr c8
    subst c8
    rw [if_neg nft] at H
    obtain ⟨t473, A9, H⟩ := bm H
    (try dsimp -simprocs only at H)
    obtain ⟨t476, A10, H⟩ := bm H
    (try dsimp -simprocs only at H)
    obtain rfl := Option.some.inj H
    go_wp2_with (first | ((with_reducible refine gate_callee (f := 118) rfl ?_); refine goesL_ (some 20) rfl rfl Try.func118 (by kernel_rfl) rfl #[.int .i64 a1, .int .i64 a2] rfl av ?_; (with_reducible refine (spec_l2Node.calls kj3 a1 a2 t473 _ A9.out).mono ?_); rintro e w11 ⟨v474, rfl, ho0, hb⟩; refine ⟨_, rfl, ?_⟩; have HO475 := am (Kd.R_lower ho0 (below_size (bt))); replace HB := am (below_step (bt) hb); (try clear hb); (try clear hb2); (try clear hk); (try clear hi); (try clear ho0); obtain ⟨Ao12, co12, eo12⟩ := Kd.R_slice HO475.out; subst eo12) | ((with_reducible refine gate_callee (f := 112) rfl ?_); refine goesL_ (some 21) rfl rfl Try.func112 (by kernel_rfl) rfl #[.int .i64 a0, .slice Ao12 t473.length co12] rfl av ?_; (with_reducible refine (spec_Digest.calls kj3 a0 _ _ t473 t476 _ ?side1 ?side2 A10.out).mono ?_); (case side1 => exact cv ((Kd.R_reads' HO475.out).2.2)); (case side2 => exact (Kd.R_reads' HO475.out).2.1); rintro e w13 ⟨rfl, hb⟩; refine ⟨_, rfl, ?_⟩; replace HO475 := am (Kd.R_below (mv HO475.out) hb); replace HB := am (below_step (bt) hb); (try clear hb); (try clear hb2); (try clear hk); (try clear hi)))
    go_ret
    exact ⟨by first | rfl | (simp [errW_none, errW_some] <;> rfl) | (simp [*, errW_none, errW_some] <;> rfl), bt⟩

end Go.Proofs.Ytchjajbkaiefdaa.PFnMany
