-- Written by a program of this workplace (wip/mp.py) out of the translation.
import Derived.Test.YtchjajbkaiefdaaPFnExactFirstLiarx0
import Derived.Test.YtchjajbkaiefdaaPFnExactFirstLiarx1
import Derived.Test.YtchjajbkaiefdaaPFnExactFirstLiarx2
import Derived.Test.YtchjajbkaiefdaaPFnExactFirstLiarx3
namespace Go.Proofs.Ytchjajbkaiefdaa.PFnExactFirstLiar
open Go.RowKit Go.Proofs.YtchjajbkaiefdaaW.PrintWords Go.Proofs.YtchjajbkaiefdaaW.PrintLast Go.Proofs.YtchjajbkaiefdaaW.PrintMore Go.Proofs.Ytchjajbkaiefdaa.Slim
attribute [local go_sem] max2_int min2_int max_two min_two max_three min_three max_four min_four   -- for this text's walks alone
set_option linter.unusedVariables false
set_option linter.unusedSimpArgs false

/-! ### spec_Path: function 76 -/
mutual
def spec_Path.j0 : Nat → Int → List (List Int) → Int → List Int → Bool → Option (List Int × Bool)
 | 0, _, _, _, _, _ => none
 | k + 1, x0, x1, x2, x8, x24 => if x24 = true then (some (x8, false)) else ((spec_l2Levels.f k x0 x1).bind fun t221 => (spec_Path.l0 k x2 x8 t221 0))
def spec_Path.l0 : Nat → Int → List Int → List (List Int) → Int → Option (List Int × Bool)
 | 0, _, _, _, _ => none
 | k + 1, x2, x8, x9, x10 => if (wrap64 (x10 + 1)) < (x9.length : Int) then (if 0 ≤ x10 then (if x10 < (x9.length : Int) then (if (wrap64 ((wrap64 (x2 + 1)) - (wrap64 (2 * (Int.tmod x2 2))))) < ((rd_L3 x9 x10).length : Int) then (if 0 ≤ (wrap64 ((wrap64 (x2 + 1)) - (wrap64 (2 * (Int.tmod x2 2))))) then (if x8.length < 17592186044416 then (spec_Path.l0 k (wrap64 (Int.tdiv x2 2)) (x8 ++ [rd (rd_L3 x9 x10) (wrap64 ((wrap64 (x2 + 1)) - (wrap64 (2 * (Int.tmod x2 2)))))]) x9 (wrap64 (x10 + 1))) else (none)) else (none)) else (spec_Path.l0 k (wrap64 (Int.tdiv x2 2)) x8 x9 (wrap64 (x10 + 1)))) else (none)) else (none)) else (some (x8, true))
end
def spec_Path.f (k : Nat) (a0 : Int) (l1 : List (List Int)) (a2 : Int) : Option (List Int × Bool) := (some (([] : List Int) : List Int)).bind fun y216 => ((spec_l2Leaves.f k a0 l1).bind fun t219 => (if t219 = true then ((spec_l1In.f a2 0 (wrap64 ((l1.length : Int) - 1))).bind fun t220 => (spec_Path.j0 k a0 l1 a2 y216 (!t220))) else (spec_Path.j0 k a0 l1 a2 y216 true)))
set_option maxHeartbeats 8000000 in
set_option maxRecDepth 100000 in
theorem spec_Path.calls (k : Nat) (a0 : Int) (A1 : Option Addr) (c1 : Nat) (l1 : List (List Int)) (a2 : Int) (r1 : List Int) (r2 : Bool) (w : World) (hr1 : Kd.C (Kd.slice 5 (Kd.int .u8)) w A1 l1.length l1) (hc1 : l1.length ≤ c1) (h : spec_Path.f k a0 l1 a2 = some (r1, r2)) :
  Calls Try.prog 76 #[.int .i64 a0, .slice A1 l1.length c1, .int .i64 a2] w fun e w' => ∃ v0_ : Value, e = .returned (.tuple #[v0_, .bool r2]) ∧ Kd.R (Kd.int .i64) 3 w' w.heap.size (fun _ => True) v0_ r1 ∧ Below w.heap.size w w' := by
 have HR1 := Aside0.mk hr1
 have HC1 := Aside0.mk hc1
 clear hr1 hc1
 have HB := Aside0.mk (Below.refl w.heap.size w)
 have H : ((some (([] : List Int) : List Int)).bind fun y216 => ((spec_l2Leaves.f k a0 l1).bind fun t219 => (if t219 = true then ((spec_l1In.f a2 0 (wrap64 ((l1.length : Int) - 1))).bind fun t220 => (spec_Path.j0 k a0 l1 a2 y216 (!t220))) else (spec_Path.j0 k a0 l1 a2 y216 true)))) = some (r1, r2) := h
 clear h
 obtain ⟨y216, hy216⟩ : ∃ y_ : List Int, y_ = (([] : List Int)) := ⟨_, rfl⟩
 replace H : ((spec_l2Leaves.f k a0 l1).bind fun t219 => (if t219 = true then ((spec_l1In.f a2 0 (wrap64 ((l1.length : Int) - 1))).bind fun t220 => (spec_Path.j0 k a0 l1 a2 y216 (!t220))) else (spec_Path.j0 k a0 l1 a2 y216 true))) = some (r1, r2) := by first | (rw [hy216]; exact H) | exact H
 have Ny216 := Aside0.mk hy216
 clear hy216
 have HC4 := Aside0.mk H
 clear H
 go_enter Try.func76, Try.ntmps76
 go_upto_region 2 with (first | ((with_reducible refine gate_dst (N := 12) rfl ?_); (try (refine gate_guard (by rfl) ?_; dsimp only)); refine Kd.R_lit (Kd.int .i64) _ 3 ?hg (N := 12) ?hd (xs := ([] : List Int)) (inner := []) (ok := fun _ => True) (okp := fun _ => True) ?hr ?hp (fun _ hk => hk) trivial (Below.refl _ _) (Nat.le_refl _) (by simp) ?_; (case hd => rfl); (case hg => rfl); (case hr => first | (go_simp; done) | (go_simp; rfl)); (case hp => exact (Reps.none _ _)); intro v217 w5 ho6 hb hg_ hnew_; clear hg_ hnew_; (first | rw [← Ny216.out] at ho6 | (simp only [Int.reduceToNat] at ho6; rw [← Ny216.out] at ho6)); have HO218 := Aside0.mk (Kd.R_lower ho6 (below_size (bt))); replace HB := Aside0.mk (below_step (bt) hb); clear hb ho6))
 (try simp only [Act.put, List.setIfInBounds_toArray, List.set_cons_zero, List.set_cons_succ])
 go_cut [24] (fun v24 wc => ∃ (kq : Nat) (x24_3 : Bool), v24 = .bool x24_3 ∧ Aside0 (spec_Path.j0 kq a0 l1 a2 y216 x24_3 = some (r1, r2)) ∧ Aside0 (kq ≤ k) ∧ Aside0 (Kd.R (Kd.int .i64) 3 wc w.heap.size (fun _ => True) v217 y216) ∧ Aside0 (Below w.heap.size w wc))
 case first =>
  have H := HC4.out
  clear HC4
  replace H := Option.bind_eq_some_iff.mp H
  obtain ⟨t219, A70, H⟩ := H
  (try dsimp -simprocs only at H)
  have A7 := Aside0.mk A70
  clear A70
  by_cases c8 : t219 = true
  ·subst c8
   rw [if_pos rfl] at H
   replace H := Option.bind_eq_some_iff.mp H
   obtain ⟨t220, A90, H⟩ := H
   (try dsimp -simprocs only at H)
   have A9 := Aside0.mk A90
   clear A90
   have H' := Aside0.mk H
   clear H
   go_wp2_with (first | ((with_reducible refine gate_callee (f := 110) rfl ?_); refine goesL_ (some 15) rfl rfl Try.func110 (by kernel_rfl) rfl #[.int .i64 a0, .slice A1 l1.length c1] rfl av ?_; (with_reducible refine (spec_l2Leaves.calls k a0 _ _ l1 true _ ?side1 ?side2 A7.out).mono ?_); (case side1 => exact cv ((Kd.C_below HR1.out HB.out))); (case side2 => exact HC1.out); rintro e w' ⟨rfl, ⟨nd, rfl⟩⟩; refine ⟨_, rfl, ?_⟩) | (go_at_call 97; (with_reducible refine (spec_l1In.calls a2 0 (wrap64 ((l1.length : Int) - 1)) t220 _ A9.out).mono ?_); rintro e w' ⟨rfl, ⟨nd, rfl⟩⟩))
   go_meet
   case rel => exact ⟨_, (!t220), (by first | rfl | (simp; done) | (simp [*]; done)), H', ⟨by first | omega | exact Nat.le_refl _⟩, ⟨mv HO218.out⟩, ⟨bt⟩⟩
  ·replace c8 := Bool.eq_false_iff.mpr c8
   subst c8
   rw [if_neg (show ¬ (false = true) by decide)] at H
   have H' := Aside0.mk H
   clear H
   go_wp2_with (first | ((with_reducible refine gate_callee (f := 110) rfl ?_); refine goesL_ (some 15) rfl rfl Try.func110 (by kernel_rfl) rfl #[.int .i64 a0, .slice A1 l1.length c1] rfl av ?_; (with_reducible refine (spec_l2Leaves.calls k a0 _ _ l1 false _ ?side1 ?side2 A7.out).mono ?_); (case side1 => exact cv ((Kd.C_below HR1.out HB.out))); (case side2 => exact HC1.out); rintro e w' ⟨rfl, ⟨nd, rfl⟩⟩; refine ⟨_, rfl, ?_⟩))
   go_meet
   case rel => exact ⟨_, (true), (by first | rfl | (simp; done) | (simp [*]; done)), H', ⟨by first | omega | exact Nat.le_refl _⟩, ⟨mv HO218.out⟩, ⟨bt⟩⟩
 case rest =>
  clear HC4
  try clear c1
  try clear p2
  try clear p6
  try clear c7
  try clear c8
  obtain ⟨kq, x24_3, rfl, HA, HJ3, HO_8, HB⟩ := hcut
  cases kq with
  | zero => exact absurd HA.out (by simp [spec_Path.j0])
  | succ kj3 =>
   have H := HA.out
   clear HA
   simp only [spec_Path.j0] at H
   by_cases c10 : x24_3 = true
   ·subst c10
    rw [if_pos rfl] at H
    simp only [Option.some.injEq, Prod.mk.injEq] at H
    obtain ⟨rfl, rfl⟩ := H
    go_wp2
    go_ret2
    exact ⟨_, by first | rfl | (simp [errW_none, errW_some] <;> rfl) | (simp [*, errW_none, errW_some] <;> rfl), by (with_reducible repeat (first | apply Kd.R_alloc | apply Kd.R_drewN | apply Kd.R_drew)); exact HO_8.out, bt⟩
   ·replace c10 := Bool.eq_false_iff.mpr c10
    subst c10
    rw [if_neg (show ¬ (false = true) by decide)] at H
    replace H := Option.bind_eq_some_iff.mp H
    obtain ⟨t221, A110, H⟩ := H
    (try dsimp -simprocs only at H)
    have A11 := Aside0.mk A110
    clear A110
    have H' := Aside0.mk H
    clear H
    go_wp2_with (first | ((with_reducible refine gate_callee (f := 111) rfl ?_); refine goesL_ (some 28) rfl rfl Try.func111 (by kernel_rfl) rfl #[.int .i64 a0, .slice A1 l1.length c1] rfl av ?_; (with_reducible refine (spec_l2Levels.calls kj3 a0 _ _ l1 t221 _ ?side1 ?side2 A11.out).mono ?_); (case side1 => exact cv ((Kd.C_below HR1.out HB.out))); (case side2 => exact HC1.out); rintro e w12 ⟨v222, rfl, ho0, hb⟩; refine ⟨_, rfl, ?_⟩; have HO223 := Aside0.mk (Kd.N_lower (Kd.N_mono (ok' := fun k_ => some k_ ≠ (v217 : Value).ownBlock) ho0 (fun k_ hk_ => (Kd.fresh' (Kd.R_lt (mv HO_8.out)) k_ hk_))) (below_size (bt))); replace HO_8 := Aside0.mk (Kd.R_below (mv HO_8.out) hb); replace HB := Aside0.mk (below_step (bt) hb); (try clear hb); (try clear hb2); (try clear hk); (try clear hi); (try clear ho0)))
    go_loopg [2, 8, 10] kj3 (fun kq v2 v8 v10 w' => ∃ (x2_2 : Int) (x8_2 : List Int) (x10_2 : Int), v2 = .int .i64 x2_2 ∧ v10 = .int .i64 x10_2 ∧ Aside0 (spec_Path.l0 kq x2_2 x8_2 t221 x10_2 = some (r1, r2)) ∧ Aside0 (kq ≤ kj3) ∧ Aside0 (Kd.R (Kd.int .i64) 3 w' w.heap.size (fun _ => True) v8 x8_2) ∧ Aside0 (Kd.N (Kd.slice 3 (Kd.int .i64)) 29 w' w.heap.size (fun k_ => some k_ ≠ (v8 : Value).ownBlock) v222 t221) ∧ Aside0 (Below w.heap.size w w'))
    case atStart => exact ⟨(a2), (y216), (0), (by first | rfl | (simp; done) | (simp [*]; done)), (by first | rfl | (simp; done) | (simp [*]; done)), H', ⟨Nat.le_refl _⟩, ⟨mv HO_8.out⟩, ⟨mv HO223.out⟩, ⟨bt⟩⟩
    case round =>
     clear H'
     try clear c1
     try clear p2
     try clear p6
     try clear c7
     try clear c8
     try clear c10
     try clear c11
     try clear p2
     try clear p6
     obtain ⟨x2_2, x8_2, x10_2, rfl, rfl, HA, HK2, HO_8, HO_9, HB⟩ := hrel
     cases gk with
     | zero => exact absurd HA.out (by simp [spec_Path.l0])
     | succ k2 =>
      have H := HA.out
      clear HA
      simp only [spec_Path.l0] at H
      by_cases c13 : (wrap64 (x10_2 + 1)) < (t221.length : Int)
      ·rw [if_pos c13] at H
       have c13b0 : decide ((wrap64 (x10_2 + 1)) < (t221.length : Int)) = true := decide_eq_true c13
       clear c13
       by_cases c14 : 0 ≤ x10_2
       ·rw [if_pos c14] at H
        have c14b0 : decide (0 ≤ x10_2) = true := decide_eq_true c14
        clear c14
        by_cases c15 : x10_2 < (t221.length : Int)
        ·rw [if_pos c15] at H
         have c15b0 : decide (x10_2 < (t221.length : Int)) = true := decide_eq_true c15
         clear c15
         by_cases c16 : (wrap64 ((wrap64 (x2_2 + 1)) - (wrap64 (2 * (Int.tmod x2_2 2))))) < ((rd_L3 t221 x10_2).length : Int)
         ·rw [if_pos c16] at H
          have c16b0 : decide ((wrap64 ((wrap64 (x2_2 + 1)) - (wrap64 (2 * (Int.tmod x2_2 2))))) < ((rd_L3 t221 x10_2).length : Int)) = true := decide_eq_true c16
          clear c16
          obtain ⟨ji17, hji17⟩ : ∃ j_ : Int, (wrap64 ((wrap64 (x2_2 + 1)) - (wrap64 (2 * (Int.tmod x2_2 2))))) = j_ := ⟨_, rfl⟩
          replace H : (if 0 ≤ (ji17) then (if x8_2.length < 17592186044416 then (spec_Path.l0 k2 (wrap64 (Int.tdiv x2_2 2)) (x8_2 ++ [rd (rd_L3 t221 x10_2) (ji17)]) t221 (wrap64 (x10_2 + 1))) else (none)) else (none)) = some (r1, r2) := by first | (rw [hji17] at H; exact H) | (simp only [hji17] at H ⊢; exact H)
          (try rw [hji17] at c16b0)
          have hji17w : (IntKind.i64.wrap ((wrap64 (x2_2 + 1)) - (wrap64 (2 * (Int.tmod x2_2 2))))) = ji17 := (i64_w _).trans hji17
          by_cases c18 : 0 ≤ (ji17)
          ·rw [if_pos c18] at H
           have c18b0 : decide (0 ≤ (ji17)) = true := decide_eq_true c18
           clear c18
           by_cases c19 : x8_2.length < 17592186044416
           ·rw [if_pos c19] at H
            have LMc19 := Aside0.mk c19
            clear c19
            obtain ⟨y227, hy227⟩ : ∃ y_ : List Int, y_ = (x8_2 ++ [rd (rd_L3 t221 x10_2) (ji17)]) := ⟨_, rfl⟩
            replace H : (spec_Path.l0 k2 (wrap64 (Int.tdiv x2_2 2)) y227 t221 (wrap64 (x10_2 + 1))) = some (r1, r2) := by first | (rw [hy227]; exact H) | exact H
            have Ny227 := Aside0.mk hy227
            clear hy227
            have H' := Aside0.mk H
            clear H
            obtain ⟨Ao20, co20, eo20⟩ := Kd.N_slice HO_9.out
            subst eo20
            have p224 : 0 ≤ (x10_2 : Int) := of_decide_eq_true asm
            have q224 : x10_2 < (t221.length : Int) := of_decide_eq_true asm
            obtain ⟨ad224, A224_0, c224_0, e224, hx224_0, hl224_0, hi224_0⟩ := at_L3 (Kd.N_reads' HO_9.out).2.2 x10_2 p224 q224
            cases e224
            obtain ⟨ce224, hce224, hMe224, hcc224⟩ := Kd.N_get HO_9.out [] x10_2 p224 (by first | exact q224 | exact of_decide_eq_true asm | (have e_ := (Kd.N_reads' HO_9.out).1; omega))
            obtain ⟨ua224_0, uc224_0, rfl, ul224_0, ge224_0⟩ := Kd.FK_slice_open hMe224
            have hv224_0 := hcc224 0 _ rfl
            rw [Nat.add_zero, show ((Kd.slice 3 (Kd.int .i64))).sz = 1 from rfl, Nat.mul_one] at hv224_0
            replace hv224_0 := Option.some.inj (hv224_0.symm.trans hx224_0)
            injection hv224_0 with hva_ hvn_ hvc_
            rw [hva_] at ge224_0
            rw [hvc_] at ul224_0
            have HL224_0 := Aside0.mk (show Kd.V (Kd.int .i64) 3 _ w.heap.size _ _ (rd_L3 t221 x10_2) from Kd.V_mk ul224_0 ge224_0)
            clear hva_ hvn_ hvc_ ge224_0 ul224_0
            clear hcc224 hce224
            have HR224_0 := Aside0.mk hi224_0
            have HC224_0 := Aside0.mk hl224_0
            clear hi224_0 hl224_0
            replace p224 := eq_true p224
            replace q224 := eq_true q224
            have p225 : 0 ≤ (x10_2 : Int) := of_decide_eq_true asm
            have q225 : x10_2 < (t221.length : Int) := of_decide_eq_true asm
            obtain ⟨ad225, A225_0, c225_0, e225, hx225_0, hl225_0, hi225_0⟩ := at_L3 (Kd.N_reads' HO_9.out).2.2 x10_2 p225 q225
            obtain rfl : ad224 = ad225 := (by injection e225)
            obtain ⟨ce225, hce225, hMe225, hcc225⟩ := Kd.N_get HO_9.out [] x10_2 p225 (by first | exact q225 | exact of_decide_eq_true asm | (have e_ := (Kd.N_reads' HO_9.out).1; omega))
            obtain ⟨ua225_0, uc225_0, rfl, ul225_0, ge225_0⟩ := Kd.FK_slice_open hMe225
            have hv225_0 := hcc225 0 _ rfl
            rw [Nat.add_zero, show ((Kd.slice 3 (Kd.int .i64))).sz = 1 from rfl, Nat.mul_one] at hv225_0
            replace hv225_0 := Option.some.inj (hv225_0.symm.trans hx225_0)
            injection hv225_0 with hva_ hvn_ hvc_
            rw [hva_] at ge225_0
            rw [hvc_] at ul225_0
            have HL225_0 := Aside0.mk (show Kd.V (Kd.int .i64) 3 _ w.heap.size _ _ (rd_L3 t221 x10_2) from Kd.V_mk ul225_0 ge225_0)
            clear hva_ hvn_ hvc_ ge225_0 ul225_0
            clear hcc225 hce225
            have HR225_0 := Aside0.mk hi225_0
            have HC225_0 := Aside0.mk hl225_0
            clear hi225_0 hl225_0
            replace p225 := eq_true p225
            replace q225 := eq_true q225
            have ea_ := Option.some.inj (hx224_0.symm.trans hx225_0)
            injection ea_ with ea_ en_ ec_
            subst ea_
            subst ec_
            clear en_
            have p226 : 0 ≤ ((ji17) : Int) := of_decide_eq_true asm
            have q226 : (ji17) < ((rd_L3 t221 x10_2).length : Int) := of_decide_eq_true asm
            obtain ⟨ad226, e226, hx226_0⟩ := Kd.at_int (by repeat (first | (with_reducible exact HR225_0.out) | (with_reducible refine Kd.C_alloc ?_ _) | (with_reducible refine Kd.C_drewN ?_ _) | (with_reducible refine Kd.C_drew ?_) | exact HR225_0.out)) (ji17) p226 q226
            cases e226
            replace p226 := eq_true p226
            replace q226 := eq_true q226
            go_wp2_with (first | ((with_reducible refine gate_builtin (b := .append) (xs := #[.tmp 49, .tmp 57]) rfl ?_); (try (refine gate_guard (by rfl) ?_; dsimp only)); at_builtin; refine Kd.R_append (Kd.int .i64) (w0 := w) w.heap.size rfl (.tmp 49) (.tmp 57) 29 3 (.int .i64 0) 8 rfl Try.underlying29 info3 rfl (by decide) (by omega) u8 x8_2 (rd (rd_L3 t221 x10_2) (ji17)) [.int .i64 (rd (rd_L3 t221 x10_2) (ji17))] (fun _ => True) (fun _ => False) rfl rfl ?aP (fun _ hk => hk.elim) ?aF ?aO ?aB ?aS ?aL ?_; (case aP => exact rfl); (case aB => exact (bt)); (case aF => exact (fun _ _ => trivial)); (case aO => exact (mv HO_8.out)); (case aS => exact (below_size (bt))); (case aL => have := LMc19.out; omega); intro v228 w21 ho hb hg hat; rw [← Ny227.out] at ho; replace HO_9 := Aside0.mk (Kd.N_afterv (ok := (fun _ => True)) (by (with_reducible repeat (first | apply Kd.N_alloc | apply Kd.N_drewN | apply Kd.N_drew)); exact Kd.N_mono HO_9.out (fun _ hk => ⟨trivial, hk⟩)) hg hat); replace HL224_0 := Aside0.mk (Kd.V_afterv (ok := (fun k_ => some k_ ≠ (.slice (some ad224) t221.length co20 : Value).ownBlock)) (by (with_reducible repeat (first | apply Kd.V_alloc | apply Kd.V_drewN | apply Kd.V_drew)); exact Kd.V_mono HL224_0.out (fun _ hk => ⟨hk.2, hk.1⟩)) hg hat); replace HL225_0 := Aside0.mk (Kd.V_afterv (ok := (fun k_ => some k_ ≠ (.slice (some ad224) t221.length co20 : Value).ownBlock)) (by (with_reducible repeat (first | apply Kd.V_alloc | apply Kd.V_drewN | apply Kd.V_drew)); exact Kd.V_mono HL225_0.out (fun _ hk => ⟨hk.2, hk.1⟩)) hg hat); replace HB := Aside0.mk (hb); have HO229 := Aside0.mk (ho); clear HO_8; clear ho hb hg hat))
            go_roundg k2
            case measure => have := HJ3.out; have := HK2.out; omega
            case rel => exact ⟨(wrap64 (Int.tdiv x2_2 2)), (y227), (wrap64 (x10_2 + 1)), (by first | rfl | (simp; done) | (simp [*]; done)), (by first | rfl | (simp; done) | (simp [*]; done)), H', ⟨by have := HJ3.out; have := HK2.out; omega⟩, ⟨mv HO229.out⟩, ⟨by (with_reducible repeat (first | apply Kd.N_alloc | apply Kd.N_drewN | apply Kd.N_drew)); exact Kd.N_mono HO_9.out (fun _ hk => hk.2)⟩, ⟨bt⟩⟩
           ·rw [if_neg c19] at H
            exact absurd H (by simp)
          ·rw [if_neg c18] at H
           exact absurd H (by simp)
         ·rw [if_neg c16] at H
          have c16b0 : decide ((wrap64 ((wrap64 (x2_2 + 1)) - (wrap64 (2 * (Int.tmod x2_2 2))))) < ((rd_L3 t221 x10_2).length : Int)) = false := decide_eq_false c16
          clear c16
          have H' := Aside0.mk H
          clear H
          obtain ⟨Ao22, co22, eo22⟩ := Kd.N_slice HO_9.out
          subst eo22
          have p224 : 0 ≤ (x10_2 : Int) := of_decide_eq_true asm
          have q224 : x10_2 < (t221.length : Int) := of_decide_eq_true asm
          obtain ⟨ad224, A224_0, c224_0, e224, hx224_0, hl224_0, hi224_0⟩ := at_L3 (Kd.N_reads' HO_9.out).2.2 x10_2 p224 q224
          cases e224
          obtain ⟨ce224, hce224, hMe224, hcc224⟩ := Kd.N_get HO_9.out [] x10_2 p224 (by first | exact q224 | exact of_decide_eq_true asm | (have e_ := (Kd.N_reads' HO_9.out).1; omega))
          obtain ⟨ua224_0, uc224_0, rfl, ul224_0, ge224_0⟩ := Kd.FK_slice_open hMe224
          have hv224_0 := hcc224 0 _ rfl
          rw [Nat.add_zero, show ((Kd.slice 3 (Kd.int .i64))).sz = 1 from rfl, Nat.mul_one] at hv224_0
          replace hv224_0 := Option.some.inj (hv224_0.symm.trans hx224_0)
          injection hv224_0 with hva_ hvn_ hvc_
          rw [hva_] at ge224_0
          rw [hvc_] at ul224_0
          have HL224_0 := Aside0.mk (show Kd.V (Kd.int .i64) 3 _ w.heap.size _ _ (rd_L3 t221 x10_2) from Kd.V_mk ul224_0 ge224_0)
          clear hva_ hvn_ hvc_ ge224_0 ul224_0
          clear hcc224 hce224
          have HR224_0 := Aside0.mk hi224_0
          have HC224_0 := Aside0.mk hl224_0
          clear hi224_0 hl224_0
          replace p224 := eq_true p224
          replace q224 := eq_true q224
          go_wp2
          go_roundg k2
          case measure => have := HJ3.out; have := HK2.out; omega
          case rel => exact ⟨(wrap64 (Int.tdiv x2_2 2)), (x8_2), (wrap64 (x10_2 + 1)), (by first | rfl | (simp; done) | (simp [*]; done)), (by first | rfl | (simp; done) | (simp [*]; done)), H', ⟨by have := HJ3.out; have := HK2.out; omega⟩, ⟨mv HO_8.out⟩, ⟨mv HO_9.out⟩, ⟨bt⟩⟩
        ·rw [if_neg c15] at H
         exact absurd H (by simp)
       ·rw [if_neg c14] at H
        exact absurd H (by simp)
      ·rw [if_neg c13] at H
       have c13b0 : decide ((wrap64 (x10_2 + 1)) < (t221.length : Int)) = false := decide_eq_false c13
       clear c13
       simp only [Option.some.injEq, Prod.mk.injEq] at H
       obtain ⟨rfl, rfl⟩ := H
       obtain ⟨Ao23, co23, eo23⟩ := Kd.N_slice HO_9.out
       subst eo23
       go_wp2
       go_ret2
       exact ⟨_, by first | rfl | (simp [errW_none, errW_some] <;> rfl) | (simp [*, errW_none, errW_some] <;> rfl), by (with_reducible repeat (first | apply Kd.R_alloc | apply Kd.R_drewN | apply Kd.R_drew)); exact HO_8.out, bt⟩

/-! ### spec_l1Same: function 75 -/
def spec_l1Same.f (l0 : List Int) (l1 : List Int) : Option (Bool) := some ((strOfNums l0).toList == (strOfNums l1).toList)
set_option maxHeartbeats 8000000 in
set_option maxRecDepth 100000 in
theorem spec_l1Same.calls (A0 : Option Addr) (c0 : Nat) (l0 : List Int) (A1 : Option Addr) (c1 : Nat) (l1 : List Int) (r : Bool) (w : World) (hr0 : Kd.C (Kd.int .u8) w A0 l0.length l0) (hc0 : l0.length ≤ c0) (hr1 : Kd.C (Kd.int .u8) w A1 l1.length l1) (hc1 : l1.length ≤ c1) (h : spec_l1Same.f l0 l1 = some r) :
  Calls Try.prog 75 #[.slice A0 l0.length c0, .slice A1 l1.length c1] w fun e w' => e = .returned (.bool r) ∧ Drawn0 w w' := by
 have HR0 := Aside0.mk hr0
 have HC0 := Aside0.mk hc0
 clear hr0 hc0
 have HR1 := Aside0.mk hr1
 have HC1 := Aside0.mk hc1
 clear hr1 hc1
 have H : (some ((strOfNums l0).toList == (strOfNums l1).toList)) = some r := h
 clear h
 obtain rfl := Option.some.inj H
 have hcv3 := Kd.C_string (P := Try.prog) (A := A0) (c := c0) Try.underlying22 Try.underlying5 Try.underlying9 HR0.out
 have hcv4 := Kd.C_string (P := Try.prog) (A := A1) (c := c1) Try.underlying22 Try.underlying5 Try.underlying9 HR1.out
 go_enter Try.func75, Try.ntmps75
 go_wp2
 go_ret
 exact ⟨by first | rfl | (simp; done) | (simp [*]; done), by repeat (first | exact Drawn0.refl _ | apply Drawn0.step)⟩

/-! ### spec_l3Inputs: function 84 -/
def spec_l3Inputs.l0 : Nat → Int → Int → Int → List Int → List (List Int) → Int → Int → Int → Option ((List (List Int)))
 | 0, _, _, _, _, _, _, _, _ => none
 | k + 1, x0, x1, x2, x4, x11, x12, x13, x14 => if x14 > 1 then (if (wrap64 ((wrap64 (x2 + 1)) - (wrap64 (2 * (Int.tmod x2 2))))) < x14 then (if 0 ≤ x13 then (if x13 < (x4.length : Int) then ((spec_l2Node.f k (rd x4 x13) x12).bind fun t244 => (if (wrap64 ((wrap64 (x2 + 1)) - (wrap64 (2 * (Int.tmod x2 2))))) > x2 then ((spec_l2Node.f k x12 (rd x4 x13)).bind fun t248 => (if x11.length < 5864062014805 then ((spec_Digest.f k x0 t248).bind fun t254 => (spec_l3Inputs.l0 k x0 x1 (wrap64 (Int.tdiv x2 2)) x4 (x11 ++ [t248]) t254 (wrap64 (x13 + 1)) (wrap64 (Int.tdiv (wrap64 (x14 + 1)) 2)))) else (none))) else (if x11.length < 5864062014805 then ((spec_Digest.f k x0 t244).bind fun t258 => (spec_l3Inputs.l0 k x0 x1 (wrap64 (Int.tdiv x2 2)) x4 (x11 ++ [t244]) t258 (wrap64 (x13 + 1)) (wrap64 (Int.tdiv (wrap64 (x14 + 1)) 2)))) else (none)))) else (none)) else (none)) else (spec_l3Inputs.l0 k x0 x1 (wrap64 (Int.tdiv x2 2)) x4 x11 x12 x13 (wrap64 (Int.tdiv (wrap64 (x14 + 1)) 2)))) else ((spec_l2Top.f k x1 x12).bind fun t237 => (if x11.length < 5864062014805 then (some (x11 ++ [t237])) else (none)))
def spec_l3Inputs.f (k : Nat) (a0 : Int) (a1 : Int) (a2 : Int) (l3 : List Int) (l4 : List Int) : Option ((List (List Int))) := (spec_l2Leaf.f l3).bind fun t230 => ((spec_LeafOf.f k a0 l3).bind fun t236 => (spec_l3Inputs.l0 k a0 a1 a2 l4 (([t230] : List (List Int))) t236 0 a1))
set_option maxHeartbeats 8000000 in
set_option maxRecDepth 100000 in
theorem spec_l3Inputs.calls (k : Nat) (a0 : Int) (a1 : Int) (a2 : Int) (A3 : Option Addr) (c3 : Nat) (l3 : List Int) (A4 : Option Addr) (c4 : Nat) (l4 : List Int) (r : List (List Int)) (w : World) (hr3 : Kd.C (Kd.int .u8) w A3 l3.length l3) (hc3 : l3.length ≤ c3) (hr4 : Kd.C (Kd.int .i64) w A4 l4.length l4) (hc4 : l4.length ≤ c4) (h : spec_l3Inputs.f k a0 a1 a2 l3 l4 = some r) :
  Calls Try.prog 84 #[.int .i64 a0, .int .i64 a1, .int .i64 a2, .slice A3 l3.length c3, .slice A4 l4.length c4] w fun e w' => ∃ v0_ : Value, e = .returned (v0_) ∧ Kd.N (Kd.slice 5 (Kd.int .u8)) 22 w' w.heap.size (fun k_ => (w.heap.size ≤ k_)) v0_ r ∧ Below w.heap.size w w' := by
 have HR3 := Aside0.mk hr3
 have HC3 := Aside0.mk hc3
 clear hr3 hc3
 have HR4 := Aside0.mk hr4
 have HC4 := Aside0.mk hc4
 clear hr4 hc4
 have HB := Aside0.mk (Below.refl w.heap.size w)
 have H : ((spec_l2Leaf.f l3).bind fun t230 => ((spec_LeafOf.f k a0 l3).bind fun t236 => (spec_l3Inputs.l0 k a0 a1 a2 l4 (([t230] : List (List Int))) t236 0 a1))) = some r := h
 clear h
 replace H := Option.bind_eq_some_iff.mp H
 obtain ⟨t230, A60, H⟩ := H
 (try dsimp -simprocs only at H)
 have A6 := Aside0.mk A60
 clear A60
 obtain ⟨y233, hy233⟩ : ∃ y_ : List (List Int), y_ = (([t230] : List (List Int))) := ⟨_, rfl⟩
 replace H : ((spec_LeafOf.f k a0 l3).bind fun t236 => (spec_l3Inputs.l0 k a0 a1 a2 l4 y233 t236 0 a1)) = some r := by first | (rw [hy233]; exact H) | exact H
 have Ny233 := Aside0.mk hy233
 clear hy233
 replace H := Option.bind_eq_some_iff.mp H
 obtain ⟨t236, A70, H⟩ := H
 (try dsimp -simprocs only at H)
 have A7 := Aside0.mk A70
 clear A70
 have H' := Aside0.mk H
 clear H
 go_enter Try.func84, Try.ntmps84
 go_wp2_with (first | ((with_reducible refine gate_callee (f := 116) rfl ?_); refine goesL_ (some 18) rfl rfl Try.func116 (by kernel_rfl) rfl #[.slice A3 l3.length c3] rfl av ?_; (with_reducible refine (spec_l2Leaf.calls _ _ l3 t230 _ ?side1 ?side2 A6.out).mono ?_); (case side1 => exact cv (HR3.out)); (case side2 => exact HC3.out); rintro e w8 ⟨v231, rfl, ho0, hb⟩; refine ⟨_, rfl, ?_⟩; have HO232 := Aside0.mk (Kd.R_lower (Kd.R_newM (M := fun k_ => (w.heap.size ≤ k_)) ho0 (below_size (bt)) (fun k_ h_ => h_)) (below_size (bt))); replace HB := Aside0.mk (below_step (bt) hb); (try clear hb); (try clear hb2); (try clear hk); (try clear hi); (try clear ho0); obtain ⟨Ao9, co9, eo9⟩ := Kd.R_slice HO232.out; subst eo9) | ((with_reducible refine gate_dst (N := 19) rfl ?_); refine Kd.N_lit (Kd.slice 5 (Kd.int .u8)) _ 22 ?hg (N' := 19) ?hd (xs := ([t230] : List (List Int))) (inner := [.slice Ao9 t230.length co9]) (ok := (fun k_ => (w.heap.size ≤ k_))) (okp := (fun k_ => (w.heap.size ≤ k_))) ?hr ?hp (fun _ hk => hk) ((show ∀ k_, w8.heap.size ≤ k_ → (fun k_ => (w.heap.size ≤ k_)) k_ from fun k_ hk => (Nat.le_trans (below_size (bt)) hk)) _ (Nat.le_refl _)) (Below.refl _ _) (Nat.le_refl _) (by simp) ?_; (case hd => rfl); (case hg => rfl); (case hr => first | (go_simp; done) | (go_simp; rfl)); (case hp => exact (Reps.one (show Kd.FK (Kd.slice 5 (Kd.int .u8)) _ _ t230 [.slice Ao9 t230.length co9] from (Kd.FK_slice_mk (Kd.R_reads' (Kd.R_mono (ok' := (fun k_ => (w.heap.size ≤ k_))) (HO232.out) (fun k_ hk => hk.1))).2.1 (Kd.R_F (Kd.R_mono (ok' := (fun k_ => (w.heap.size ≤ k_))) (HO232.out) (fun k_ hk => hk.1))))) (Reps.none _ _))); intro v234 w10 ho11 hb hg_ hnew_; clear hg_ hnew_; (first | rw [← Ny233.out] at ho11 | (simp only [Int.reduceToNat] at ho11; rw [← Ny233.out] at ho11)); have HO235 := Aside0.mk (Kd.N_lower ho11 (below_size (bt))); replace HB := Aside0.mk (below_step (bt) hb); clear HO232; clear hb ho11) | ((with_reducible refine gate_callee (f := 117) rfl ?_); refine goesL_ (some 22) rfl rfl Try.func117 (by kernel_rfl) rfl #[.int .i64 a0, .slice A3 l3.length c3] rfl av ?_; (with_reducible refine (spec_LeafOf.calls k a0 _ _ l3 t236 _ ?side1 ?side2 A7.out).mono ?_); (case side1 => exact cv ((Kd.C_below HR3.out HB.out))); (case side2 => exact HC3.out); rintro e w12 ⟨rfl, hb⟩; refine ⟨_, rfl, ?_⟩; replace HO235 := Aside0.mk (Kd.N_below (mv HO235.out) hb); replace HB := Aside0.mk (below_step (bt) hb); (try clear hb); (try clear hb2); (try clear hk); (try clear hi)))
 go_loopg [2, 11, 12, 13, 14] k (fun kq v2 v11 v12 v13 v14 w' => ∃ (x2_1 : Int) (x11_1 : List (List Int)) (x12_1 : Int) (x13_1 : Int) (x14_1 : Int), v2 = .int .i64 x2_1 ∧ v12 = .int .i64 x12_1 ∧ v13 = .int .i64 x13_1 ∧ v14 = .int .i64 x14_1 ∧ Aside0 (spec_l3Inputs.l0 kq a0 a1 x2_1 l4 x11_1 x12_1 x13_1 x14_1 = some r) ∧ Aside0 (kq ≤ k) ∧ Aside0 (Kd.N (Kd.slice 5 (Kd.int .u8)) 22 w' w.heap.size (fun k_ => (w.heap.size ≤ k_)) v11 x11_1) ∧ Aside0 (Below w.heap.size w w'))
 case atStart => exact ⟨(a2), (y233), (t236), (0), (a1), (by first | rfl | (simp; done) | (simp [*]; done)), (by first | rfl | (simp; done) | (simp [*]; done)), (by first | rfl | (simp; done) | (simp [*]; done)), (by first | rfl | (simp; done) | (simp [*]; done)), H', ⟨Nat.le_refl _⟩, ⟨mv HO235.out⟩, ⟨bt⟩⟩
 case round =>
  clear H'
  try clear c1
  try clear p2
  try clear c3
  try clear c4
  try clear c8
  try clear c11
  obtain ⟨x2_1, x11_1, x12_1, x13_1, x14_1, rfl, rfl, rfl, rfl, HA, HK1, HO_11, HB⟩ := hrel
  cases gk with
  | zero => exact absurd HA.out (by simp [spec_l3Inputs.l0])
  | succ k1 =>
   have H := HA.out
   clear HA
   simp only [spec_l3Inputs.l0] at H
   by_cases c13 : x14_1 > 1
   ·rw [if_pos c13] at H
    have c13b0 : decide (1 < x14_1) = true := decide_eq_true c13
    clear c13
    by_cases c14 : (wrap64 ((wrap64 (x2_1 + 1)) - (wrap64 (2 * (Int.tmod x2_1 2))))) < x14_1
    ·rw [if_pos c14] at H
     have c14b0 : decide ((wrap64 ((wrap64 (x2_1 + 1)) - (wrap64 (2 * (Int.tmod x2_1 2))))) < x14_1) = true := decide_eq_true c14
     clear c14
     by_cases c15 : 0 ≤ x13_1
     ·rw [if_pos c15] at H
      have c15b0 : decide (0 ≤ x13_1) = true := decide_eq_true c15
      clear c15
      by_cases c16 : x13_1 < (l4.length : Int)
      ·rw [if_pos c16] at H
       have c16b0 : decide (x13_1 < (l4.length : Int)) = true := decide_eq_true c16
       clear c16
       replace H := Option.bind_eq_some_iff.mp H
       obtain ⟨t244, A170, H⟩ := H
       (try dsimp -simprocs only at H)
       have A17 := Aside0.mk A170
       clear A170
       by_cases c18 : (wrap64 ((wrap64 (x2_1 + 1)) - (wrap64 (2 * (Int.tmod x2_1 2))))) > x2_1
       ·rw [if_pos c18] at H
        have c18b0 : decide (x2_1 < (wrap64 ((wrap64 (x2_1 + 1)) - (wrap64 (2 * (Int.tmod x2_1 2)))))) = true := decide_eq_true c18
        clear c18
        replace H := Option.bind_eq_some_iff.mp H
        obtain ⟨t248, A190, H⟩ := H
        (try dsimp -simprocs only at H)
        have A19 := Aside0.mk A190
        clear A190
        by_cases c20 : x11_1.length < 5864062014805
        ·rw [if_pos c20] at H
         have LMc20 := Aside0.mk c20
         clear c20
         obtain ⟨y251, hy251⟩ : ∃ y_ : List (List Int), y_ = (x11_1 ++ [t248]) := ⟨_, rfl⟩
         replace H : ((spec_Digest.f k1 a0 t248).bind fun t254 => (spec_l3Inputs.l0 k1 a0 a1 (wrap64 (Int.tdiv x2_1 2)) l4 y251 t254 (wrap64 (x13_1 + 1)) (wrap64 (Int.tdiv (wrap64 (x14_1 + 1)) 2)))) = some r := by first | (rw [hy251]; exact H) | exact H
         have Ny251 := Aside0.mk hy251
         clear hy251
         replace H := Option.bind_eq_some_iff.mp H
         obtain ⟨t254, A210, H⟩ := H
         (try dsimp -simprocs only at H)
         have A21 := Aside0.mk A210
         clear A210
         have H' := Aside0.mk H
         clear H
         have p243 : 0 ≤ (x13_1 : Int) := of_decide_eq_true asm
         have q243 : x13_1 < (l4.length : Int) := of_decide_eq_true asm
         obtain ⟨ad243, e243, hx243_0⟩ := Kd.at_int HR4.out x13_1 p243 q243
         cases e243
         replace hx243_0 := (HB.out.cell (World.block_lt_of_cell? w _ hx243_0)).trans hx243_0
         replace p243 := eq_true p243
         replace q243 := eq_true q243
         go_wp2_with (first | ((with_reducible refine gate_callee (f := 118) rfl ?_); refine goesL_ (some 43) rfl rfl Try.func118 (by kernel_rfl) rfl #[.int .i64 (rd l4 x13_1), .int .i64 x12_1] rfl av ?_; (with_reducible refine (spec_l2Node.calls k1 (rd l4 x13_1) x12_1 t244 _ A17.out).mono ?_); rintro e w22 ⟨v245, rfl, ho0, hb⟩; refine ⟨_, rfl, ?_⟩; replace HO_11 := Aside0.mk (Kd.N_elder' (mv HO_11.out) (Kd.R_base ho0) hb); have HO246 := Aside0.mk (Kd.R_lower (Kd.R_newM (M := fun k_ => (w.heap.size ≤ k_)) ho0 (below_size (bt)) (fun k_ h_ => h_)) (below_size (bt))); replace HB := Aside0.mk (below_step (bt) hb); (try clear hb); (try clear hb2); (try clear hk); (try clear hi); (try clear ho0); have p247 : 0 ≤ (x13_1 : Int) := of_decide_eq_true asm; have q247 : x13_1 < (l4.length : Int) := of_decide_eq_true asm; obtain ⟨ad247, e247, hx247_0⟩ := Kd.at_int HR4.out x13_1 p247 q247; obtain rfl : ad243 = ad247 := (by injection e247); (try (replace hx247_0 := (HB.out.cell (World.block_lt_of_cell? w _ hx247_0)).trans hx247_0)); replace p247 := eq_true p247; replace q247 := eq_true q247) | ((with_reducible refine gate_callee (f := 118) rfl ?_); refine goesL_ (some 52) rfl rfl Try.func118 (by kernel_rfl) rfl #[.int .i64 x12_1, .int .i64 (rd l4 x13_1)] rfl av ?_; (with_reducible refine (spec_l2Node.calls k1 x12_1 (rd l4 x13_1) t248 _ A19.out).mono ?_); rintro e w23 ⟨v249, rfl, ho0, hb⟩; refine ⟨_, rfl, ?_⟩; replace HO_11 := Aside0.mk (Kd.N_elder' (mv HO_11.out) (Kd.R_base ho0) hb); have HO250 := Aside0.mk (Kd.R_lower (Kd.R_new' (Kd.R_newM (M := fun k_ => (w.heap.size ≤ k_)) ho0 (below_size (bt)) (fun k_ h_ => h_)) (Kd.R_lt (mv HO246.out))) (below_size (bt))); replace HO246 := Aside0.mk (Kd.R_elder' (mv HO246.out) (Kd.R_base ho0) hb); replace HB := Aside0.mk (below_step (bt) hb); (try clear hb); (try clear hb2); (try clear hk); (try clear hi); (try clear ho0); obtain ⟨Ao25, co25, eo25⟩ := Kd.R_slice HO250.out; subst eo25) | ((with_reducible refine gate_builtin (b := .append) (xs := #[.tmp 55, .tmp 57]) rfl ?_); at_builtin; refine Kd.N_append (Kd.slice 5 (Kd.int .u8)) (w0 := w) w.heap.size rfl (.tmp 55) (.tmp 57) 24 22 (.slice none 0 0) 24 rfl Try.underlying24 info22 rfl (by decide) (by omega) u11 x11_1 t248 [.slice Ao25 t248.length co25] (fun k_ => (w.heap.size ≤ k_) ∧ some k_ ≠ (v245 : Value).ownBlock) (fun k_ => ((fun k_ => (w.heap.size ≤ k_) ∧ some k_ ≠ (v245 : Value).ownBlock)) k_ ∧ some k_ ≠ (u11 : Value).ownBlock) rfl rfl ?aP (fun _ hk => hk) ?aF ?aO ?aB ?aS ?aL ?_; (case aP => exact (Kd.FK_slice_mk (Kd.R_reads' (Kd.R_mono (ok' := (fun k_ => ((fun k_ => (w.heap.size ≤ k_) ∧ some k_ ≠ (v245 : Value).ownBlock)) k_ ∧ some k_ ≠ (u11 : Value).ownBlock)) (Kd.R_apart' (HO250.out) (Kd.N_typed HO_11.out) (by decide)) (fun k_ hk => ⟨⟨hk.1.1.1, hk.1.2⟩, hk.2⟩))).2.1 (Kd.R_F (Kd.R_mono (ok' := (fun k_ => ((fun k_ => (w.heap.size ≤ k_) ∧ some k_ ≠ (v245 : Value).ownBlock)) k_ ∧ some k_ ≠ (u11 : Value).ownBlock)) (Kd.R_apart' (HO250.out) (Kd.N_typed HO_11.out) (by decide)) (fun k_ hk => ⟨⟨hk.1.1.1, hk.1.2⟩, hk.2⟩))))); (case aB => exact (bt)); (case aF => exact (fun k_ hk => ⟨(Nat.le_trans (below_size (bt)) hk), Kd.fresh' (Kd.R_lt (mv HO246.out)) k_ hk⟩)); (case aO => exact (by (with_reducible repeat (first | apply Kd.N_alloc | apply Kd.N_drewN | apply Kd.N_drew)); exact Kd.N_mono HO_11.out (fun _ hk => ⟨hk.1.1, hk.1.2⟩))); (case aS => exact (below_size (bt))); (case aL => have := LMc20.out; omega); intro v252 w24 ho hb hg hat; rw [← Ny251.out] at ho; have n0_ := Aside0.mk (Kd.R_over' (mv HO246.out) (Kd.N_typed (mv HO_11.out)) (by decide) hg); have n1_ := Aside0.mk (hb); have n2_ := Aside0.mk (ho); have nm0_ := Aside0.mk (Kd.R_over' (mv HO250.out) (Kd.N_typed (mv HO_11.out)) (by decide) hg); clear HO246; clear HB; clear HO_11; clear HO250; have HO246 := n0_; have HB := n1_; have HO253 := n2_; clear n0_ n1_ n2_; have HO250 := nm0_; clear nm0_; clear ho hb hg hat) | ((with_reducible refine gate_callee (f := 112) rfl ?_); refine goesL_ (some 61) rfl rfl Try.func112 (by kernel_rfl) rfl #[.int .i64 a0, .slice Ao25 t248.length co25] rfl av ?_; (with_reducible refine (spec_Digest.calls k1 a0 _ _ t248 t254 _ ?side1 ?side2 A21.out).mono ?_); (case side1 => exact cv ((Kd.R_reads' HO250.out).2.2)); (case side2 => exact (Kd.R_reads' HO250.out).2.1); rintro e w26 ⟨rfl, hb⟩; refine ⟨_, rfl, ?_⟩; replace HO246 := Aside0.mk (Kd.R_below (mv HO246.out) hb); replace HO253 := Aside0.mk (Kd.N_below (mv HO253.out) hb); replace HB := Aside0.mk (below_step (bt) hb); (try clear hb); (try clear hb2); (try clear hk); (try clear hi)))
         go_roundg k1
         case measure => have := HK1.out; omega
         case rel => exact ⟨(wrap64 (Int.tdiv x2_1 2)), (y251), (t254), (wrap64 (x13_1 + 1)), (wrap64 (Int.tdiv (wrap64 (x14_1 + 1)) 2)), (by first | rfl | (simp; done) | (simp [*]; done)), (by first | rfl | (simp; done) | (simp [*]; done)), (by first | rfl | (simp; done) | (simp [*]; done)), (by first | rfl | (simp; done) | (simp [*]; done)), H', ⟨by have := HK1.out; omega⟩, ⟨by (with_reducible repeat (first | apply Kd.N_alloc | apply Kd.N_drewN | apply Kd.N_drew)); exact Kd.N_mono HO253.out (fun _ hk => hk.1)⟩, ⟨bt⟩⟩
        ·rw [if_neg c20] at H
         exact absurd H (by simp)
       ·rw [if_neg c18] at H
        have c18b0 : decide (x2_1 < (wrap64 ((wrap64 (x2_1 + 1)) - (wrap64 (2 * (Int.tmod x2_1 2)))))) = false := decide_eq_false c18
        clear c18
        by_cases c27 : x11_1.length < 5864062014805
        ·rw [if_pos c27] at H
         have LMc27 := Aside0.mk c27
         clear c27
         obtain ⟨y255, hy255⟩ : ∃ y_ : List (List Int), y_ = (x11_1 ++ [t244]) := ⟨_, rfl⟩
         replace H : ((spec_Digest.f k1 a0 t244).bind fun t258 => (spec_l3Inputs.l0 k1 a0 a1 (wrap64 (Int.tdiv x2_1 2)) l4 y255 t258 (wrap64 (x13_1 + 1)) (wrap64 (Int.tdiv (wrap64 (x14_1 + 1)) 2)))) = some r := by first | (rw [hy255]; exact H) | exact H
         have Ny255 := Aside0.mk hy255
         clear hy255
         replace H := Option.bind_eq_some_iff.mp H
         obtain ⟨t258, A280, H⟩ := H
         (try dsimp -simprocs only at H)
         have A28 := Aside0.mk A280
         clear A280
         have H' := Aside0.mk H
         clear H
         have p243 : 0 ≤ (x13_1 : Int) := of_decide_eq_true asm
         have q243 : x13_1 < (l4.length : Int) := of_decide_eq_true asm
         obtain ⟨ad243, e243, hx243_0⟩ := Kd.at_int HR4.out x13_1 p243 q243
         cases e243
         replace hx243_0 := (HB.out.cell (World.block_lt_of_cell? w _ hx243_0)).trans hx243_0
         replace p243 := eq_true p243
         replace q243 := eq_true q243
         go_wp2_with (first | ((with_reducible refine gate_callee (f := 118) rfl ?_); refine goesL_ (some 43) rfl rfl Try.func118 (by kernel_rfl) rfl #[.int .i64 (rd l4 x13_1), .int .i64 x12_1] rfl av ?_; (with_reducible refine (spec_l2Node.calls k1 (rd l4 x13_1) x12_1 t244 _ A17.out).mono ?_); rintro e w29 ⟨v245, rfl, ho0, hb⟩; refine ⟨_, rfl, ?_⟩; replace HO_11 := Aside0.mk (Kd.N_elder' (mv HO_11.out) (Kd.R_base ho0) hb); have HO246 := Aside0.mk (Kd.R_lower (Kd.R_newM (M := fun k_ => (w.heap.size ≤ k_)) ho0 (below_size (bt)) (fun k_ h_ => h_)) (below_size (bt))); replace HB := Aside0.mk (below_step (bt) hb); (try clear hb); (try clear hb2); (try clear hk); (try clear hi); (try clear ho0); obtain ⟨Ao31, co31, eo31⟩ := Kd.R_slice HO246.out; subst eo31) | ((with_reducible refine gate_builtin (b := .append) (xs := #[.tmp 55, .tmp 57]) rfl ?_); at_builtin; refine Kd.N_append (Kd.slice 5 (Kd.int .u8)) (w0 := w) w.heap.size rfl (.tmp 55) (.tmp 57) 24 22 (.slice none 0 0) 24 rfl Try.underlying24 info22 rfl (by decide) (by omega) u11 x11_1 t244 [.slice Ao31 t244.length co31] (fun k_ => (w.heap.size ≤ k_)) (fun k_ => ((fun k_ => (w.heap.size ≤ k_))) k_ ∧ some k_ ≠ (u11 : Value).ownBlock) rfl rfl ?aP (fun _ hk => hk) ?aF ?aO ?aB ?aS ?aL ?_; (case aP => exact (Kd.FK_slice_mk (Kd.R_reads' (Kd.R_mono (ok' := (fun k_ => ((fun k_ => (w.heap.size ≤ k_))) k_ ∧ some k_ ≠ (u11 : Value).ownBlock)) (Kd.R_apart' (HO246.out) (Kd.N_typed HO_11.out) (by decide)) (fun k_ hk => ⟨hk.1.1, hk.2⟩))).2.1 (Kd.R_F (Kd.R_mono (ok' := (fun k_ => ((fun k_ => (w.heap.size ≤ k_))) k_ ∧ some k_ ≠ (u11 : Value).ownBlock)) (Kd.R_apart' (HO246.out) (Kd.N_typed HO_11.out) (by decide)) (fun k_ hk => ⟨hk.1.1, hk.2⟩))))); (case aB => exact (bt)); (case aF => exact (fun k_ hk => (Nat.le_trans (below_size (bt)) hk))); (case aO => exact (by (with_reducible repeat (first | apply Kd.N_alloc | apply Kd.N_drewN | apply Kd.N_drew)); exact Kd.N_mono HO_11.out (fun _ hk => hk.1))); (case aS => exact (below_size (bt))); (case aL => have := LMc27.out; omega); intro v256 w30 ho hb hg hat; rw [← Ny255.out] at ho; have n0_ := Aside0.mk (hb); have n1_ := Aside0.mk (ho); have nm0_ := Aside0.mk (Kd.R_over' (mv HO246.out) (Kd.N_typed (mv HO_11.out)) (by decide) hg); clear HB; clear HO_11; clear HO246; have HB := n0_; have HO257 := n1_; clear n0_ n1_; have HO246 := nm0_; clear nm0_; clear ho hb hg hat) | ((with_reducible refine gate_callee (f := 112) rfl ?_); refine goesL_ (some 61) rfl rfl Try.func112 (by kernel_rfl) rfl #[.int .i64 a0, .slice Ao31 t244.length co31] rfl av ?_; (with_reducible refine (spec_Digest.calls k1 a0 _ _ t244 t258 _ ?side1 ?side2 A28.out).mono ?_); (case side1 => exact cv ((Kd.R_reads' HO246.out).2.2)); (case side2 => exact (Kd.R_reads' HO246.out).2.1); rintro e w32 ⟨rfl, hb⟩; refine ⟨_, rfl, ?_⟩; replace HO257 := Aside0.mk (Kd.N_below (mv HO257.out) hb); replace HB := Aside0.mk (below_step (bt) hb); (try clear hb); (try clear hb2); (try clear hk); (try clear hi)))
         go_roundg k1
         case measure => have := HK1.out; omega
         case rel => exact ⟨(wrap64 (Int.tdiv x2_1 2)), (y255), (t258), (wrap64 (x13_1 + 1)), (wrap64 (Int.tdiv (wrap64 (x14_1 + 1)) 2)), (by first | rfl | (simp; done) | (simp [*]; done)), (by first | rfl | (simp; done) | (simp [*]; done)), (by first | rfl | (simp; done) | (simp [*]; done)), (by first | rfl | (simp; done) | (simp [*]; done)), H', ⟨by have := HK1.out; omega⟩, ⟨mv HO257.out⟩, ⟨bt⟩⟩
        ·rw [if_neg c27] at H
         exact absurd H (by simp)
      ·rw [if_neg c16] at H
       exact absurd H (by simp)
     ·rw [if_neg c15] at H
      exact absurd H (by simp)
    ·rw [if_neg c14] at H
     have c14b0 : decide ((wrap64 ((wrap64 (x2_1 + 1)) - (wrap64 (2 * (Int.tmod x2_1 2))))) < x14_1) = false := decide_eq_false c14
     clear c14
     have H' := Aside0.mk H
     clear H
     go_wp2
     go_roundg k1
     case measure => have := HK1.out; omega
     case rel => exact ⟨(wrap64 (Int.tdiv x2_1 2)), (x11_1), (x12_1), (x13_1), (wrap64 (Int.tdiv (wrap64 (x14_1 + 1)) 2)), (by first | rfl | (simp; done) | (simp [*]; done)), (by first | rfl | (simp; done) | (simp [*]; done)), (by first | rfl | (simp; done) | (simp [*]; done)), (by first | rfl | (simp; done) | (simp [*]; done)), H', ⟨by have := HK1.out; omega⟩, ⟨mv HO_11.out⟩, ⟨bt⟩⟩
   ·rw [if_neg c13] at H
    have c13b0 : decide (1 < x14_1) = false := decide_eq_false c13
    clear c13
    replace H := Option.bind_eq_some_iff.mp H
    obtain ⟨t237, A330, H⟩ := H
    (try dsimp -simprocs only at H)
    have A33 := Aside0.mk A330
    clear A330
    by_cases c34 : x11_1.length < 5864062014805
    ·rw [if_pos c34] at H
     have LMc34 := Aside0.mk c34
     clear c34
     obtain ⟨y240, hy240⟩ : ∃ y_ : List (List Int), y_ = (x11_1 ++ [t237]) := ⟨_, rfl⟩
     replace H : (some y240) = some r := by first | (rw [hy240]; exact H) | exact H
     have Ny240 := Aside0.mk hy240
     clear hy240
     obtain rfl := Option.some.inj H
     go_wp2_with (first | ((with_reducible refine gate_callee (f := 113) rfl ?_); refine goesL_ (some 67) rfl rfl Try.func113 (by kernel_rfl) rfl #[.int .i64 a1, .int .i64 x12_1] rfl av ?_; (with_reducible refine (spec_l2Top.calls k1 a1 x12_1 t237 _ A33.out).mono ?_); rintro e w35 ⟨v238, rfl, ho0, hb⟩; refine ⟨_, rfl, ?_⟩; replace HO_11 := Aside0.mk (Kd.N_elder' (mv HO_11.out) (Kd.R_base ho0) hb); have HO239 := Aside0.mk (Kd.R_lower (Kd.R_newM (M := fun k_ => (w.heap.size ≤ k_)) ho0 (below_size (bt)) (fun k_ h_ => h_)) (below_size (bt))); replace HB := Aside0.mk (below_step (bt) hb); (try clear hb); (try clear hb2); (try clear hk); (try clear hi); (try clear ho0); obtain ⟨Ao37, co37, eo37⟩ := Kd.R_slice HO239.out; subst eo37) | ((with_reducible refine gate_builtin (b := .append) (xs := #[.tmp 64, .tmp 68]) rfl ?_); at_builtin; refine Kd.N_append (Kd.slice 5 (Kd.int .u8)) (w0 := w) w.heap.size rfl (.tmp 64) (.tmp 68) 24 22 (.slice none 0 0) 24 rfl Try.underlying24 info22 rfl (by decide) (by omega) u11 x11_1 t237 [.slice Ao37 t237.length co37] (fun k_ => (w.heap.size ≤ k_)) (fun k_ => ((fun k_ => (w.heap.size ≤ k_))) k_ ∧ some k_ ≠ (u11 : Value).ownBlock) rfl rfl ?aP (fun _ hk => hk) ?aF ?aO ?aB ?aS ?aL ?_; (case aP => exact (Kd.FK_slice_mk (Kd.R_reads' (Kd.R_mono (ok' := (fun k_ => ((fun k_ => (w.heap.size ≤ k_))) k_ ∧ some k_ ≠ (u11 : Value).ownBlock)) (Kd.R_apart' (HO239.out) (Kd.N_typed HO_11.out) (by decide)) (fun k_ hk => ⟨hk.1.1, hk.2⟩))).2.1 (Kd.R_F (Kd.R_mono (ok' := (fun k_ => ((fun k_ => (w.heap.size ≤ k_))) k_ ∧ some k_ ≠ (u11 : Value).ownBlock)) (Kd.R_apart' (HO239.out) (Kd.N_typed HO_11.out) (by decide)) (fun k_ hk => ⟨hk.1.1, hk.2⟩))))); (case aB => exact (bt)); (case aF => exact (fun k_ hk => (Nat.le_trans (below_size (bt)) hk))); (case aO => exact (by (with_reducible repeat (first | apply Kd.N_alloc | apply Kd.N_drewN | apply Kd.N_drew)); exact Kd.N_mono HO_11.out (fun _ hk => hk.1))); (case aS => exact (below_size (bt))); (case aL => have := LMc34.out; omega); intro v241 w36 ho hb hg hat; rw [← Ny240.out] at ho; replace HB := Aside0.mk (hb); have HO242 := Aside0.mk (ho); clear HO_11 HO239; clear ho hb hg hat))
     go_ret
     exact ⟨_, by first | rfl | (simp [errW_none, errW_some] <;> rfl) | (simp [*, errW_none, errW_some] <;> rfl), by (with_reducible repeat (first | apply Kd.N_alloc | apply Kd.N_drewN | apply Kd.N_drew)); exact HO242.out, bt⟩
    ·rw [if_neg c34] at H
     exact absurd H (by simp)

end Go.Proofs.Ytchjajbkaiefdaa.PFnExactFirstLiar
