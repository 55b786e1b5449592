-- Written by a program of this workplace (wip/mp.py) out of the translation.
import Derived.Test.YtchjajbkaiefdaaPFnManyx0
import Derived.Test.YtchjajbkaiefdaaPFnManyx1
import Derived.Test.YtchjajbkaiefdaaPFnManyx2
namespace Go.Proofs.Ytchjajbkaiefdaa.PFnMany
open Go.RowKit Go.Proofs.YtchjajbkaiefdaaW.PrintWords Go.Proofs.YtchjajbkaiefdaaW.PrintLast Go.Proofs.YtchjajbkaiefdaaW.PrintMore Go.Proofs.Ytchjajbkaiefdaa.Slim
attribute [local go_sem] max2_int min2_int max_two min_two max_three min_three max_four min_four   -- for this text's walks alone
set_option maxHeartbeats 8000000
set_option maxRecDepth 100000
set_option linter.unusedVariables false
set_option linter.unusedSimpArgs false

/-! ### impl_levels: function 90 -/
mutual
def impl_levels.l0 : Nat → Int → List Int → List (List Int) → List (List Int) → Int → Int → Option ((List (List Int)))
 | 0, _, _, _, _, _, _ => none
 | k + 1, x0, x5, x6, x13, x14, x15 => if x15 < x14 then (if 0 ≤ x15 then (if x15 < (x13.length : Int) then ((impl_LeafOf.f x0 (rd_L1 x13 x15)).bind fun t154 => (if x5.length < 17592186044416 then (impl_levels.l0 k x0 (x5 ++ [t154]) x6 x13 x14 (wrap64 (x15 + 1))) else (none))) else (none)) else (none)) else (impl_levels.l1 k x0 x5 x6)
def impl_levels.l1 : Nat → Int → List Int → List (List Int) → Option ((List (List Int)))
 | 0, _, _, _ => none
 | k + 1, x0, x5, x6 => if x6.length < 5864062014805 then ((some (x6 ++ [x5] : List (List Int))).bind fun y158 => (if (x5.length : Int) = 1 then (some y158) else (impl_levels.l2 k x0 x5 y158 (([] : List Int)) 0))) else (none)
def impl_levels.l2 : Nat → Int → List Int → List (List Int) → List Int → Int → Option ((List (List Int)))
 | 0, _, _, _, _, _ => none
 | k + 1, x0, x5, x6, x9, x10 => if x10 < (x5.length : Int) then (if (wrap64 (x10 + 1)) < (x5.length : Int) then (if 0 ≤ x10 then (if 0 ≤ (wrap64 (x10 + 1)) then ((impl_NodeOf.f k x0 (rd x5 x10) (rd x5 (wrap64 (x10 + 1)))).bind fun t166 => (if x9.length < 17592186044416 then (impl_levels.l2 k x0 x5 x6 (x9 ++ [t166]) (wrap64 (x10 + 2))) else (none))) else (none)) else (none)) else (if 0 ≤ x10 then (if x9.length < 17592186044416 then (impl_levels.l2 k x0 x5 x6 (x9 ++ [rd x5 x10]) (wrap64 (x10 + 2))) else (none)) else (none))) else (impl_levels.l1 k x0 x9 x6)
end
def impl_levels.f (k : Nat) (a0 : Int) (l1 : List (List Int)) : Option ((List (List Int))) := impl_levels.l0 k a0 (([] : List Int)) (([] : List (List Int))) l1 (l1.length : Int) 0
def impl_levels.T15 : Bool × List (List Nat × List Nat) := (true, [([], []), ([], []), ([], []), ([], []), ([2, 3], [2, 3]), ([4], [4]), ([], []), ([], []), ([7], [7]), ([6, 8], [6, 8]), ([9], [9]), ([1, 5, 10], [1, 5, 10]), ([11], [11]), ([0, 12, 11], [0, 12]), ([13, 13, 0, 1, 2, 3, 4, 5, 6, 7, 8, 9, 10, 11, 12, 13], [0, 13])])
def impl_levels.B15 : List Nat := [0, 0, 0, 0, 12, 28, 0, 0, 128, 448, 960, 2046, 4094, 8191, 16383]
theorem impl_levels.tab15 : rtab .any (opsOf Try.f90 15) = impl_levels.T15 := by kernel_rfl
theorem impl_levels.bits15 : waitsOk impl_levels.T15.2 impl_levels.B15 = true := by kernel_rfl
theorem impl_levels.calls (k : Nat) (a0 : Int) (A1 : Option Addr) (c1 : Nat) (l1 : List (List Int)) (r : List (List Int)) (w : World) (hr1 : Kd.C (Kd.slice 5 (Kd.int .u8)) w A1 l1.length l1) (hc1 : l1.length ≤ c1) (h : impl_levels.f k a0 l1 = some r) :
  Calls Try.prog 90 #[.int .i64 a0, .slice A1 l1.length c1] w fun e w' => ∃ v0_ : Value, e = .returned (v0_) ∧ Kd.S (Kd.slice 3 (Kd.int .i64)) 29 w' w.heap.size (fun _ => True) v0_ r ∧ Below w.heap.size w w' := by
 have HR1 := am hr1
 have HC1 := am hc1
 clear hr1 hc1
 have HB := am (Below.refl w.heap.size w)
 have H : (impl_levels.l0 k a0 (([] : List Int)) (([] : List (List Int))) l1 (l1.length : Int) 0) = some r := h
 clear h
 obtain ⟨y147, hy147⟩ : ∃ y_ : List Int, y_ = (([] : List Int)) := ⟨_, rfl⟩
 replace H : (impl_levels.l0 k a0 y147 (([] : List (List Int))) l1 (l1.length : Int) 0) = some r := by first | (rw [hy147]; exact H) | exact H
 have Ny147 := am hy147
 clear hy147
 obtain ⟨y150, hy150⟩ : ∃ y_ : List (List Int), y_ = (([] : List (List Int))) := ⟨_, rfl⟩
 replace H : (impl_levels.l0 k a0 y147 y150 l1 (l1.length : Int) 0) = some r := by first | (rw [hy150]; exact H) | exact H
 have Ny150 := am hy150
 clear hy150
 have H' := am H
 clear H
 go_enter Try.func90, Try.ntmps90
 go_wp2_with (first | ((with_reducible refine gate_dst (N := 11) rfl ?_); refine Kd.R_lit (Kd.int .i64) _ 3 ?hg (N := 11) ?hd (xs := ([] : List Int)) (inner := []) (ok := fun _ => True) (okp := fun _ => True) ?hr ?hp (fun _ hk => hk) trivial (Below.refl _ _) (Nat.le_refl _) (by simp) ?_; (case hd => rfl); (case hg => rfl); (case hr => first | (go_simp; done) | (go_simp; rfl)); (case hp => exact (Reps.none _ _)); intro v148 w3 ho4 hb hg_ hnew_; clear hg_ hnew_; (first | rw [← Ny147.out] at ho4 | (simp only [Int.reduceToNat] at ho4; rw [← Ny147.out] at ho4)); have HO149 := am (Kd.R_lower ho4 (below_size (bt))); replace HB := am (below_step (bt) hb); clear hb ho4) | ((with_reducible refine gate_dst (N := 12) rfl ?_); refine Kd.S_lit (Kd.slice 3 (Kd.int .i64)) _ 29 ?hg (N := 12) ?hd (xs := ([] : List (List Int))) (inner := []) (ok := fun _ => True) (okp := fun _ => True) ?hr ?hp (fun _ hk => hk) trivial (Below.refl _ _) (Nat.le_refl _) (by simp) ?_; (case hd => rfl); (case hg => rfl); (case hr => first | (go_simp; done) | (go_simp; rfl)); (case hp => exact (Reps.none _ _)); intro v151 w5 ho6 hb hg_ hnew_; clear hg_ hnew_; (first | rw [← Ny150.out] at ho6 | (simp only [Int.reduceToNat] at ho6; rw [← Ny150.out] at ho6)); have HO152 := am (Kd.S_lower (Kd.S_new' ho6 (Kd.R_lt (mv HO149.out))) (below_size (bt))); replace HO149 := am (Kd.R_below (mv HO149.out) hb); replace HB := am (below_step (bt) hb); clear hb ho6))
 go_loopg [5, 15] k (fun kq v5 v15 w' => ∃ (x5_1 : List Int) (x15_1 : Int), v15 = .int .i64 x15_1 ∧ Aside0 (impl_levels.l0 kq a0 x5_1 y150 l1 (l1.length : Int) x15_1 = some r) ∧ Aside0 (kq ≤ k) ∧ Aside0 (Kd.R (Kd.int .i64) 3 w' w.heap.size (fun _ => True) v5 x5_1) ∧ Aside0 (Kd.S (Kd.slice 3 (Kd.int .i64)) 29 w' w.heap.size (fun k_ => nb k_ v5) v151 y150) ∧ Aside0 (Below w.heap.size w w'))
 case atStart => exact ⟨(y147), (0), e0, H', ⟨Nat.le_refl _⟩, ⟨mv HO149.out⟩, ⟨rS (h := by exact Kd.S_mono HO152.out (fun _ hk => hk.2))⟩, ⟨bt⟩⟩
 case round =>
  clear H'
  obtain ⟨x5_1, x15_1, rfl, HA, HK1, HO_5, HO_6, HB⟩ := hrel
  cases gk with
  | zero => exact absurd HA.out (by simp [impl_levels.l0])
  | succ k1 =>
   have H := HA.out
   clear HA
   simp only [impl_levels.l0] at H
   by_cases c7 : x15_1 < (l1.length : Int)
   ·rw [if_pos c7] at H
    have c7b0 : decide (x15_1 < (l1.length : Int)) = true := decide_eq_true c7
    clear c7
    by_cases c8 : 0 ≤ x15_1
    ·rw [if_pos c8] at H
     have c8b0 : decide (0 ≤ x15_1) = true := decide_eq_true c8
     clear c8
     by_cases c9 : x15_1 < (l1.length : Int)
     ·rw [if_pos c9] at H
      have c9b0 : decide (x15_1 < (l1.length : Int)) = true := decide_eq_true c9
      clear c9
      obtain ⟨t154, A10, H⟩ := bm H
      (try dsimp -simprocs only at H)
      by_cases c11 : x5_1.length < 17592186044416
      ·rw [if_pos c11] at H
       have LMc11 := am c11
       clear c11
       obtain ⟨y155, hy155⟩ : ∃ y_ : List Int, y_ = (x5_1 ++ [t154]) := ⟨_, rfl⟩
       replace H : (impl_levels.l0 k1 a0 y155 y150 l1 (l1.length : Int) (wrap64 (x15_1 + 1))) = some r := by first | (rw [hy155]; exact H) | exact H
       have Ny155 := am hy155
       clear hy155
       have H' := am H
       clear H
       have p153 : 0 ≤ (x15_1 : Int) := of_decide_eq_true asm
       have q153 : x15_1 < (l1.length : Int) := of_decide_eq_true asm
       obtain ⟨ad153, A153_0, c153_0, e153, hx153_0, hl153_0, hi153_0⟩ := at_L1 HR1.out x15_1 p153 q153
       cases e153
       replace hx153_0 := (HB.out.cell (World.block_lt_of_cell? w _ hx153_0)).trans hx153_0
       have HR153_0 := am hi153_0
       have HC153_0 := am hl153_0
       clear hi153_0 hl153_0
       replace p153 := eq_true p153
       replace q153 := eq_true q153
       go_wp2_with (first | ((with_reducible refine gate_callee (f := 119) rfl ?_); refine goesL_ (some 22) rfl rfl Try.func119 (by kernel_rfl) rfl #[.int .i64 a0, .slice A153_0 (rd_L1 l1 x15_1).length c153_0] rfl av ?_; (with_reducible refine (impl_LeafOf.calls a0 _ _ (rd_L1 l1 x15_1) t154 _ ?side1 ?side2 A10.out).mono ?_); (case side1 => exact cv ((Kd.C_below HR153_0.out HB.out))); (case side2 => exact HC153_0.out); rintro e w12 ⟨rfl, hb⟩; refine ⟨_, rfl, ?_⟩; replace HO_5 := am (Kd.R_below (mv HO_5.out) hb); replace HO_6 := am (Kd.S_below (mv HO_6.out) hb); replace HB := am (below_step (bt) hb); (try clear hb); (try clear hb2); (try clear hk); (try clear hi)) | ((with_reducible refine gate_builtin (b := .append) (xs := #[.tmp 19, .tmp 23]) rfl ?_); at_builtin; refine Kd.R_append (Kd.int .i64) (w0 := w) w.heap.size rfl (.tmp 19) (.tmp 23) 29 3 (.int .i64 0) 8 rfl Try.underlying29 info3 rfl (by decide) (by omega) u5 x5_1 t154 [.int .i64 t154] (fun _ => True) (fun _ => False) rfl rfl ?aP (fun _ hk => hk.elim) ?aF ?aO ?aB ?aS ?aL ?_; (case aP => exact rfl); (case aB => exact (bt)); (case aF => exact (fun _ _ => trivial)); (case aO => exact (mv HO_5.out)); (case aS => exact (below_size (bt))); (case aL => have := LMc11.out; omega); intro v156 w13 ho hb hg hat; rw [← Ny155.out] at ho; replace HO_6 := am (Kd.S_after (ok := (fun _ => True)) (rS (h := by exact Kd.S_mono HO_6.out (fun _ hk => ⟨trivial, hk⟩))) hg hat); replace HB := am (hb); have HO157 := am (ho); clear HO_5; clear ho hb hg hat))
       go_roundg k1
       case measure => have := HK1.out; omega
       case rel => exact ⟨(y155), (wrap64 (x15_1 + 1)), e0, H', ⟨by have := HK1.out; omega⟩, ⟨mv HO157.out⟩, ⟨rS (h := by exact Kd.S_mono HO_6.out (fun _ hk => hk.2))⟩, ⟨bt⟩⟩
      ·exact nh c11 H
     ·exact nh c9 H
    ·exact nh c8 H
   ·rw [if_neg c7] at H
    have c7b0 : decide (x15_1 < (l1.length : Int)) = false := decide_eq_false c7
    clear c7
    have H' := am H
    clear H
    go_wp2
    go_loopg [5, 6] k1 (fun kq v5 v6 w' => ∃ (x5_2 : List Int) (x6_2 : List (List Int)), Aside0 (impl_levels.l1 kq a0 x5_2 x6_2 = some r) ∧ Aside0 (kq ≤ k1) ∧ Aside0 (Kd.R (Kd.int .i64) 3 w' w.heap.size (fun _ => True) v5 x5_2) ∧ Aside0 (Kd.S (Kd.slice 3 (Kd.int .i64)) 29 w' w.heap.size (fun k_ => nb k_ v5) v6 x6_2) ∧ Aside0 (Below w.heap.size w w'))
    case atStart => exact ⟨(x5_1), (y150), H', ⟨Nat.le_refl _⟩, ⟨mv HO_5.out⟩, ⟨mv HO_6.out⟩, ⟨bt⟩⟩
    case round =>
     clear H'
     obtain ⟨x5_2, x6_2, HA, HK2, HO_5, HO_6, HB⟩ := hrel
     cases gk with
     | zero => exact absurd HA.out (by simp [impl_levels.l1])
     | succ k2 =>
      have H := HA.out
      clear HA
      simp only [impl_levels.l1] at H
      by_cases c14 : x6_2.length < 5864062014805
      ·rw [if_pos c14] at H
       have LMc14 := am c14
       clear c14
       obtain ⟨y158, hy158⟩ : ∃ y_ : List (List Int), y_ = (x6_2 ++ [x5_2]) := ⟨_, rfl⟩
       replace H : (if (x5_2.length : Int) = 1 then (some y158) else (impl_levels.l2 k2 a0 x5_2 y158 (([] : List Int)) 0)) = some r := by first | (rw [hy158]; exact H) | exact H
       have Ny158 := am hy158
       clear hy158
       by_cases c15 : (x5_2.length : Int) = 1
       ·rw [if_pos c15] at H
        have c15b0 : ((x5_2.length : Int) == 1) = true := beq_iff_eq.mpr c15
        have c15b1 : ((x5_2.length : Int) != 1) = false := bne_eq_false_iff_eq.mpr c15
        clear c15
        obtain rfl := Option.some.inj H
        obtain ⟨Ao17, co17, eo17⟩ := Kd.R_slice HO_5.out
        subst eo17
        go_wp2_with (first | ((with_reducible refine gate_builtin (b := .append) (xs := #[.tmp 26, .tmp 28]) rfl ?_); at_builtin; refine Kd.S_append (Kd.slice 3 (Kd.int .i64)) (w0 := w) w.heap.size rfl (.tmp 26) (.tmp 28) 107 29 (.slice none 0 0) 24 rfl Try.underlying107 info29 rfl (by decide) (by omega) u6 x6_2 x5_2 [.slice Ao17 x5_2.length co17] (fun _ => True) (fun k_ => some k_ = (.slice Ao17 x5_2.length co17 : Value).ownBlock) rfl rfl ?aP (fun k_ hk_ => ((Kd.R_mono (ok' := fun k_ => ((fun _ => True)) k_ ∧ nb k_ u6) (Kd.R_apart' (HO_5.out) (Kd.S_typed HO_6.out) (by decide)) (fun k_ hk => ⟨trivial, hk.2⟩))).1 k_ hk_.symm) ?aF ?aO ?aB ?aS ?aL ?_; (case aP => exact Kd.M_row (Kd.R_mono (Kd.R_tight rfl (Kd.R_mono (ok' := fun k_ => ((fun _ => True)) k_ ∧ nb k_ u6) (Kd.R_apart' (HO_5.out) (Kd.S_typed HO_6.out) (by decide)) (fun k_ hk => ⟨trivial, hk.2⟩))) (fun _ h_ => h_))); (case aB => exact (bt)); (case aF => exact (fun _ _ => trivial)); (case aO => exact (rS (h := by exact Kd.S_mono HO_6.out (fun k_ hk => ⟨trivial, fun e_ => hk e_⟩)))); (case aS => exact (below_size (bt))); (case aL => have := LMc14.out; omega); intro v159 w16 ho hb hg hat; rw [← Ny158.out] at ho; replace HB := am (hb); have HO160 := am (ho); clear HO_6 HO_5; clear ho hb hg hat))
        go_ret
        exact ⟨_, by first | rfl | (simp [errW_none, errW_some] <;> rfl) | (simp [*, errW_none, errW_some] <;> rfl), rS (h := by exact HO160.out), bt⟩
       ·rw [if_neg c15] at H
        have c15b0 : ((x5_2.length : Int) == 1) = false := beq_eq_false_iff_ne.mpr c15
        have c15b1 : ((x5_2.length : Int) != 1) = true := bne_iff_ne.mpr c15
        obtain ⟨y161, hy161⟩ : ∃ y_ : List Int, y_ = (([] : List Int)) := ⟨_, rfl⟩
        replace H : (impl_levels.l2 k2 a0 x5_2 y158 y161 0) = some r := by first | (rw [hy161]; exact H) | exact H
        have Ny161 := am hy161
        clear hy161
        have H' := am H
        clear H
        obtain ⟨Ao19, co19, eo19⟩ := Kd.R_slice HO_5.out
        subst eo19
        go_wp2_with (first | ((with_reducible refine gate_builtin (b := .append) (xs := #[.tmp 26, .tmp 28]) rfl ?_); at_builtin; refine Kd.S_append (Kd.slice 3 (Kd.int .i64)) (w0 := w) w.heap.size rfl (.tmp 26) (.tmp 28) 107 29 (.slice none 0 0) 24 rfl Try.underlying107 info29 rfl (by decide) (by omega) u6 x6_2 x5_2 [.slice Ao19 x5_2.length co19] (fun _ => True) (fun k_ => some k_ = (.slice Ao19 x5_2.length co19 : Value).ownBlock) rfl rfl ?aP (fun k_ hk_ => ((Kd.R_mono (ok' := fun k_ => ((fun _ => True)) k_ ∧ nb k_ u6) (Kd.R_apart' (HO_5.out) (Kd.S_typed HO_6.out) (by decide)) (fun k_ hk => ⟨trivial, hk.2⟩))).1 k_ hk_.symm) ?aF ?aO ?aB ?aS ?aL ?_; (case aP => exact Kd.M_row (Kd.R_mono (Kd.R_tight rfl (Kd.R_mono (ok' := fun k_ => ((fun _ => True)) k_ ∧ nb k_ u6) (Kd.R_apart' (HO_5.out) (Kd.S_typed HO_6.out) (by decide)) (fun k_ hk => ⟨trivial, hk.2⟩))) (fun _ h_ => h_))); (case aB => exact (bt)); (case aF => exact (fun _ _ => trivial)); (case aO => exact (rS (h := by exact Kd.S_mono HO_6.out (fun k_ hk => ⟨trivial, fun e_ => hk e_⟩)))); (case aS => exact (below_size (bt))); (case aL => have := LMc14.out; omega); intro v159 w18 ho hb hg hat; rw [← Ny158.out] at ho; have n0_ := am (hb); have n1_ := am (ho); have nk_ := am (Kd.R_over' (mv HO_5.out) (Kd.S_typed HO_6.out) (by decide) hg); clear HB; clear HO_6; clear HO_5; have HO_5 := nk_; clear nk_; have HB := n0_; have HO160 := n1_; clear n0_ n1_; clear ho hb hg hat) | ((with_reducible refine gate_dst (N := 34) rfl ?_); refine Kd.R_lit (Kd.int .i64) _ 3 ?hg (N := 34) ?hd (xs := ([] : List Int)) (inner := []) (ok := fun _ => True) (okp := fun _ => True) ?hr ?hp (fun _ hk => hk) trivial (Below.refl _ _) (Nat.le_refl _) (by simp) ?_; (case hd => rfl); (case hg => rfl); (case hr => first | (go_simp; done) | (go_simp; rfl)); (case hp => exact (Reps.none _ _)); intro v162 w20 ho21 hb hg_ hnew_; clear hg_ hnew_; (first | rw [← Ny161.out] at ho21 | (simp only [Int.reduceToNat] at ho21; rw [← Ny161.out] at ho21)); have n0_ := am (Kd.S_elder' (mv HO160.out) (Kd.R_base ho21) hb); have n1_ := am (Kd.R_lower (Kd.R_new' ho21 (Kd.R_lt HO_5.out)) (below_size (bt))); have n2_ := am (below_step (bt) hb); have nk_ := am (Kd.R_elder' HO_5.out (Kd.R_base ho21) hb); clear HO_5; have HO_5 := nk_; clear nk_; clear HO160; clear HB; have HO160 := n0_; have HO163 := n1_; have HB := n2_; clear n0_ n1_ n2_; clear hb ho21))
        go_loopg [9, 10] k2 (fun kq v9 v10 w' => ∃ (x9_3 : List Int) (x10_3 : Int), v10 = .int .i64 x10_3 ∧ Aside0 (impl_levels.l2 kq a0 x5_2 y158 x9_3 x10_3 = some r) ∧ Aside0 (kq ≤ k2) ∧ Aside0 (Kd.R (Kd.int .i64) 3 w' w.heap.size (fun k_ => nb k_ v9) (.slice Ao19 x5_2.length co19) x5_2) ∧ Aside0 (Kd.S (Kd.slice 3 (Kd.int .i64)) 29 w' w.heap.size (fun k_ => nb k_ v9) v159 y158) ∧ Aside0 (Kd.R (Kd.int .i64) 3 w' w.heap.size (fun k_ => nb k_ (.slice Ao19 x5_2.length co19)) v9 x9_3) ∧ Aside0 (Below w.heap.size w w'))
        case atStart => exact ⟨(y161), (0), e0, H', ⟨Nat.le_refl _⟩, ⟨rR (h := by exact Kd.R_mono HO_5.out (fun _ hk => hk.2))⟩, ⟨rS (h := by exact Kd.S_mono HO160.out (fun _ hk => hk.2))⟩, ⟨rR (h := by exact Kd.R_mono HO163.out (fun _ hk => hk.2))⟩, ⟨bt⟩⟩
        case round =>
         clear H'
         obtain ⟨x9_3, x10_3, rfl, HA, HK3, HO_5, HO_6, HO_9, HB⟩ := hrel
         cases gk with
         | zero => exact absurd HA.out (by simp [impl_levels.l2])
         | succ k3 =>
          have H := HA.out
          clear HA
          simp only [impl_levels.l2] at H
          by_cases c22 : x10_3 < (x5_2.length : Int)
          ·rw [if_pos c22] at H
           have c22b0 : decide (x10_3 < (x5_2.length : Int)) = true := decide_eq_true c22
           clear c22
           by_cases c23 : (wrap64 (x10_3 + 1)) < (x5_2.length : Int)
           ·rw [if_pos c23] at H
            have c23b0 : decide ((wrap64 (x10_3 + 1)) < (x5_2.length : Int)) = true := decide_eq_true c23
            clear c23
            by_cases c24 : 0 ≤ x10_3
            ·rw [if_pos c24] at H
             have c24b0 : decide (0 ≤ x10_3) = true := decide_eq_true c24
             clear c24
             obtain ⟨ji25, hji25⟩ : ∃ j_ : Int, (wrap64 (x10_3 + 1)) = j_ := ⟨_, rfl⟩
             replace H : (if 0 ≤ (ji25) then ((impl_NodeOf.f k3 a0 (rd x5_2 x10_3) (rd x5_2 (ji25))).bind fun t166 => (if x9_3.length < 17592186044416 then (impl_levels.l2 k3 a0 x5_2 y158 (x9_3 ++ [t166]) (wrap64 (x10_3 + 2))) else (none))) else (none)) = some r := by first | (rw [hji25] at H; exact H) | (simp only [hji25] at H ⊢; exact H)
             (try rw [hji25] at c23b0)
             have hji25w : (IntKind.i64.wrap (x10_3 + 1)) = ji25 := (i64_w _).trans hji25
             by_cases c26 : 0 ≤ (ji25)
             ·rw [if_pos c26] at H
              have c26b0 : decide (0 ≤ (ji25)) = true := decide_eq_true c26
              clear c26
              obtain ⟨t166, A27, H⟩ := bm H
              (try dsimp -simprocs only at H)
              by_cases c28 : x9_3.length < 17592186044416
              ·rw [if_pos c28] at H
               have LMc28 := am c28
               clear c28
               obtain ⟨y167, hy167⟩ : ∃ y_ : List Int, y_ = (x9_3 ++ [t166]) := ⟨_, rfl⟩
               replace H : (impl_levels.l2 k3 a0 x5_2 y158 y167 (wrap64 (x10_3 + 2))) = some r := by first | (rw [hy167]; exact H) | exact H
               have Ny167 := am hy167
               clear hy167
               have H' := am H
               clear H
               try go_wp2
               have n0_ := am (Kd.R_drew HO_5.out)
               have n1_ := am (Kd.S_drew HO_6.out)
               have n2_ := am (Kd.R_drew HO_9.out)
               have n3_ := am (below_drew1 HB.out)
               clear HO_5
               clear HO_6
               clear HO_9
               clear HB
               have HO_5 := n0_
               have HO_6 := n1_
               have HO_9 := n2_
               have HB := n3_
               clear n0_ n1_ n2_ n3_
               have p164 : 0 ≤ (x10_3 : Int) := of_decide_eq_true asm
               have q164 : x10_3 < (x5_2.length : Int) := of_decide_eq_true asm
               obtain ⟨ad164, e164, hx164_0⟩ := Kd.at_int (Kd.R_reads' HO_5.out).2.2 x10_3 p164 q164
               cases e164
               replace p164 := eq_true p164
               replace q164 := eq_true q164
               have p165 : 0 ≤ ((ji25) : Int) := of_decide_eq_true asm
               have q165 : (ji25) < (x5_2.length : Int) := of_decide_eq_true asm
               obtain ⟨ad165, e165, hx165_0⟩ := Kd.at_int (Kd.R_reads' HO_5.out).2.2 (ji25) p165 q165
               obtain rfl : ad164 = ad165 := (by injection e165)
               replace p165 := eq_true p165
               replace q165 := eq_true q165
               refine start_ (n := 15) (S := fun w' => w'.cell? (ad164.add (x10_3).toNat) = some (.int .i64 (rd x5_2 x10_3)) ∧ w'.cell? (ad164.add ((ji25)).toNat) = some (.int .i64 (rd x5_2 (ji25)))) (ds := [12, 13]) #[false, false, false, false, false, false, false, false, false, false, false, false, false, false, false] (by kernel_rfl) rfl rfl ⟨hx164_0, hx165_0⟩ (fun hHeld => ?_); refine with_tabW impl_levels.tab15 impl_levels.bits15 (fun HT_ HW_ => ?_)
               generalize wr.drew = w29 at HO_5 HO_6 HO_9 HB hx164_0 hx165_0 hHeld ⊢
               refine pz (i := 0) (N := some 46) #[true, false, false, false, false, false, false, false, false, false, false, false, false, false, false] rfl rfl HT_.out ?_
               refine pz (i := 1) (N := some 47) #[true, true, false, false, false, false, false, false, false, false, false, false, false, false, false] rfl rfl HT_.out ?_
               refine pz (i := 2) (N := some 48) #[true, true, true, false, false, false, false, false, false, false, false, false, false, false, false] rfl rfl HT_.out ?_
               refine pz (i := 3) (N := some 49) #[true, true, true, true, false, false, false, false, false, false, false, false, false, false, false] rfl rfl HT_.out ?_
               refine pz (i := 4) (N := some 50) #[true, true, true, true, true, false, false, false, false, false, false, false, false, false, false] rfl rfl HT_.out ?_
               refine pz (i := 6) (N := some 52) #[true, true, true, true, true, false, true, false, false, false, false, false, false, false, false] rfl rfl HT_.out ?_
               refine pz (i := 7) (N := some 53) #[true, true, true, true, true, false, true, true, false, false, false, false, false, false, false] rfl rfl HT_.out ?_
               refine pz (i := 8) (N := some 54) #[true, true, true, true, true, false, true, true, true, false, false, false, false, false, false] rfl rfl HT_.out ?_
               refine pz (i := 9) (N := some 55) #[true, true, true, true, true, false, true, true, true, true, false, false, false, false, false] rfl rfl HT_.out ?_
               refine tz (i := 5) (N := some 51) #[true, true, true, true, true, true, true, true, true, true, false, false, false, false, false] rfl rfl HT_.out HW_.out hHeld (Or.inl ⟨by rfl, by rintro w' ⟨s0, s1⟩; go_simp; with_reducible rfl⟩) ?_
               refine tz (i := 10) (N := some 56) #[true, true, true, true, true, true, true, true, true, true, true, false, false, false, false] rfl rfl HT_.out HW_.out hHeld (Or.inl ⟨by rfl, by rintro w' ⟨s0, s1⟩; go_simp; with_reducible rfl⟩) ?_
               refine one_ (i := 11) (N := some 57) #[true, true, true, true, true, true, true, true, true, true, true, true, false, false, false] rfl rfl (one_of HT_.out (by kernel_rfl)) (by decide) (fun K hK => ?_)
               refine goes_ Try.func120 (by kernel_rfl) rfl #[.int .i64 a0, .int .i64 (rd x5_2 x10_3), .int .i64 (rd x5_2 (ji25))] (by rfl) rfl rfl (by (try simp only [List.map_toArray, List.map_cons, List.map_nil]); first | done | (simp only [hji25]; rfl) | rfl | (simp only [List.length_drop, List.length_take]; rfl)) ?_
               with_reducible refine (impl_NodeOf.calls k3 a0 (rd x5_2 x10_3) (rd x5_2 (ji25)) t166 _ A27.out).mono ?_
               rintro e w30 ⟨rfl, hb⟩
               have HS0_ := (hb.cell (World.block_lt_of_cell? _ _ (hHeld.1))).trans (hHeld.1)
               have HS1_ := (hb.cell (World.block_lt_of_cell? _ _ (hHeld.2))).trans (hHeld.2)
               refine ⟨_, rfl, ?_⟩
               have n0_ := am (Kd.R_below (mv HO_5.out) hb)
               have n1_ := am (Kd.S_below (mv HO_6.out) hb)
               have n2_ := am (Kd.R_below (mv HO_9.out) hb)
               have n3_ := am (below_step (bt) hb)
               clear HO_5
               clear HO_6
               clear HO_9
               clear HB
               have HO_5 := n0_
               have HO_6 := n1_
               have HO_9 := n2_
               have HB := n3_
               clear n0_ n1_ n2_ n3_
               (try clear hb)
               (try clear hb2)
               (try clear hk)
               (try clear hi)
               refine hK.out _ _ ⟨HS0_, HS1_⟩ (fun hHeld => ?_)
               clear hK K
               refine nz (N := some 57) ?_
               refine last_ (i := 12) (N := some 58) #[true, true, true, true, true, true, true, true, true, true, true, true, true, false, false] rfl rfl (one_of HT_.out (by kernel_rfl)) (by decide) (fun K hK => ?_)
               refine value_ (w1 := ?_) (v := ?_) (by rfl) rfl ?_ ?_
               rotate_left 2
               ·go_simp
                constructor
                ·rfl
                ·rfl
               refine hK.out _ _ ?_
               clear hK K
               refine nz (N := some 58) ?_
               refine last_ (i := 13) (N := some 59) #[true, true, true, true, true, true, true, true, true, true, true, true, true, true, false] rfl rfl (one_of HT_.out (by kernel_rfl)) (by decide) (fun K hK => ?_)
               refine Kd.R_append_step (Kd.int .i64) (w0 := w) w.heap.size (by rfl) (.tmp 46) (.tmp 58) 29 3 (.int .i64 0) 8 rfl Try.underlying29 info3 rfl (by decide) (by omega) u9 x9_3 t166 [.int .i64 t166] (fun k_ => nb k_ (.slice (some ad164) x5_2.length co19)) (fun _ => False) rfl rfl ?aP (fun _ hk => hk.elim) ?aF ?aO ?aB ?aS ?aL ?_
               (case aP => exact rfl)
               (case aB => exact (bt))
               (case aF => exact (fun k_ hk => Kd.fresh' (Kd.R_lt (mv HO_5.out)) k_ hk))
               (case aO => exact (mv HO_9.out))
               (case aS => exact (below_size (bt)))
               (case aL => have := LMc28.out; omega)
               intro v168 w31 ho hb hg hat
               rw [← Ny167.out] at ho
               have n0_ := am (Kd.R_after (ok := (fun _ => True)) (rR (h := by exact Kd.R_mono HO_5.out (fun _ hk => ⟨trivial, hk⟩))) hg hat)
               have n1_ := am (Kd.S_after (ok := (fun _ => True)) (rS (h := by exact Kd.S_mono HO_6.out (fun _ hk => ⟨trivial, hk⟩))) hg hat)
               have n2_ := am (hb)
               have n3_ := am (ho)
               clear HO_5
               clear HO_6
               clear HB
               clear HO_9
               have HO_5 := n0_
               have HO_6 := n1_
               have HB := n2_
               have HO169 := n3_
               clear n0_ n1_ n2_ n3_
               clear ho hb hg hat
               refine hK.out _ _ ?_
               clear hK K
               refine nz (N := some 59) ?_
               refine pz (i := 14) (N := some 9) #[true, true, true, true, true, true, true, true, true, true, true, true, true, true, true] rfl rfl HT_.out ?_
               refine done_ (done_of HT_.out (by kernel_rfl)) ?_
               (try simp only [Dig.setCell_drewN])
               try go_wp2
               go_roundg k3
               case measure => have := HK1.out; have := HK2.out; have := HK3.out; omega
               case rel => exact ⟨(y167), (wrap64 (x10_3 + 2)), e0, H', ⟨by have := HK1.out; have := HK2.out; have := HK3.out; omega⟩, ⟨rR (h := by exact Kd.R_mono HO_5.out (fun _ hk => hk.2))⟩, ⟨rS (h := by exact Kd.S_mono HO_6.out (fun _ hk => hk.2))⟩, ⟨mv HO169.out⟩, ⟨bt⟩⟩
              ·exact nh c28 H
             ·exact nh c26 H
            ·exact nh c24 H
           ·rw [if_neg c23] at H
            have c23b0 : decide ((wrap64 (x10_3 + 1)) < (x5_2.length : Int)) = false := decide_eq_false c23
            clear c23
            by_cases c32 : 0 ≤ x10_3
            ·rw [if_pos c32] at H
             have c32b0 : decide (0 ≤ x10_3) = true := decide_eq_true c32
             clear c32
             by_cases c33 : x9_3.length < 17592186044416
             ·rw [if_pos c33] at H
              have LMc33 := am c33
              clear c33
              obtain ⟨y171, hy171⟩ : ∃ y_ : List Int, y_ = (x9_3 ++ [rd x5_2 x10_3]) := ⟨_, rfl⟩
              replace H : (impl_levels.l2 k3 a0 x5_2 y158 y171 (wrap64 (x10_3 + 2))) = some r := by first | (rw [hy171]; exact H) | exact H
              have Ny171 := am hy171
              clear hy171
              have H' := am H
              clear H
              have p170 : 0 ≤ (x10_3 : Int) := of_decide_eq_true asm
              have q170 : x10_3 < (x5_2.length : Int) := of_decide_eq_true asm
              obtain ⟨ad170, e170, hx170_0⟩ := Kd.at_int (Kd.R_reads' HO_5.out).2.2 x10_3 p170 q170
              cases e170
              replace p170 := eq_true p170
              replace q170 := eq_true q170
              go_wp2_with (first | ((with_reducible refine gate_builtin (b := .append) (xs := #[.tmp 60, .tmp 65]) rfl ?_); at_builtin; refine Kd.R_append (Kd.int .i64) (w0 := w) w.heap.size rfl (.tmp 60) (.tmp 65) 29 3 (.int .i64 0) 8 rfl Try.underlying29 info3 rfl (by decide) (by omega) u9 x9_3 (rd x5_2 x10_3) [.int .i64 (rd x5_2 x10_3)] (fun k_ => nb k_ (.slice (some ad170) x5_2.length co19)) (fun _ => False) rfl rfl ?aP (fun _ hk => hk.elim) ?aF ?aO ?aB ?aS ?aL ?_; (case aP => exact rfl); (case aB => exact (bt)); (case aF => exact (fun k_ hk => Kd.fresh' (Kd.R_lt (mv HO_5.out)) k_ hk)); (case aO => exact (mv HO_9.out)); (case aS => exact (below_size (bt))); (case aL => have := LMc33.out; omega); intro v172 w34 ho hb hg hat; rw [← Ny171.out] at ho; replace HO_5 := am (Kd.R_after (ok := (fun _ => True)) (rR (h := by exact Kd.R_mono HO_5.out (fun _ hk => ⟨trivial, hk⟩))) hg hat); replace HO_6 := am (Kd.S_after (ok := (fun _ => True)) (rS (h := by exact Kd.S_mono HO_6.out (fun _ hk => ⟨trivial, hk⟩))) hg hat); replace HB := am (hb); have HO173 := am (ho); clear HO_9; clear ho hb hg hat))
              go_roundg k3
              case measure => have := HK1.out; have := HK2.out; have := HK3.out; omega
              case rel => exact ⟨(y171), (wrap64 (x10_3 + 2)), e0, H', ⟨by have := HK1.out; have := HK2.out; have := HK3.out; omega⟩, ⟨rR (h := by exact Kd.R_mono HO_5.out (fun _ hk => hk.2))⟩, ⟨rS (h := by exact Kd.S_mono HO_6.out (fun _ hk => hk.2))⟩, ⟨mv HO173.out⟩, ⟨bt⟩⟩
             ·exact nh c33 H
            ·exact nh c32 H
          ·rw [if_neg c22] at H
           have c22b0 : decide (x10_3 < (x5_2.length : Int)) = false := decide_eq_false c22
           clear c22
           have H' := am H
           clear H
           go_wp2
           go_roundg k3
           case measure => have := HK1.out; have := HK2.out; have := HK3.out; omega
           case rel => exact ⟨(x9_3), (y158), H', ⟨by have := HK1.out; have := HK2.out; have := HK3.out; omega⟩, ⟨rR (h := by exact Kd.R_mono HO_9.out (fun _ hk => trivial))⟩, ⟨mv HO_6.out⟩, ⟨bt⟩⟩
      ·exact nh c14 H

/-! ### impl_topInput: function 105 -/
def impl_topInput.f (k : Nat) (a0 : Int) (a1 : Int) : Option (List Int) := (some (([2, (a0) % 256] : List Int) : List Int)).bind fun y174 => ((impl_Eight.f k a1).bind fun t177 => (if y174.length + t177.length < 140737488355328 then (some (y174 ++ t177)) else (none)))
theorem impl_topInput.calls (k : Nat) (a0 : Int) (a1 : Int) (r : List Int) (w : World) (h : impl_topInput.f k a0 a1 = some r) :
  Calls Try.prog 105 #[.int .i64 a0, .int .i64 a1] w fun e w' => ∃ v0_ : Value, e = .returned (v0_) ∧ Kd.R (Kd.int .u8) 5 w' w.heap.size (fun _ => True) v0_ r ∧ Below w.heap.size w w' := by
 have HB := am (Below.refl w.heap.size w)
 have H : ((some (([2, (a0) % 256] : List Int) : List Int)).bind fun y174 => ((impl_Eight.f k a1).bind fun t177 => (if y174.length + t177.length < 140737488355328 then (some (y174 ++ t177)) else (none)))) = some r := h
 clear h
 obtain ⟨y174, hy174⟩ : ∃ y_ : List Int, y_ = (([2, (a0) % 256] : List Int)) := ⟨_, rfl⟩
 replace H : ((impl_Eight.f k a1).bind fun t177 => (if y174.length + t177.length < 140737488355328 then (some (y174 ++ t177)) else (none))) = some r := by first | (rw [hy174]; exact H) | exact H
 have Ny174 := am hy174
 clear hy174
 obtain ⟨t177, A3, H⟩ := bm H
 (try dsimp -simprocs only at H)
 by_cases c4 : y174.length + t177.length < 140737488355328
 ·rw [if_pos c4] at H
  have LMc4 := am c4
  clear c4
  obtain ⟨y180, hy180⟩ : ∃ y_ : List Int, y_ = (y174 ++ t177) := ⟨_, rfl⟩
  replace H : (some y180) = some r := by first | (rw [hy180]; exact H) | exact H
  have Ny180 := am hy180
  clear hy180
  obtain rfl := Option.some.inj H
  go_enter Try.func105, Try.ntmps105
  go_wp2_with (first | ((with_reducible refine gate_dst (N := 7) rfl ?_); refine Kd.R_lit (Kd.int .u8) _ 5 ?hg (N := 7) ?hd (xs := ([2, (a0) % 256] : List Int)) (inner := [.int .u8 2, .int .u8 ((a0) % 256)]) (ok := fun _ => True) (okp := fun _ => True) ?hr ?hp (fun _ hk => hk) trivial (Below.refl _ _) (Nat.le_refl _) (by simp) ?_; (case hd => rfl); (case hg => rfl); (case hr => first | (go_simp; done) | (go_simp; rfl)); (case hp => exact (Reps.one (show Kd.M (Kd.int .u8) _ _ _ 2 [.int .u8 2] from rfl) (Reps.one (show Kd.M (Kd.int .u8) _ _ _ ((a0) % 256) [.int .u8 ((a0) % 256)] from rfl) (Reps.none _ _)))); intro v175 w5 ho6 hb hg_ hnew_; clear hg_ hnew_; (first | rw [← Ny174.out] at ho6 | (simp only [Int.reduceToNat] at ho6; rw [← Ny174.out] at ho6)); have HO176 := am (Kd.R_lower ho6 (below_size (bt))); replace HB := am (below_step (bt) hb); clear hb ho6) | ((with_reducible refine gate_callee (f := 130) rfl ?_); refine goesL_ (some 9) rfl rfl Try.func130 (by kernel_rfl) rfl #[.int .i64 a1] rfl av ?_; (with_reducible refine (impl_Eight.calls k a1 t177 _ A3.out).mono ?_); rintro e w7 ⟨v178, rfl, ho0, hb⟩; refine ⟨_, rfl, ?_⟩; have HO179 := am (Kd.R_lower (Kd.R_new' ho0 (Kd.R_lt (mv HO176.out))) (below_size (bt))); replace HO176 := am (Kd.R_elder' (mv HO176.out) (Kd.R_base ho0) hb); replace HB := am (below_step (bt) hb); (try clear hb); (try clear hb2); (try clear hk); (try clear hi); (try clear ho0); obtain ⟨Ao9, co9, eo9⟩ := Kd.R_slice HO179.out; subst eo9) | ((with_reducible refine gate_builtin (b := .append) (xs := #[.tmp 7, .tmp 9]) rfl ?_); at_builtin; refine Kd.R_append_rows (Kd.int .u8) (w0 := w) w.heap.size rfl (.tmp 7) (.tmp 9) 22 5 (.int .u8 0) 1 rfl Try.underlying22 info5 rfl (by decide) (by omega) v175 y174 t177 _ _ _ (fun k_ => nb k_ (.slice Ao9 t177.length co9)) (fun _ => False) rfl rfl ?aO ?aR (fun _ _ h => h) (fun _ h => h.elim) ?aF ?aB ?aS ?aL ?_; (case aR => exact cv ((Kd.R_reads' HO179.out).2.2)); (case aB => exact (bt)); (case aF => exact (fun k_ hk => Kd.fresh' (Kd.R_lt (mv HO179.out)) k_ hk)); (case aO => exact (rR (h := by exact Kd.R_mono HO176.out (fun _ hk => hk.2)))); (case aS => exact (below_size (bt))); (case aL => have := LMc4.out; omega); intro v181 w8 ho hb hg hat; rw [← Ny180.out] at ho; replace HO179 := am (Kd.R_after (ok := (fun _ => True)) (mv HO179.out) hg hat); replace HB := am (hb); have HO182 := am (ho); clear HO176; clear ho hb hg hat))
  go_ret
  exact ⟨_, by first | rfl | (simp [errW_none, errW_some] <;> rfl) | (simp [*, errW_none, errW_some] <;> rfl), rR (h := by exact Kd.R_mono HO182.out (fun _ hk => trivial)), bt⟩
 ·exact nh c4 H

/-! ### impl_topOf: function 57 -/
def impl_topOf.f (k : Nat) (a0 : Int) (l1 : List (List Int)) : Option (List Int) := (impl_levels.f k a0 l1).bind fun t183 => (if 0 ≤ (wrap64 ((t183.length : Int) - 1)) then (if (wrap64 ((t183.length : Int) - 1)) < (t183.length : Int) then (if 0 < ((rd_L3 t183 (wrap64 ((t183.length : Int) - 1))).length : Int) then ((impl_topInput.f k (l1.length : Int) (rd (rd_L3 t183 (wrap64 ((t183.length : Int) - 1))) 0)).bind fun t188 => (some t188)) else (none)) else (none)) else (none))
theorem impl_topOf.calls (k : Nat) (a0 : Int) (A1 : Option Addr) (c1 : Nat) (l1 : List (List Int)) (r : List Int) (w : World) (hr1 : Kd.C (Kd.slice 5 (Kd.int .u8)) w A1 l1.length l1) (hc1 : l1.length ≤ c1) (h : impl_topOf.f k a0 l1 = some r) :
  Calls Try.prog 57 #[.int .i64 a0, .slice A1 l1.length c1] w fun e w' => ∃ v0_ : Value, e = .returned (v0_) ∧ Kd.R (Kd.int .u8) 5 w' w.heap.size (fun _ => True) v0_ r ∧ Below w.heap.size w w' := by
 have HR1 := am hr1
 have HC1 := am hc1
 clear hr1 hc1
 have HB := am (Below.refl w.heap.size w)
 have H : ((impl_levels.f k a0 l1).bind fun t183 => (if 0 ≤ (wrap64 ((t183.length : Int) - 1)) then (if (wrap64 ((t183.length : Int) - 1)) < (t183.length : Int) then (if 0 < ((rd_L3 t183 (wrap64 ((t183.length : Int) - 1))).length : Int) then ((impl_topInput.f k (l1.length : Int) (rd (rd_L3 t183 (wrap64 ((t183.length : Int) - 1))) 0)).bind fun t188 => (some t188)) else (none)) else (none)) else (none))) = some r := h
 clear h
 obtain ⟨t183, A3, H⟩ := bm H
 (try dsimp -simprocs only at H)
 obtain ⟨ji4, hji4⟩ : ∃ j_ : Int, (wrap64 ((t183.length : Int) - 1)) = j_ := ⟨_, rfl⟩
 replace H : (if 0 ≤ (ji4) then (if (ji4) < (t183.length : Int) then (if 0 < ((rd_L3 t183 (ji4)).length : Int) then ((impl_topInput.f k (l1.length : Int) (rd (rd_L3 t183 (ji4)) 0)).bind fun t188 => (some t188)) else (none)) else (none)) else (none)) = some r := by first | (rw [hji4] at H; exact H) | (simp only [hji4] at H ⊢; exact H)
 (try rw [hji4] at A3)
 have hji4w : (IntKind.i64.wrap ((t183.length : Int) - 1)) = ji4 := (i64_w _).trans hji4
 by_cases c5 : 0 ≤ (ji4)
 ·rw [if_pos c5] at H
  have c5b0 : decide (0 ≤ (ji4)) = true := decide_eq_true c5
  clear c5
  by_cases c6 : (ji4) < (t183.length : Int)
  ·rw [if_pos c6] at H
   have c6b0 : decide ((ji4) < (t183.length : Int)) = true := decide_eq_true c6
   clear c6
   by_cases c7 : 0 < ((rd_L3 t183 (ji4)).length : Int)
   ·rw [if_pos c7] at H
    have c7b0 : decide (0 < ((rd_L3 t183 (ji4)).length : Int)) = true := decide_eq_true c7
    have c7b1 : decide (0 < (rd_L3 t183 (ji4)).length) = true := decide_eq_true (by omega)
    clear c7
    obtain ⟨t188, A8, H⟩ := bm H
    (try dsimp -simprocs only at H)
    obtain rfl := Option.some.inj H
    go_enter Try.func57, Try.ntmps57
    go_wp2_with (first | ((with_reducible refine gate_callee (f := 90) rfl ?_); refine goesL_ (some 8) rfl rfl Try.func90 (by kernel_rfl) rfl #[.int .i64 a0, .slice A1 l1.length c1] rfl av ?_; (with_reducible refine (impl_levels.calls k a0 _ _ l1 t183 _ ?side1 ?side2 A3.out).mono ?_); (case side1 => exact cv (HR1.out)); (case side2 => exact HC1.out); rintro e w9 ⟨v184, rfl, ho0, hb⟩; refine ⟨_, rfl, ?_⟩; have HO185 := am (Kd.S_lower ho0 (below_size (bt))); replace HB := am (below_step (bt) hb); (try clear hb); (try clear hb2); (try clear hk); (try clear hi); (try clear ho0); obtain ⟨Ao10, co10, eo10⟩ := Kd.S_slice HO185.out; subst eo10; have p186 : 0 ≤ ((ji4) : Int) := of_decide_eq_true asm; have q186 : (ji4) < (t183.length : Int) := of_decide_eq_true asm; obtain ⟨ad186, A186_0, c186_0, e186, hx186_0, hl186_0, hi186_0⟩ := at_L3 (Kd.S_reads' HO185.out).2.2 (ji4) p186 q186; cases e186; obtain ⟨ce186, hce186, hMe186, hcc186⟩ := Kd.S_get HO185.out [] (ji4) p186 (by first | exact q186 | exact of_decide_eq_true asm | (have e_ := (Kd.S_reads' HO185.out).1; omega)); obtain ⟨ve186_0, rfl, ge186_0⟩ := hMe186; have hv186_0 := hcc186 0 _ rfl; rw [Nat.add_zero, show ((Kd.slice 3 (Kd.int .i64))).sz = 1 from rfl, Nat.mul_one] at hv186_0; replace hv186_0 := Option.some.inj (hv186_0.symm.trans hx186_0); rw [hv186_0] at ge186_0; have HL186_0 := am (show Kd.R (Kd.int .i64) 3 _ _ _ _ (rd_L3 t183 (ji4)) from ge186_0); clear hv186_0 ge186_0; clear hcc186 hce186; have HR186_0 := am hi186_0; have HC186_0 := am hl186_0; clear hi186_0 hl186_0; replace p186 := eq_true p186; replace q186 := eq_true q186; have p187 : 0 ≤ (0 : Int) := (by omega); have q187 : 0 < ((rd_L3 t183 (ji4)).length : Int) := of_decide_eq_true asm; obtain ⟨ad187, e187, hx187_0⟩ := Kd.at_int (cv HR186_0.out) 0 p187 q187; cases e187; have qi187 : (0 < (rd_L3 t183 (ji4)).length) = True := eq_true (by omega); (try rw [show ((0 : Int)).toNat = 0 from rfl] at hx187_0); (try rw [Addr.add_zero'] at hx187_0); replace p187 := eq_true p187; replace q187 := eq_true q187) | ((with_reducible refine gate_callee (f := 105) rfl ?_); refine goesL_ (some 19) rfl rfl Try.func105 (by kernel_rfl) rfl #[.int .i64 (l1.length : Int), .int .i64 (rd (rd_L3 t183 (ji4)) 0)] rfl (by (try simp only [List.map_toArray, List.map_cons, List.map_nil]); first | done | (simp only [hji4]; rfl) | rfl | (simp only [List.length_drop, List.length_take]; rfl)) ?_; (with_reducible refine (impl_topInput.calls k (l1.length : Int) (rd (rd_L3 t183 (ji4)) 0) t188 _ A8.out).mono ?_); rintro e w11 ⟨v189, rfl, ho0, hb⟩; refine ⟨_, rfl, ?_⟩; replace HO185 := am (Kd.S_below (mv HO185.out) hb); replace HL186_0 := am (Kd.R_below (mv HL186_0.out) hb); have HO190 := am (Kd.R_lower ho0 (below_size (bt))); replace HR186_0 := am (Kd.C_below (cv HR186_0.out) hb); replace HB := am (below_step (bt) hb); (try clear hb); (try clear hb2); (try clear hk); (try clear hi); (try clear ho0)))
    go_ret
    exact ⟨_, by first | rfl | (simp [errW_none, errW_some] <;> rfl) | (simp only [← hji4]; first | rfl | (simp [errW_none, errW_some] <;> rfl)) | (simp [*, errW_none, errW_some] <;> rfl), rR (h := by exact HO190.out), bt⟩
   ·exact nh c7 H
  ·exact nh c6 H
 ·exact nh c5 H

/-! ### impl_TreeRoot: function 11 -/
def impl_TreeRoot.f (k : Nat) (a0 : Int) (l1 : List (List Int)) : Option (Int) := (impl_leavesOk.f a0 l1).bind fun t191 => (if t191 = true then ((impl_topOf.f k a0 l1).bind fun t192 => ((impl_Digest.f a0 t192).bind fun t195 => (some t195))) else (some (-1)))
theorem impl_TreeRoot.calls (k : Nat) (a0 : Int) (A1 : Option Addr) (c1 : Nat) (l1 : List (List Int)) (r : Int) (w : World) (hr1 : Kd.C (Kd.slice 5 (Kd.int .u8)) w A1 l1.length l1) (hc1 : l1.length ≤ c1) (h : impl_TreeRoot.f k a0 l1 = some r) :
  Calls Try.prog 11 #[.int .i64 a0, .slice A1 l1.length c1] w fun e w' => e = .returned (.int .i64 r) ∧ Below w.heap.size w w' := by
 have HR1 := am hr1
 have HC1 := am hc1
 clear hr1 hc1
 have HB := am (Below.refl w.heap.size w)
 have H : ((impl_leavesOk.f a0 l1).bind fun t191 => (if t191 = true then ((impl_topOf.f k a0 l1).bind fun t192 => ((impl_Digest.f a0 t192).bind fun t195 => (some t195))) else (some (-1)))) = some r := h
 clear h
 obtain ⟨t191, A3, H⟩ := bm H
 (try dsimp -simprocs only at H)
 by_cases c4 : t191 = true
 ·subst c4
  rw [if_pos rfl] at H
  obtain ⟨t192, A5, H⟩ := bm H
  (try dsimp -simprocs only at H)
  obtain ⟨t195, A6, H⟩ := bm H
  (try dsimp -simprocs only at H)
  obtain rfl := Option.some.inj H
  go_enter Try.func11, Try.ntmps11
  go_wp2_with (first | ((with_reducible refine gate_callee (f := 55) rfl ?_); refine goesL_ (some 7) rfl rfl Try.func55 (by kernel_rfl) rfl #[.int .i64 a0, .slice A1 l1.length c1] rfl av ?_; (with_reducible refine (impl_leavesOk.calls a0 _ _ l1 true _ ?side1 ?side2 A3.out).mono ?_); (case side1 => exact cv (HR1.out)); (case side2 => exact HC1.out); rintro e w' ⟨rfl, ⟨nd, rfl⟩⟩; refine ⟨_, rfl, ?_⟩) | ((with_reducible refine gate_callee (f := 57) rfl ?_); refine goesL_ (some 12) rfl rfl Try.func57 (by kernel_rfl) rfl #[.int .i64 a0, .slice A1 l1.length c1] rfl av ?_; (with_reducible refine (impl_topOf.calls k a0 _ _ l1 t192 _ ?side1 ?side2 A5.out).mono ?_); (case side1 => exact cv (HR1.out)); (case side2 => exact HC1.out); rintro e w7 ⟨v193, rfl, ho0, hb⟩; refine ⟨_, rfl, ?_⟩; have HO194 := am (Kd.R_lower ho0 (below_size (bt))); replace HB := am (below_step (bt) hb); (try clear hb); (try clear hb2); (try clear hk); (try clear hi); (try clear ho0); obtain ⟨Ao8, co8, eo8⟩ := Kd.R_slice HO194.out; subst eo8) | ((with_reducible refine gate_callee (f := 56) rfl ?_); refine goesL_ (some 13) rfl rfl Try.func56 (by kernel_rfl) rfl #[.int .i64 a0, .slice Ao8 t192.length co8] rfl av ?_; (with_reducible refine (impl_Digest.calls a0 _ _ t192 t195 _ ?side1 ?side2 A6.out).mono ?_); (case side1 => exact cv ((Kd.R_reads' HO194.out).2.2)); (case side2 => exact (Kd.R_reads' HO194.out).2.1); rintro e w9 ⟨rfl, hb⟩; refine ⟨_, rfl, ?_⟩; replace HO194 := am (Kd.R_below (mv HO194.out) hb); replace HB := am (below_step (bt) hb); (try clear hb); (try clear hb2); (try clear hk); (try clear hi)))
  go_ret
  exact ⟨by first | rfl | (simp [errW_none, errW_some] <;> rfl) | (simp [*, errW_none, errW_some] <;> rfl), bt⟩
 ·replace c4 := Bool.eq_false_iff.mpr c4
  subst c4
  rw [if_neg nft] at H
  obtain rfl := Option.some.inj H
  go_enter Try.func11, Try.ntmps11
  go_wp2_with (first | ((with_reducible refine gate_callee (f := 55) rfl ?_); refine goesL_ (some 7) rfl rfl Try.func55 (by kernel_rfl) rfl #[.int .i64 a0, .slice A1 l1.length c1] rfl av ?_; (with_reducible refine (impl_leavesOk.calls a0 _ _ l1 false _ ?side1 ?side2 A3.out).mono ?_); (case side1 => exact cv (HR1.out)); (case side2 => exact HC1.out); rintro e w' ⟨rfl, ⟨nd, rfl⟩⟩; refine ⟨_, rfl, ?_⟩))
  go_ret
  exact ⟨by first | rfl | (simp [errW_none, errW_some] <;> rfl) | (simp [*, errW_none, errW_some] <;> rfl), bt⟩

/-! ### bytes_Equal: function 60 -/
def bytes_Equal.f (l0 : List Int) (l1 : List Int) : Option (Bool) := some ((strOfNums l0).toList == (strOfNums l1).toList)
theorem bytes_Equal.calls (A0 : Option Addr) (c0 : Nat) (l0 : List Int) (A1 : Option Addr) (c1 : Nat) (l1 : List Int) (r : Bool) (w : World) (hr0 : Kd.C (Kd.int .u8) w A0 l0.length l0) (hc0 : l0.length ≤ c0) (hr1 : Kd.C (Kd.int .u8) w A1 l1.length l1) (hc1 : l1.length ≤ c1) (h : bytes_Equal.f l0 l1 = some r) :
  Calls Try.prog 60 #[.slice A0 l0.length c0, .slice A1 l1.length c1] w fun e w' => e = .returned (.bool r) ∧ Drawn0 w w' := by
 have HR0 := am hr0
 have HC0 := am hc0
 clear hr0 hc0
 have HR1 := am hr1
 have HC1 := am hc1
 clear hr1 hc1
 have H : (some ((strOfNums l0).toList == (strOfNums l1).toList)) = some r := h
 clear h
 obtain rfl := Option.some.inj H
 have hcv3 := Kd.C_string (P := Try.prog) (A := A0) (c := c0) Try.underlying22 Try.underlying5 Try.underlying9 HR0.out
 have hcv4 := Kd.C_string (P := Try.prog) (A := A1) (c := c1) Try.underlying22 Try.underlying5 Try.underlying9 HR1.out
 go_enter Try.func60, Try.ntmps60
 go_wp2
 go_ret
 exact ⟨e0, by repeat (first | exact Drawn0.refl _ | apply Drawn0.step)⟩

/-! ### impl_Collides: function 13 -/
def impl_Collides.f (a0 : Int) (l1_0 : List Int) (l1_1 : List Int) : Option (Bool) := (impl_Digest.f a0 l1_0).bind fun t197 => (if t197 ≥ 0 then ((bytes_Equal.f l1_0 l1_1).bind fun t198 => (if t198 = true then (some false) else ((impl_Digest.f a0 l1_1).bind fun t199 => (some (t197 == t199))))) else (some false))
theorem impl_Collides.calls (a0 : Int) (A1_0 : Option Addr) (c1_0 : Nat) (l1_0 : List Int) (A1_1 : Option Addr) (c1_1 : Nat) (l1_1 : List Int) (r : Bool) (w : World) (hr1_0 : Kd.C (Kd.int .u8) w A1_0 l1_0.length l1_0) (hc1_0 : l1_0.length ≤ c1_0) (hr1_1 : Kd.C (Kd.int .u8) w A1_1 l1_1.length l1_1) (hc1_1 : l1_1.length ≤ c1_1) (h : impl_Collides.f a0 l1_0 l1_1 = some r) :
  Calls Try.prog 13 #[.int .i64 a0, .agg #[.slice A1_0 l1_0.length c1_0, .slice A1_1 l1_1.length c1_1]] w fun e w' => e = .returned (.bool r) ∧ Below w.heap.size w w' := by
 have hu33 := Try.underlying33
 have HR1_0 := am hr1_0
 have HC1_0 := am hc1_0
 clear hr1_0 hc1_0
 have HR1_1 := am hr1_1
 have HC1_1 := am hc1_1
 clear hr1_1 hc1_1
 have HB := am (Below.refl w.heap.size w)
 have H : ((impl_Digest.f a0 l1_0).bind fun t197 => (if t197 ≥ 0 then ((bytes_Equal.f l1_0 l1_1).bind fun t198 => (if t198 = true then (some false) else ((impl_Digest.f a0 l1_1).bind fun t199 => (some (t197 == t199))))) else (some false))) = some r := h
 clear h
 obtain ⟨t197, A3, H⟩ := bm H
 (try dsimp -simprocs only at H)
 by_cases c4 : t197 ≥ 0
 ·rw [if_pos c4] at H
  have c4b0 : decide (0 ≤ t197) = true := decide_eq_true c4
  clear c4
  obtain ⟨t198, A5, H⟩ := bm H
  (try dsimp -simprocs only at H)
  by_cases c6 : t198 = true
  ·subst c6
   rw [if_pos rfl] at H
   obtain rfl := Option.some.inj H
   go_enter Try.func13, Try.ntmps13
   go_wp2_with (first | ((with_reducible refine gate_dst (N := 3) rfl ?_); refine box_event ?hg (N := 3) ?hd (cs := #[.slice A1_0 l1_0.length c1_0, .slice A1_1 l1_1.length c1_1]) (t := 33) ?hr ?_; (case hd => rfl); (case hg => rfl); (case hr => first | (go_simp; done) | (go_simp; rfl)); intro gb196 hg w7 hbox hb; have BK196 := am (hbox); have GW196 := am ((by rw [hg]; exact (below_size (bt)) : w.heap.size ≤ gb196)); have GE196 := am ((by rw [hg]; exact (below_size (bt)) : w.heap.size ≤ gb196)); replace HB := am (below_step (bt) hb); clear hb hbox hg; have hcz8_0 : w7.cell? ⟨gb196, 0, none⟩ = some (.slice A1_0 l1_0.length c1_0) := (blk_cell BK196.out 0).trans rfl; have hcz8_1 : w7.cell? ⟨gb196, 1, none⟩ = some (.slice A1_1 l1_1.length c1_1) := (blk_cell BK196.out 1).trans rfl; have hfz8_0 := blk_frozen BK196.out 0; have hfz8_1 := blk_frozen BK196.out 1) | ((with_reducible refine gate_callee (f := 56) rfl ?_); refine goesL_ (some 9) rfl rfl Try.func56 (by kernel_rfl) rfl #[.int .i64 a0, .slice A1_0 l1_0.length c1_0] rfl av ?_; (with_reducible refine (impl_Digest.calls a0 _ _ l1_0 t197 _ ?side1 ?side2 A3.out).mono ?_); (case side1 => exact cv ((Kd.C_below HR1_0.out HB.out))); (case side2 => exact HC1_0.out); rintro e w9 ⟨rfl, hb⟩; refine ⟨_, rfl, ?_⟩; replace BK196 := am (blk_below (g := gb196) (o := .cells #[.slice A1_0 l1_0.length c1_0, .slice A1_1 l1_1.length c1_1] 33 (0, 0)) (mb BK196.out) hb); replace HB := am (below_step (b1 GE196.out) hb); (try clear hb); (try clear hb2); (try clear hk); (try clear hi); have hcz10_0 : w9.cell? ⟨gb196, 0, none⟩ = some (.slice A1_0 l1_0.length c1_0) := (blk_cell BK196.out 0).trans rfl; have hcz10_1 : w9.cell? ⟨gb196, 1, none⟩ = some (.slice A1_1 l1_1.length c1_1) := (blk_cell BK196.out 1).trans rfl; have hfz10_0 := blk_frozen BK196.out 0; have hfz10_1 := blk_frozen BK196.out 1) | (go_at_call 60; (with_reducible refine (bytes_Equal.calls _ _ l1_0 _ _ l1_1 true _ ?side1 ?side2 ?side3 ?side4 A5.out).mono ?_); (case side1 => exact cv ((Kd.C_below HR1_0.out HB.out))); (case side2 => exact HC1_0.out); (case side3 => exact cv ((Kd.C_below HR1_1.out HB.out))); (case side4 => exact HC1_1.out); rintro e w' ⟨rfl, ⟨nd, rfl⟩⟩))
   go_ret
   exact ⟨by first | rfl | (simp [errW_none, errW_some] <;> rfl) | (simp [*, errW_none, errW_some] <;> rfl), b1 GE196.out⟩
  ·replace c6 := Bool.eq_false_iff.mpr c6
   subst c6
   rw [if_neg nft] at H
   obtain ⟨t199, A11, H⟩ := bm H
   (try dsimp -simprocs only at H)
   obtain rfl := Option.some.inj H
   go_enter Try.func13, Try.ntmps13
   go_wp2_with (first | ((with_reducible refine gate_dst (N := 3) rfl ?_); refine box_event ?hg (N := 3) ?hd (cs := #[.slice A1_0 l1_0.length c1_0, .slice A1_1 l1_1.length c1_1]) (t := 33) ?hr ?_; (case hd => rfl); (case hg => rfl); (case hr => first | (go_simp; done) | (go_simp; rfl)); intro gb196 hg w12 hbox hb; have BK196 := am (hbox); have GW196 := am ((by rw [hg]; exact (below_size (bt)) : w.heap.size ≤ gb196)); have GE196 := am ((by rw [hg]; exact (below_size (bt)) : w.heap.size ≤ gb196)); replace HB := am (below_step (bt) hb); clear hb hbox hg; have hcz13_0 : w12.cell? ⟨gb196, 0, none⟩ = some (.slice A1_0 l1_0.length c1_0) := (blk_cell BK196.out 0).trans rfl; have hcz13_1 : w12.cell? ⟨gb196, 1, none⟩ = some (.slice A1_1 l1_1.length c1_1) := (blk_cell BK196.out 1).trans rfl; have hfz13_0 := blk_frozen BK196.out 0; have hfz13_1 := blk_frozen BK196.out 1) | ((with_reducible refine gate_callee (f := 56) rfl ?_); refine goesL_ (some 9) rfl rfl Try.func56 (by kernel_rfl) rfl #[.int .i64 a0, .slice A1_0 l1_0.length c1_0] rfl av ?_; (with_reducible refine (impl_Digest.calls a0 _ _ l1_0 t197 _ ?side1 ?side2 A3.out).mono ?_); (case side1 => exact cv ((Kd.C_below HR1_0.out HB.out))); (case side2 => exact HC1_0.out); rintro e w14 ⟨rfl, hb⟩; refine ⟨_, rfl, ?_⟩; replace BK196 := am (blk_below (g := gb196) (o := .cells #[.slice A1_0 l1_0.length c1_0, .slice A1_1 l1_1.length c1_1] 33 (0, 0)) (mb BK196.out) hb); replace HB := am (below_step (b1 GE196.out) hb); (try clear hb); (try clear hb2); (try clear hk); (try clear hi); have hcz15_0 : w14.cell? ⟨gb196, 0, none⟩ = some (.slice A1_0 l1_0.length c1_0) := (blk_cell BK196.out 0).trans rfl; have hcz15_1 : w14.cell? ⟨gb196, 1, none⟩ = some (.slice A1_1 l1_1.length c1_1) := (blk_cell BK196.out 1).trans rfl; have hfz15_0 := blk_frozen BK196.out 0; have hfz15_1 := blk_frozen BK196.out 1) | (go_at_call 60; (with_reducible refine (bytes_Equal.calls _ _ l1_0 _ _ l1_1 false _ ?side1 ?side2 ?side3 ?side4 A5.out).mono ?_); (case side1 => exact cv ((Kd.C_below HR1_0.out HB.out))); (case side2 => exact HC1_0.out); (case side3 => exact cv ((Kd.C_below HR1_1.out HB.out))); (case side4 => exact HC1_1.out); rintro e w' ⟨rfl, ⟨nd, rfl⟩⟩) | (go_at_call 56; (with_reducible refine (impl_Digest.calls a0 _ _ l1_1 t199 _ ?side1 ?side2 A11.out).mono ?_); (case side1 => repeat (first | exact (Kd.C_below HR1_1.out (b1 GE196.out)) | (with_reducible refine Kd.C_alloc ?_ _) | (with_reducible refine Kd.C_drewN ?_ _) | (with_reducible refine Kd.C_drew ?_))); (case side2 => exact HC1_1.out); rintro e w16 ⟨rfl, hb⟩; replace BK196 := am (blk_below (g := gb196) (o := .cells #[.slice A1_0 l1_0.length c1_0, .slice A1_1 l1_1.length c1_1] 33 (0, 0)) (mb BK196.out) hb); replace HB := am (below_step (b1 GE196.out) hb); (try clear hb); (try clear hb2); (try clear hk); (try clear hi)))
   go_ret
   exact ⟨by first | rfl | (simp [errW_none, errW_some] <;> rfl) | (simp [*, errW_none, errW_some] <;> rfl), b1 GE196.out⟩
 ·rw [if_neg c4] at H
  have c4b0 : decide (0 ≤ t197) = false := decide_eq_false c4
  clear c4
  obtain rfl := Option.some.inj H
  go_enter Try.func13, Try.ntmps13
  go_wp2_with (first | ((with_reducible refine gate_dst (N := 3) rfl ?_); refine box_event ?hg (N := 3) ?hd (cs := #[.slice A1_0 l1_0.length c1_0, .slice A1_1 l1_1.length c1_1]) (t := 33) ?hr ?_; (case hd => rfl); (case hg => rfl); (case hr => first | (go_simp; done) | (go_simp; rfl)); intro gb196 hg w17 hbox hb; have BK196 := am (hbox); have GW196 := am ((by rw [hg]; exact (below_size (bt)) : w.heap.size ≤ gb196)); have GE196 := am ((by rw [hg]; exact (below_size (bt)) : w.heap.size ≤ gb196)); replace HB := am (below_step (bt) hb); clear hb hbox hg; have hcz18_0 : w17.cell? ⟨gb196, 0, none⟩ = some (.slice A1_0 l1_0.length c1_0) := (blk_cell BK196.out 0).trans rfl; have hcz18_1 : w17.cell? ⟨gb196, 1, none⟩ = some (.slice A1_1 l1_1.length c1_1) := (blk_cell BK196.out 1).trans rfl; have hfz18_0 := blk_frozen BK196.out 0; have hfz18_1 := blk_frozen BK196.out 1) | ((with_reducible refine gate_callee (f := 56) rfl ?_); refine goesL_ (some 9) rfl rfl Try.func56 (by kernel_rfl) rfl #[.int .i64 a0, .slice A1_0 l1_0.length c1_0] rfl av ?_; (with_reducible refine (impl_Digest.calls a0 _ _ l1_0 t197 _ ?side1 ?side2 A3.out).mono ?_); (case side1 => exact cv ((Kd.C_below HR1_0.out HB.out))); (case side2 => exact HC1_0.out); rintro e w19 ⟨rfl, hb⟩; refine ⟨_, rfl, ?_⟩; replace BK196 := am (blk_below (g := gb196) (o := .cells #[.slice A1_0 l1_0.length c1_0, .slice A1_1 l1_1.length c1_1] 33 (0, 0)) (mb BK196.out) hb); replace HB := am (below_step (b1 GE196.out) hb); (try clear hb); (try clear hb2); (try clear hk); (try clear hi)))
  go_ret
  exact ⟨by first | rfl | (simp [errW_none, errW_some] <;> rfl) | (simp [*, errW_none, errW_some] <;> rfl), b1 GE196.out⟩

end Go.Proofs.Ytchjajbkaiefdaa.PFnMany
