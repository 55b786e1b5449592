-- Written by a program of this workplace (wip/mp.py) out of the translation.
import Derived.Test.YtchjajbkaiefdaaPFnClaimsx0
import Derived.Test.YtchjajbkaiefdaaPFnClaimsx7
import Derived.Test.YtchjajbkaiefdaaPFnClaimsx8
namespace Go.Proofs.Ytchjajbkaiefdaa.PFnClaims
open Go.RowKit Go.Proofs.YtchjajbkaiefdaaW.PrintWords Go.Proofs.YtchjajbkaiefdaaW.PrintLast Go.Proofs.YtchjajbkaiefdaaW.PrintMore Go.Proofs.Ytchjajbkaiefdaa.Slim
attribute [local go_sem] max2_int min2_int max_two min_two max_three min_three max_four min_four   -- for this text's walks alone
set_option linter.unusedVariables false
set_option linter.unusedSimpArgs false

/-! ### impl_levels: function 90 -/
mutual
def impl_levels.l0 : Nat → Int → List Int → List (List Int) → List (List Int) → Int → Int → Option ((List (List Int)))
 | 0, _, _, _, _, _, _ => none
 | k + 1, x0, x5, x6, x13, x14, x15 => if x15 < x14 then (if 0 ≤ x15 then (if x15 < (x13.length : Int) then ((impl_LeafOf.f x0 (rd_L2 x13 x15)).bind fun t462 => (if x5.length < 17592186044416 then (impl_levels.l0 k x0 (x5 ++ [t462]) x6 x13 x14 (wrap64 (x15 + 1))) else (none))) else (none)) else (none)) else (impl_levels.l1 k x0 x5 x6)
def impl_levels.l1 : Nat → Int → List Int → List (List Int) → Option ((List (List Int)))
 | 0, _, _, _ => none
 | k + 1, x0, x5, x6 => if x6.length < 5864062014805 then ((some (x6 ++ [x5] : List (List Int))).bind fun y466 => (if (x5.length : Int) = 1 then (some y466) else (impl_levels.l2 k x0 x5 y466 (([] : List Int)) 0))) else (none)
def impl_levels.l2 : Nat → Int → List Int → List (List Int) → List Int → Int → Option ((List (List Int)))
 | 0, _, _, _, _, _ => none
 | k + 1, x0, x5, x6, x9, x10 => if x10 < (x5.length : Int) then (if (wrap64 (x10 + 1)) < (x5.length : Int) then (if 0 ≤ x10 then (if 0 ≤ (wrap64 (x10 + 1)) then ((impl_NodeOf.f k x0 (rd x5 x10) (rd x5 (wrap64 (x10 + 1)))).bind fun t474 => (if x9.length < 17592186044416 then (impl_levels.l2 k x0 x5 x6 (x9 ++ [t474]) (wrap64 (x10 + 2))) else (none))) else (none)) else (none)) else (if 0 ≤ x10 then (if x9.length < 17592186044416 then (impl_levels.l2 k x0 x5 x6 (x9 ++ [rd x5 x10]) (wrap64 (x10 + 2))) else (none)) else (none))) else (impl_levels.l1 k x0 x9 x6)
end
def impl_levels.f (k : Nat) (a0 : Int) (l1 : List (List Int)) : Option ((List (List Int))) := impl_levels.l0 k a0 (([] : List Int)) (([] : List (List Int))) l1 (l1.length : Int) 0
def impl_levels.T15 : Bool × List (List Nat × List Nat) := (true, [([], []), ([], []), ([], []), ([], []), ([2, 3], [2, 3]), ([4], [4]), ([], []), ([], []), ([7], [7]), ([6, 8], [6, 8]), ([9], [9]), ([1, 5, 10], [1, 5, 10]), ([11], [11]), ([0, 12, 11], [0, 12]), ([13, 13, 0, 1, 2, 3, 4, 5, 6, 7, 8, 9, 10, 11, 12, 13], [0, 13])])
def impl_levels.B15 : List Nat := [0, 0, 0, 0, 12, 28, 0, 0, 128, 448, 960, 2046, 4094, 8191, 16383]
theorem impl_levels.tab15 : rtab .any (opsOf Try.f90 15) = impl_levels.T15 := by kernel_rfl
theorem impl_levels.bits15 : waitsOk impl_levels.T15.2 impl_levels.B15 = true := by kernel_rfl
set_option maxHeartbeats 8000000 in
set_option maxRecDepth 100000 in
theorem impl_levels.calls (k : Nat) (a0 : Int) (A1 : Option Addr) (c1 : Nat) (l1 : List (List Int)) (r : List (List Int)) (w : World) (hr1 : Kd.C (Kd.slice 5 (Kd.int .u8)) w A1 l1.length l1) (hc1 : l1.length ≤ c1) (h : impl_levels.f k a0 l1 = some r) :
  Calls Try.prog 90 #[.int .i64 a0, .slice A1 l1.length c1] w fun e w' => ∃ v0_ : Value, e = .returned (v0_) ∧ Kd.S (Kd.slice 3 (Kd.int .i64)) 29 w' w.heap.size (fun _ => True) v0_ r ∧ Below w.heap.size w w' := by
 have HR1 := Aside0.mk hr1
 have HC1 := Aside0.mk hc1
 clear hr1 hc1
 have HB := Aside0.mk (Below.refl w.heap.size w)
 have H : (impl_levels.l0 k a0 (([] : List Int)) (([] : List (List Int))) l1 (l1.length : Int) 0) = some r := h
 clear h
 obtain ⟨y455, hy455⟩ : ∃ y_ : List Int, y_ = (([] : List Int)) := ⟨_, rfl⟩
 replace H : (impl_levels.l0 k a0 y455 (([] : List (List Int))) l1 (l1.length : Int) 0) = some r := by first | (rw [hy455]; exact H) | exact H
 have Ny455 := Aside0.mk hy455
 clear hy455
 obtain ⟨y458, hy458⟩ : ∃ y_ : List (List Int), y_ = (([] : List (List Int))) := ⟨_, rfl⟩
 replace H : (impl_levels.l0 k a0 y455 y458 l1 (l1.length : Int) 0) = some r := by first | (rw [hy458]; exact H) | exact H
 have Ny458 := Aside0.mk hy458
 clear hy458
 have H' := Aside0.mk H
 clear H
 go_enter Try.func90, Try.ntmps90
 go_wp2_with (first | ((with_reducible refine gate_dst (N := 11) rfl ?_); refine Kd.R_lit (Kd.int .i64) _ 3 ?hg (N := 11) ?hd (xs := ([] : List Int)) (inner := []) (ok := fun _ => True) (okp := fun _ => True) ?hr ?hp (fun _ hk => hk) trivial (Below.refl _ _) (Nat.le_refl _) (by simp) ?_; (case hd => rfl); (case hg => rfl); (case hr => first | (go_simp; done) | (go_simp; rfl)); (case hp => exact (Reps.none _ _)); intro v456 w3 ho4 hb hg_ hnew_; clear hg_ hnew_; (first | rw [← Ny455.out] at ho4 | (simp only [Int.reduceToNat] at ho4; rw [← Ny455.out] at ho4)); have HO457 := Aside0.mk (Kd.R_lower ho4 (below_size (bt))); replace HB := Aside0.mk (below_step (bt) hb); clear hb ho4) | ((with_reducible refine gate_dst (N := 12) rfl ?_); refine Kd.S_lit (Kd.slice 3 (Kd.int .i64)) _ 29 ?hg (N := 12) ?hd (xs := ([] : List (List Int))) (inner := []) (ok := fun _ => True) (okp := fun _ => True) ?hr ?hp (fun _ hk => hk) trivial (Below.refl _ _) (Nat.le_refl _) (by simp) ?_; (case hd => rfl); (case hg => rfl); (case hr => first | (go_simp; done) | (go_simp; rfl)); (case hp => exact (Reps.none _ _)); intro v459 w5 ho6 hb hg_ hnew_; clear hg_ hnew_; (first | rw [← Ny458.out] at ho6 | (simp only [Int.reduceToNat] at ho6; rw [← Ny458.out] at ho6)); have HO460 := Aside0.mk (Kd.S_lower (Kd.S_new' ho6 (Kd.R_lt (mv HO457.out))) (below_size (bt))); replace HO457 := Aside0.mk (Kd.R_below (mv HO457.out) hb); replace HB := Aside0.mk (below_step (bt) hb); clear hb ho6))
 go_loopg [5, 15] k (fun kq v5 v15 w' => ∃ (x5_1 : List Int) (x15_1 : Int), v15 = .int .i64 x15_1 ∧ Aside0 (impl_levels.l0 kq a0 x5_1 y458 l1 (l1.length : Int) x15_1 = some r) ∧ Aside0 (kq ≤ k) ∧ Aside0 (Kd.R (Kd.int .i64) 3 w' w.heap.size (fun _ => True) v5 x5_1) ∧ Aside0 (Kd.S (Kd.slice 3 (Kd.int .i64)) 29 w' w.heap.size (fun k_ => some k_ ≠ (v5 : Value).ownBlock) v459 y458) ∧ Aside0 (Below w.heap.size w w'))
 case atStart => exact ⟨(y455), (0), (by first | rfl | (simp; done) | (simp [*]; done)), H', ⟨Nat.le_refl _⟩, ⟨mv HO457.out⟩, ⟨by (with_reducible repeat (first | apply Kd.S_alloc | apply Kd.S_drewN | apply Kd.S_drew)); exact Kd.S_mono HO460.out (fun _ hk => hk.2)⟩, ⟨bt⟩⟩
 case round =>
  clear H'
  try clear c1
  try clear p2
  obtain ⟨x5_1, x15_1, rfl, HA, HK1, HO_5, HO_6, HB⟩ := hrel
  cases gk with
  | zero => exact absurd HA.out (by simp [impl_levels.l0])
  | succ k1 =>
   have H := HA.out
   clear HA
   simp only [impl_levels.l0] at H
   by_cases c7 : x15_1 < (l1.length : Int)
   ·rw [if_pos c7] at H
    have c7b0 : decide (x15_1 < (l1.length : Int)) = true := decide_eq_true c7
    clear c7
    by_cases c8 : 0 ≤ x15_1
    ·rw [if_pos c8] at H
     have c8b0 : decide (0 ≤ x15_1) = true := decide_eq_true c8
     clear c8
     by_cases c9 : x15_1 < (l1.length : Int)
     ·rw [if_pos c9] at H
      have c9b0 : decide (x15_1 < (l1.length : Int)) = true := decide_eq_true c9
      clear c9
      replace H := Option.bind_eq_some_iff.mp H
      obtain ⟨t462, A100, H⟩ := H
      (try dsimp -simprocs only at H)
      have A10 := Aside0.mk A100
      clear A100
      by_cases c11 : x5_1.length < 17592186044416
      ·rw [if_pos c11] at H
       have LMc11 := Aside0.mk c11
       clear c11
       obtain ⟨y463, hy463⟩ : ∃ y_ : List Int, y_ = (x5_1 ++ [t462]) := ⟨_, rfl⟩
       replace H : (impl_levels.l0 k1 a0 y463 y458 l1 (l1.length : Int) (wrap64 (x15_1 + 1))) = some r := by first | (rw [hy463]; exact H) | exact H
       have Ny463 := Aside0.mk hy463
       clear hy463
       have H' := Aside0.mk H
       clear H
       have p461 : 0 ≤ (x15_1 : Int) := of_decide_eq_true asm
       have q461 : x15_1 < (l1.length : Int) := of_decide_eq_true asm
       obtain ⟨ad461, A461_0, c461_0, e461, hx461_0, hl461_0, hi461_0⟩ := at_L2 HR1.out x15_1 p461 q461
       cases e461
       replace hx461_0 := (HB.out.cell (World.block_lt_of_cell? w _ hx461_0)).trans hx461_0
       have HR461_0 := Aside0.mk hi461_0
       have HC461_0 := Aside0.mk hl461_0
       clear hi461_0 hl461_0
       replace p461 := eq_true p461
       replace q461 := eq_true q461
       go_wp2_with (first | ((with_reducible refine gate_callee (f := 119) rfl ?_); refine goesL_ (some 22) rfl rfl Try.func119 (by kernel_rfl) rfl #[.int .i64 a0, .slice A461_0 (rd_L2 l1 x15_1).length c461_0] rfl av ?_; (with_reducible refine (impl_LeafOf.calls a0 _ _ (rd_L2 l1 x15_1) t462 _ ?side1 ?side2 A10.out).mono ?_); (case side1 => exact cv ((Kd.C_below HR461_0.out HB.out))); (case side2 => exact HC461_0.out); rintro e w12 ⟨rfl, hb⟩; refine ⟨_, rfl, ?_⟩; replace HO_5 := Aside0.mk (Kd.R_below (mv HO_5.out) hb); replace HO_6 := Aside0.mk (Kd.S_below (mv HO_6.out) hb); replace HB := Aside0.mk (below_step (bt) hb); (try clear hb); (try clear hb2); (try clear hk); (try clear hi)) | ((with_reducible refine gate_builtin (b := .append) (xs := #[.tmp 19, .tmp 23]) rfl ?_); at_builtin; refine Kd.R_append (Kd.int .i64) (w0 := w) w.heap.size rfl (.tmp 19) (.tmp 23) 29 3 (.int .i64 0) 8 rfl Try.underlying29 info3 rfl (by decide) (by omega) u5 x5_1 t462 [.int .i64 t462] (fun _ => True) (fun _ => False) rfl rfl ?aP (fun _ hk => hk.elim) ?aF ?aO ?aB ?aS ?aL ?_; (case aP => exact rfl); (case aB => exact (bt)); (case aF => exact (fun _ _ => trivial)); (case aO => exact (mv HO_5.out)); (case aS => exact (below_size (bt))); (case aL => have := LMc11.out; omega); intro v464 w13 ho hb hg hat; rw [← Ny463.out] at ho; replace HO_6 := Aside0.mk (Kd.S_after (ok := (fun _ => True)) (by (with_reducible repeat (first | apply Kd.S_alloc | apply Kd.S_drewN | apply Kd.S_drew)); exact Kd.S_mono HO_6.out (fun _ hk => ⟨trivial, hk⟩)) hg hat); replace HB := Aside0.mk (hb); have HO465 := Aside0.mk (ho); clear HO_5; clear ho hb hg hat))
       go_roundg k1
       case measure => have := HK1.out; omega
       case rel => exact ⟨(y463), (wrap64 (x15_1 + 1)), (by first | rfl | (simp; done) | (simp [*]; done)), H', ⟨by have := HK1.out; omega⟩, ⟨mv HO465.out⟩, ⟨by (with_reducible repeat (first | apply Kd.S_alloc | apply Kd.S_drewN | apply Kd.S_drew)); exact Kd.S_mono HO_6.out (fun _ hk => hk.2)⟩, ⟨bt⟩⟩
      ·rw [if_neg c11] at H
       exact absurd H (by simp)
     ·rw [if_neg c9] at H
      exact absurd H (by simp)
    ·rw [if_neg c8] at H
     exact absurd H (by simp)
   ·rw [if_neg c7] at H
    have c7b0 : decide (x15_1 < (l1.length : Int)) = false := decide_eq_false c7
    clear c7
    have H' := Aside0.mk H
    clear H
    go_wp2
    go_loopg [5, 6] k1 (fun kq v5 v6 w' => ∃ (x5_2 : List Int) (x6_2 : List (List Int)), Aside0 (impl_levels.l1 kq a0 x5_2 x6_2 = some r) ∧ Aside0 (kq ≤ k1) ∧ Aside0 (Kd.R (Kd.int .i64) 3 w' w.heap.size (fun _ => True) v5 x5_2) ∧ Aside0 (Kd.S (Kd.slice 3 (Kd.int .i64)) 29 w' w.heap.size (fun k_ => some k_ ≠ (v5 : Value).ownBlock) v6 x6_2) ∧ Aside0 (Below w.heap.size w w'))
    case atStart => exact ⟨(x5_1), (y458), H', ⟨Nat.le_refl _⟩, ⟨mv HO_5.out⟩, ⟨mv HO_6.out⟩, ⟨bt⟩⟩
    case round =>
     clear H'
     try clear c1
     try clear p2
     try clear c4
     try clear p4
     try clear q4
     try clear hx4
     try clear p6
     try clear c7
     try clear c7b0
     try clear c8
     try clear c8b0
     try clear c9
     try clear c9b0
     try clear c11
     try clear hx461_0
     try clear p2
     try clear p461
     try clear q461
     obtain ⟨x5_2, x6_2, HA, HK2, HO_5, HO_6, HB⟩ := hrel
     cases gk with
     | zero => exact absurd HA.out (by simp [impl_levels.l1])
     | succ k2 =>
      have H := HA.out
      clear HA
      simp only [impl_levels.l1] at H
      by_cases c14 : x6_2.length < 5864062014805
      ·rw [if_pos c14] at H
       have LMc14 := Aside0.mk c14
       clear c14
       obtain ⟨y466, hy466⟩ : ∃ y_ : List (List Int), y_ = (x6_2 ++ [x5_2]) := ⟨_, rfl⟩
       replace H : (if (x5_2.length : Int) = 1 then (some y466) else (impl_levels.l2 k2 a0 x5_2 y466 (([] : List Int)) 0)) = some r := by first | (rw [hy466]; exact H) | exact H
       have Ny466 := Aside0.mk hy466
       clear hy466
       by_cases c15 : (x5_2.length : Int) = 1
       ·rw [if_pos c15] at H
        have c15b0 : ((x5_2.length : Int) == 1) = true := beq_iff_eq.mpr c15
        have c15b1 : ((x5_2.length : Int) != 1) = false := bne_eq_false_iff_eq.mpr c15
        clear c15
        obtain rfl := Option.some.inj H
        obtain ⟨Ao17, co17, eo17⟩ := Kd.R_slice HO_5.out
        subst eo17
        go_wp2_with (first | ((with_reducible refine gate_builtin (b := .append) (xs := #[.tmp 26, .tmp 28]) rfl ?_); at_builtin; refine Kd.S_append (Kd.slice 3 (Kd.int .i64)) (w0 := w) w.heap.size rfl (.tmp 26) (.tmp 28) 107 29 (.slice none 0 0) 24 rfl Try.underlying107 info29 rfl (by decide) (by omega) u6 x6_2 x5_2 [.slice Ao17 x5_2.length co17] (fun _ => True) (fun k_ => some k_ = (.slice Ao17 x5_2.length co17 : Value).ownBlock) rfl rfl ?aP (fun k_ hk_ => ((Kd.R_mono (ok' := fun k_ => ((fun _ => True)) k_ ∧ some k_ ≠ (u6 : Value).ownBlock) (Kd.R_apart' (HO_5.out) (Kd.S_typed HO_6.out) (by decide)) (fun k_ hk => ⟨trivial, hk.2⟩))).1 k_ hk_.symm) ?aF ?aO ?aB ?aS ?aL ?_; (case aP => exact Kd.M_row (Kd.R_mono (Kd.R_tight rfl (Kd.R_mono (ok' := fun k_ => ((fun _ => True)) k_ ∧ some k_ ≠ (u6 : Value).ownBlock) (Kd.R_apart' (HO_5.out) (Kd.S_typed HO_6.out) (by decide)) (fun k_ hk => ⟨trivial, hk.2⟩))) (fun _ h_ => h_))); (case aB => exact (bt)); (case aF => exact (fun _ _ => trivial)); (case aO => exact (by (with_reducible repeat (first | apply Kd.S_alloc | apply Kd.S_drewN | apply Kd.S_drew)); exact Kd.S_mono HO_6.out (fun k_ hk => ⟨trivial, fun e_ => hk e_⟩))); (case aS => exact (below_size (bt))); (case aL => have := LMc14.out; omega); intro v467 w16 ho hb hg hat; rw [← Ny466.out] at ho; replace HB := Aside0.mk (hb); have HO468 := Aside0.mk (ho); clear HO_6 HO_5; clear ho hb hg hat))
        go_ret
        exact ⟨_, by first | rfl | (simp [errW_none, errW_some] <;> rfl) | (simp [*, errW_none, errW_some] <;> rfl), by (with_reducible repeat (first | apply Kd.S_alloc | apply Kd.S_drewN | apply Kd.S_drew)); exact HO468.out, bt⟩
       ·rw [if_neg c15] at H
        have c15b0 : ((x5_2.length : Int) == 1) = false := beq_eq_false_iff_ne.mpr c15
        have c15b1 : ((x5_2.length : Int) != 1) = true := bne_iff_ne.mpr c15
        obtain ⟨y469, hy469⟩ : ∃ y_ : List Int, y_ = (([] : List Int)) := ⟨_, rfl⟩
        replace H : (impl_levels.l2 k2 a0 x5_2 y466 y469 0) = some r := by first | (rw [hy469]; exact H) | exact H
        have Ny469 := Aside0.mk hy469
        clear hy469
        have H' := Aside0.mk H
        clear H
        obtain ⟨Ao19, co19, eo19⟩ := Kd.R_slice HO_5.out
        subst eo19
        go_wp2_with (first | ((with_reducible refine gate_builtin (b := .append) (xs := #[.tmp 26, .tmp 28]) rfl ?_); at_builtin; refine Kd.S_append (Kd.slice 3 (Kd.int .i64)) (w0 := w) w.heap.size rfl (.tmp 26) (.tmp 28) 107 29 (.slice none 0 0) 24 rfl Try.underlying107 info29 rfl (by decide) (by omega) u6 x6_2 x5_2 [.slice Ao19 x5_2.length co19] (fun _ => True) (fun k_ => some k_ = (.slice Ao19 x5_2.length co19 : Value).ownBlock) rfl rfl ?aP (fun k_ hk_ => ((Kd.R_mono (ok' := fun k_ => ((fun _ => True)) k_ ∧ some k_ ≠ (u6 : Value).ownBlock) (Kd.R_apart' (HO_5.out) (Kd.S_typed HO_6.out) (by decide)) (fun k_ hk => ⟨trivial, hk.2⟩))).1 k_ hk_.symm) ?aF ?aO ?aB ?aS ?aL ?_; (case aP => exact Kd.M_row (Kd.R_mono (Kd.R_tight rfl (Kd.R_mono (ok' := fun k_ => ((fun _ => True)) k_ ∧ some k_ ≠ (u6 : Value).ownBlock) (Kd.R_apart' (HO_5.out) (Kd.S_typed HO_6.out) (by decide)) (fun k_ hk => ⟨trivial, hk.2⟩))) (fun _ h_ => h_))); (case aB => exact (bt)); (case aF => exact (fun _ _ => trivial)); (case aO => exact (by (with_reducible repeat (first | apply Kd.S_alloc | apply Kd.S_drewN | apply Kd.S_drew)); exact Kd.S_mono HO_6.out (fun k_ hk => ⟨trivial, fun e_ => hk e_⟩))); (case aS => exact (below_size (bt))); (case aL => have := LMc14.out; omega); intro v467 w18 ho hb hg hat; rw [← Ny466.out] at ho; have n0_ := Aside0.mk (hb); have n1_ := Aside0.mk (ho); have nk_ := Aside0.mk (Kd.R_over' (mv HO_5.out) (Kd.S_typed HO_6.out) (by decide) hg); clear HB; clear HO_6; clear HO_5; have HO_5 := nk_; clear nk_; have HB := n0_; have HO468 := n1_; clear n0_ n1_; clear ho hb hg hat) | ((with_reducible refine gate_dst (N := 34) rfl ?_); refine Kd.R_lit (Kd.int .i64) _ 3 ?hg (N := 34) ?hd (xs := ([] : List Int)) (inner := []) (ok := fun _ => True) (okp := fun _ => True) ?hr ?hp (fun _ hk => hk) trivial (Below.refl _ _) (Nat.le_refl _) (by simp) ?_; (case hd => rfl); (case hg => rfl); (case hr => first | (go_simp; done) | (go_simp; rfl)); (case hp => exact (Reps.none _ _)); intro v470 w20 ho21 hb hg_ hnew_; clear hg_ hnew_; (first | rw [← Ny469.out] at ho21 | (simp only [Int.reduceToNat] at ho21; rw [← Ny469.out] at ho21)); have n0_ := Aside0.mk (Kd.S_elder' (mv HO468.out) (Kd.R_base ho21) hb); have n1_ := Aside0.mk (Kd.R_lower (Kd.R_new' ho21 (Kd.R_lt HO_5.out)) (below_size (bt))); have n2_ := Aside0.mk (below_step (bt) hb); have nk_ := Aside0.mk (Kd.R_elder' HO_5.out (Kd.R_base ho21) hb); clear HO_5; have HO_5 := nk_; clear nk_; clear HO468; clear HB; have HO468 := n0_; have HO471 := n1_; have HB := n2_; clear n0_ n1_ n2_; clear hb ho21))
        go_loopg [9, 10] k2 (fun kq v9 v10 w' => ∃ (x9_3 : List Int) (x10_3 : Int), v10 = .int .i64 x10_3 ∧ Aside0 (impl_levels.l2 kq a0 x5_2 y466 x9_3 x10_3 = some r) ∧ Aside0 (kq ≤ k2) ∧ Aside0 (Kd.R (Kd.int .i64) 3 w' w.heap.size (fun k_ => some k_ ≠ (v9 : Value).ownBlock) (.slice Ao19 x5_2.length co19) x5_2) ∧ Aside0 (Kd.S (Kd.slice 3 (Kd.int .i64)) 29 w' w.heap.size (fun k_ => some k_ ≠ (v9 : Value).ownBlock) v467 y466) ∧ Aside0 (Kd.R (Kd.int .i64) 3 w' w.heap.size (fun k_ => some k_ ≠ ((.slice Ao19 x5_2.length co19) : Value).ownBlock) v9 x9_3) ∧ Aside0 (Below w.heap.size w w'))
        case atStart => exact ⟨(y469), (0), (by first | rfl | (simp; done) | (simp [*]; done)), H', ⟨Nat.le_refl _⟩, ⟨by (with_reducible repeat (first | apply Kd.R_alloc | apply Kd.R_drewN | apply Kd.R_drew)); exact Kd.R_mono HO_5.out (fun _ hk => hk.2)⟩, ⟨by (with_reducible repeat (first | apply Kd.S_alloc | apply Kd.S_drewN | apply Kd.S_drew)); exact Kd.S_mono HO468.out (fun _ hk => hk.2)⟩, ⟨by (with_reducible repeat (first | apply Kd.R_alloc | apply Kd.R_drewN | apply Kd.R_drew)); exact Kd.R_mono HO471.out (fun _ hk => hk.2)⟩, ⟨bt⟩⟩
        case round =>
         clear H'
         try clear c1
         try clear p2
         try clear c4
         try clear p4
         try clear q4
         try clear hx4
         try clear p6
         try clear c7
         try clear c7b0
         try clear c8
         try clear c8b0
         try clear c9
         try clear c9b0
         try clear c11
         try clear c14
         try clear c15
         try clear c15b0
         try clear c15b1
         try clear hx461_0
         try clear p2
         try clear p4
         try clear p461
         try clear p6
         try clear q4
         try clear q461
         obtain ⟨x9_3, x10_3, rfl, HA, HK3, HO_5, HO_6, HO_9, HB⟩ := hrel
         cases gk with
         | zero => exact absurd HA.out (by simp [impl_levels.l2])
         | succ k3 =>
          have H := HA.out
          clear HA
          simp only [impl_levels.l2] at H
          by_cases c22 : x10_3 < (x5_2.length : Int)
          ·rw [if_pos c22] at H
           have c22b0 : decide (x10_3 < (x5_2.length : Int)) = true := decide_eq_true c22
           clear c22
           by_cases c23 : (wrap64 (x10_3 + 1)) < (x5_2.length : Int)
           ·rw [if_pos c23] at H
            have c23b0 : decide ((wrap64 (x10_3 + 1)) < (x5_2.length : Int)) = true := decide_eq_true c23
            clear c23
            by_cases c24 : 0 ≤ x10_3
            ·rw [if_pos c24] at H
             have c24b0 : decide (0 ≤ x10_3) = true := decide_eq_true c24
             clear c24
             obtain ⟨ji25, hji25⟩ : ∃ j_ : Int, (wrap64 (x10_3 + 1)) = j_ := ⟨_, rfl⟩
             replace H : (if 0 ≤ (ji25) then ((impl_NodeOf.f k3 a0 (rd x5_2 x10_3) (rd x5_2 (ji25))).bind fun t474 => (if x9_3.length < 17592186044416 then (impl_levels.l2 k3 a0 x5_2 y466 (x9_3 ++ [t474]) (wrap64 (x10_3 + 2))) else (none))) else (none)) = some r := by first | (rw [hji25] at H; exact H) | (simp only [hji25] at H ⊢; exact H)
             (try rw [hji25] at c23b0)
             have hji25w : (IntKind.i64.wrap (x10_3 + 1)) = ji25 := (i64_w _).trans hji25
             by_cases c26 : 0 ≤ (ji25)
             ·rw [if_pos c26] at H
              have c26b0 : decide (0 ≤ (ji25)) = true := decide_eq_true c26
              clear c26
              replace H := Option.bind_eq_some_iff.mp H
              obtain ⟨t474, A270, H⟩ := H
              (try dsimp -simprocs only at H)
              have A27 := Aside0.mk A270
              clear A270
              by_cases c28 : x9_3.length < 17592186044416
              ·rw [if_pos c28] at H
               have LMc28 := Aside0.mk c28
               clear c28
               obtain ⟨y475, hy475⟩ : ∃ y_ : List Int, y_ = (x9_3 ++ [t474]) := ⟨_, rfl⟩
               replace H : (impl_levels.l2 k3 a0 x5_2 y466 y475 (wrap64 (x10_3 + 2))) = some r := by first | (rw [hy475]; exact H) | exact H
               have Ny475 := Aside0.mk hy475
               clear hy475
               have H' := Aside0.mk H
               clear H
               try go_wp2
               have n0_ := Aside0.mk (Kd.R_drew HO_5.out)
               have n1_ := Aside0.mk (Kd.S_drew HO_6.out)
               have n2_ := Aside0.mk (Kd.R_drew HO_9.out)
               have n3_ := Aside0.mk (below_drew1 HB.out)
               clear HO_5
               clear HO_6
               clear HO_9
               clear HB
               have HO_5 := n0_
               have HO_6 := n1_
               have HO_9 := n2_
               have HB := n3_
               clear n0_ n1_ n2_ n3_
               have p472 : 0 ≤ (x10_3 : Int) := of_decide_eq_true asm
               have q472 : x10_3 < (x5_2.length : Int) := of_decide_eq_true asm
               obtain ⟨ad472, e472, hx472_0⟩ := Kd.at_int (Kd.R_reads' HO_5.out).2.2 x10_3 p472 q472
               cases e472
               replace p472 := eq_true p472
               replace q472 := eq_true q472
               have p473 : 0 ≤ ((ji25) : Int) := of_decide_eq_true asm
               have q473 : (ji25) < (x5_2.length : Int) := of_decide_eq_true asm
               obtain ⟨ad473, e473, hx473_0⟩ := Kd.at_int (Kd.R_reads' HO_5.out).2.2 (ji25) p473 q473
               obtain rfl : ad472 = ad473 := (by injection e473)
               replace p473 := eq_true p473
               replace q473 := eq_true q473
               refine start_ (n := 15) (S := fun w' => w'.cell? (ad472.add (x10_3).toNat) = some (.int .i64 (rd x5_2 x10_3)) ∧ w'.cell? (ad472.add ((ji25)).toNat) = some (.int .i64 (rd x5_2 (ji25)))) (ds := [12, 13]) #[false, false, false, false, false, false, false, false, false, false, false, false, false, false, false] (by kernel_rfl) rfl rfl ⟨hx472_0, hx473_0⟩ (fun hHeld => ?_); refine with_tabW impl_levels.tab15 impl_levels.bits15 (fun HT_ HW_ => ?_)
               generalize wr.drew = w29 at HO_5 HO_6 HO_9 HB hx472_0 hx473_0 hHeld ⊢
               refine pz (i := 0) (N := some 46) #[true, false, false, false, false, false, false, false, false, false, false, false, false, false, false] rfl rfl HT_.out ?_
               refine pz (i := 1) (N := some 47) #[true, true, false, false, false, false, false, false, false, false, false, false, false, false, false] rfl rfl HT_.out ?_
               refine pz (i := 2) (N := some 48) #[true, true, true, false, false, false, false, false, false, false, false, false, false, false, false] rfl rfl HT_.out ?_
               refine pz (i := 3) (N := some 49) #[true, true, true, true, false, false, false, false, false, false, false, false, false, false, false] rfl rfl HT_.out ?_
               refine pz (i := 4) (N := some 50) #[true, true, true, true, true, false, false, false, false, false, false, false, false, false, false] rfl rfl HT_.out ?_
               refine pz (i := 6) (N := some 52) #[true, true, true, true, true, false, true, false, false, false, false, false, false, false, false] rfl rfl HT_.out ?_
               refine pz (i := 7) (N := some 53) #[true, true, true, true, true, false, true, true, false, false, false, false, false, false, false] rfl rfl HT_.out ?_
               refine pz (i := 8) (N := some 54) #[true, true, true, true, true, false, true, true, true, false, false, false, false, false, false] rfl rfl HT_.out ?_
               refine pz (i := 9) (N := some 55) #[true, true, true, true, true, false, true, true, true, true, false, false, false, false, false] rfl rfl HT_.out ?_
               refine tz (i := 5) (N := some 51) #[true, true, true, true, true, true, true, true, true, true, false, false, false, false, false] rfl rfl HT_.out HW_.out hHeld (Or.inl ⟨by rfl, by rintro w' ⟨s0, s1⟩; go_simp; with_reducible rfl⟩) ?_
               refine tz (i := 10) (N := some 56) #[true, true, true, true, true, true, true, true, true, true, true, false, false, false, false] rfl rfl HT_.out HW_.out hHeld (Or.inl ⟨by rfl, by rintro w' ⟨s0, s1⟩; go_simp; with_reducible rfl⟩) ?_
               refine one_ (i := 11) (N := some 57) #[true, true, true, true, true, true, true, true, true, true, true, true, false, false, false] rfl rfl (one_of HT_.out (by kernel_rfl)) (by decide) (fun K hK => ?_)
               refine goes_ Try.func120 (by kernel_rfl) rfl #[.int .i64 a0, .int .i64 (rd x5_2 x10_3), .int .i64 (rd x5_2 (ji25))] (by rfl) rfl rfl (by (try simp only [List.map_toArray, List.map_cons, List.map_nil]); first | done | (simp only [hji25]; rfl) | rfl | (simp only [List.length_drop, List.length_take]; rfl)) ?_
               with_reducible refine (impl_NodeOf.calls k3 a0 (rd x5_2 x10_3) (rd x5_2 (ji25)) t474 _ A27.out).mono ?_
               rintro e w30 ⟨rfl, hb⟩
               have HS0_ := (hb.cell (World.block_lt_of_cell? _ _ (hHeld.1))).trans (hHeld.1)
               have HS1_ := (hb.cell (World.block_lt_of_cell? _ _ (hHeld.2))).trans (hHeld.2)
               refine ⟨_, rfl, ?_⟩
               have n0_ := Aside0.mk (Kd.R_below (mv HO_5.out) hb)
               have n1_ := Aside0.mk (Kd.S_below (mv HO_6.out) hb)
               have n2_ := Aside0.mk (Kd.R_below (mv HO_9.out) hb)
               have n3_ := Aside0.mk (below_step (bt) hb)
               clear HO_5
               clear HO_6
               clear HO_9
               clear HB
               have HO_5 := n0_
               have HO_6 := n1_
               have HO_9 := n2_
               have HB := n3_
               clear n0_ n1_ n2_ n3_
               (try clear hb)
               (try clear hb2)
               (try clear hk)
               (try clear hi)
               refine hK.out _ _ ⟨HS0_, HS1_⟩ (fun hHeld => ?_)
               clear hK K
               refine nz (N := some 57) ?_
               refine last_ (i := 12) (N := some 58) #[true, true, true, true, true, true, true, true, true, true, true, true, true, false, false] rfl rfl (one_of HT_.out (by kernel_rfl)) (by decide) (fun K hK => ?_)
               refine value_ (w1 := ?_) (v := ?_) (by rfl) rfl ?_ ?_
               rotate_left 2
               ·go_simp
                constructor
                ·rfl
                ·rfl
               refine hK.out _ _ ?_
               clear hK K
               refine nz (N := some 58) ?_
               refine last_ (i := 13) (N := some 59) #[true, true, true, true, true, true, true, true, true, true, true, true, true, true, false] rfl rfl (one_of HT_.out (by kernel_rfl)) (by decide) (fun K hK => ?_)
               refine Kd.R_append_step (Kd.int .i64) (w0 := w) w.heap.size (by rfl) (.tmp 46) (.tmp 58) 29 3 (.int .i64 0) 8 rfl Try.underlying29 info3 rfl (by decide) (by omega) u9 x9_3 t474 [.int .i64 t474] (fun k_ => some k_ ≠ (.slice (some ad472) x5_2.length co19 : Value).ownBlock) (fun _ => False) rfl rfl ?aP (fun _ hk => hk.elim) ?aF ?aO ?aB ?aS ?aL ?_
               (case aP => exact rfl)
               (case aB => exact (bt))
               (case aF => exact (fun k_ hk => Kd.fresh' (Kd.R_lt (mv HO_5.out)) k_ hk))
               (case aO => exact (mv HO_9.out))
               (case aS => exact (below_size (bt)))
               (case aL => have := LMc28.out; omega)
               intro v476 w31 ho hb hg hat
               rw [← Ny475.out] at ho
               have n0_ := Aside0.mk (Kd.R_after (ok := (fun _ => True)) (by (with_reducible repeat (first | apply Kd.R_alloc | apply Kd.R_drewN | apply Kd.R_drew)); exact Kd.R_mono HO_5.out (fun _ hk => ⟨trivial, hk⟩)) hg hat)
               have n1_ := Aside0.mk (Kd.S_after (ok := (fun _ => True)) (by (with_reducible repeat (first | apply Kd.S_alloc | apply Kd.S_drewN | apply Kd.S_drew)); exact Kd.S_mono HO_6.out (fun _ hk => ⟨trivial, hk⟩)) hg hat)
               have n2_ := Aside0.mk (hb)
               have n3_ := Aside0.mk (ho)
               clear HO_5
               clear HO_6
               clear HB
               clear HO_9
               have HO_5 := n0_
               have HO_6 := n1_
               have HB := n2_
               have HO477 := n3_
               clear n0_ n1_ n2_ n3_
               clear ho hb hg hat
               refine hK.out _ _ ?_
               clear hK K
               refine nz (N := some 59) ?_
               refine pz (i := 14) (N := some 9) #[true, true, true, true, true, true, true, true, true, true, true, true, true, true, true] rfl rfl HT_.out ?_
               refine done_ (done_of HT_.out (by kernel_rfl)) ?_
               (try simp only [Dig.setCell_drewN])
               try go_wp2
               go_roundg k3
               case measure => have := HK1.out; have := HK2.out; have := HK3.out; omega
               case rel => exact ⟨(y475), (wrap64 (x10_3 + 2)), (by first | rfl | (simp; done) | (simp [*]; done)), H', ⟨by have := HK1.out; have := HK2.out; have := HK3.out; omega⟩, ⟨by (with_reducible repeat (first | apply Kd.R_alloc | apply Kd.R_drewN | apply Kd.R_drew)); exact Kd.R_mono HO_5.out (fun _ hk => hk.2)⟩, ⟨by (with_reducible repeat (first | apply Kd.S_alloc | apply Kd.S_drewN | apply Kd.S_drew)); exact Kd.S_mono HO_6.out (fun _ hk => hk.2)⟩, ⟨mv HO477.out⟩, ⟨bt⟩⟩
              ·rw [if_neg c28] at H
               exact absurd H (by simp)
             ·rw [if_neg c26] at H
              exact absurd H (by simp)
            ·rw [if_neg c24] at H
             exact absurd H (by simp)
           ·rw [if_neg c23] at H
            have c23b0 : decide ((wrap64 (x10_3 + 1)) < (x5_2.length : Int)) = false := decide_eq_false c23
            clear c23
            by_cases c32 : 0 ≤ x10_3
            ·rw [if_pos c32] at H
             have c32b0 : decide (0 ≤ x10_3) = true := decide_eq_true c32
             clear c32
             by_cases c33 : x9_3.length < 17592186044416
             ·rw [if_pos c33] at H
              have LMc33 := Aside0.mk c33
              clear c33
              obtain ⟨y479, hy479⟩ : ∃ y_ : List Int, y_ = (x9_3 ++ [rd x5_2 x10_3]) := ⟨_, rfl⟩
              replace H : (impl_levels.l2 k3 a0 x5_2 y466 y479 (wrap64 (x10_3 + 2))) = some r := by first | (rw [hy479]; exact H) | exact H
              have Ny479 := Aside0.mk hy479
              clear hy479
              have H' := Aside0.mk H
              clear H
              have p478 : 0 ≤ (x10_3 : Int) := of_decide_eq_true asm
              have q478 : x10_3 < (x5_2.length : Int) := of_decide_eq_true asm
              obtain ⟨ad478, e478, hx478_0⟩ := Kd.at_int (Kd.R_reads' HO_5.out).2.2 x10_3 p478 q478
              cases e478
              replace p478 := eq_true p478
              replace q478 := eq_true q478
              go_wp2_with (first | ((with_reducible refine gate_builtin (b := .append) (xs := #[.tmp 60, .tmp 65]) rfl ?_); at_builtin; refine Kd.R_append (Kd.int .i64) (w0 := w) w.heap.size rfl (.tmp 60) (.tmp 65) 29 3 (.int .i64 0) 8 rfl Try.underlying29 info3 rfl (by decide) (by omega) u9 x9_3 (rd x5_2 x10_3) [.int .i64 (rd x5_2 x10_3)] (fun k_ => some k_ ≠ (.slice (some ad478) x5_2.length co19 : Value).ownBlock) (fun _ => False) rfl rfl ?aP (fun _ hk => hk.elim) ?aF ?aO ?aB ?aS ?aL ?_; (case aP => exact rfl); (case aB => exact (bt)); (case aF => exact (fun k_ hk => Kd.fresh' (Kd.R_lt (mv HO_5.out)) k_ hk)); (case aO => exact (mv HO_9.out)); (case aS => exact (below_size (bt))); (case aL => have := LMc33.out; omega); intro v480 w34 ho hb hg hat; rw [← Ny479.out] at ho; replace HO_5 := Aside0.mk (Kd.R_after (ok := (fun _ => True)) (by (with_reducible repeat (first | apply Kd.R_alloc | apply Kd.R_drewN | apply Kd.R_drew)); exact Kd.R_mono HO_5.out (fun _ hk => ⟨trivial, hk⟩)) hg hat); replace HO_6 := Aside0.mk (Kd.S_after (ok := (fun _ => True)) (by (with_reducible repeat (first | apply Kd.S_alloc | apply Kd.S_drewN | apply Kd.S_drew)); exact Kd.S_mono HO_6.out (fun _ hk => ⟨trivial, hk⟩)) hg hat); replace HB := Aside0.mk (hb); have HO481 := Aside0.mk (ho); clear HO_9; clear ho hb hg hat))
              go_roundg k3
              case measure => have := HK1.out; have := HK2.out; have := HK3.out; omega
              case rel => exact ⟨(y479), (wrap64 (x10_3 + 2)), (by first | rfl | (simp; done) | (simp [*]; done)), H', ⟨by have := HK1.out; have := HK2.out; have := HK3.out; omega⟩, ⟨by (with_reducible repeat (first | apply Kd.R_alloc | apply Kd.R_drewN | apply Kd.R_drew)); exact Kd.R_mono HO_5.out (fun _ hk => hk.2)⟩, ⟨by (with_reducible repeat (first | apply Kd.S_alloc | apply Kd.S_drewN | apply Kd.S_drew)); exact Kd.S_mono HO_6.out (fun _ hk => hk.2)⟩, ⟨mv HO481.out⟩, ⟨bt⟩⟩
             ·rw [if_neg c33] at H
              exact absurd H (by simp)
            ·rw [if_neg c32] at H
             exact absurd H (by simp)
          ·rw [if_neg c22] at H
           have c22b0 : decide (x10_3 < (x5_2.length : Int)) = false := decide_eq_false c22
           clear c22
           have H' := Aside0.mk H
           clear H
           go_wp2
           go_roundg k3
           case measure => have := HK1.out; have := HK2.out; have := HK3.out; omega
           case rel => exact ⟨(x9_3), (y466), H', ⟨by have := HK1.out; have := HK2.out; have := HK3.out; omega⟩, ⟨by (with_reducible repeat (first | apply Kd.R_alloc | apply Kd.R_drewN | apply Kd.R_drew)); exact Kd.R_mono HO_9.out (fun _ hk => trivial)⟩, ⟨mv HO_6.out⟩, ⟨bt⟩⟩
      ·rw [if_neg c14] at H
       exact absurd H (by simp)

/-! ### impl_topInput: function 105 -/
def impl_topInput.f (k : Nat) (a0 : Int) (a1 : Int) : Option (List Int) := (some (([2, (a0) % 256] : List Int) : List Int)).bind fun y482 => ((impl_Eight.f k a1).bind fun t485 => (if y482.length + t485.length < 140737488355328 then (some (y482 ++ t485)) else (none)))
set_option maxHeartbeats 8000000 in
set_option maxRecDepth 100000 in
theorem impl_topInput.calls (k : Nat) (a0 : Int) (a1 : Int) (r : List Int) (w : World) (h : impl_topInput.f k a0 a1 = some r) :
  Calls Try.prog 105 #[.int .i64 a0, .int .i64 a1] w fun e w' => ∃ v0_ : Value, e = .returned (v0_) ∧ Kd.R (Kd.int .u8) 5 w' w.heap.size (fun _ => True) v0_ r ∧ Below w.heap.size w w' := by
 have HB := Aside0.mk (Below.refl w.heap.size w)
 have H : ((some (([2, (a0) % 256] : List Int) : List Int)).bind fun y482 => ((impl_Eight.f k a1).bind fun t485 => (if y482.length + t485.length < 140737488355328 then (some (y482 ++ t485)) else (none)))) = some r := h
 clear h
 obtain ⟨y482, hy482⟩ : ∃ y_ : List Int, y_ = (([2, (a0) % 256] : List Int)) := ⟨_, rfl⟩
 replace H : ((impl_Eight.f k a1).bind fun t485 => (if y482.length + t485.length < 140737488355328 then (some (y482 ++ t485)) else (none))) = some r := by first | (rw [hy482]; exact H) | exact H
 have Ny482 := Aside0.mk hy482
 clear hy482
 replace H := Option.bind_eq_some_iff.mp H
 obtain ⟨t485, A30, H⟩ := H
 (try dsimp -simprocs only at H)
 have A3 := Aside0.mk A30
 clear A30
 by_cases c4 : y482.length + t485.length < 140737488355328
 ·rw [if_pos c4] at H
  have LMc4 := Aside0.mk c4
  clear c4
  obtain ⟨y488, hy488⟩ : ∃ y_ : List Int, y_ = (y482 ++ t485) := ⟨_, rfl⟩
  replace H : (some y488) = some r := by first | (rw [hy488]; exact H) | exact H
  have Ny488 := Aside0.mk hy488
  clear hy488
  obtain rfl := Option.some.inj H
  go_enter Try.func105, Try.ntmps105
  go_wp2_with (first | ((with_reducible refine gate_dst (N := 7) rfl ?_); refine Kd.R_lit (Kd.int .u8) _ 5 ?hg (N := 7) ?hd (xs := ([2, (a0) % 256] : List Int)) (inner := [.int .u8 2, .int .u8 ((a0) % 256)]) (ok := fun _ => True) (okp := fun _ => True) ?hr ?hp (fun _ hk => hk) trivial (Below.refl _ _) (Nat.le_refl _) (by simp) ?_; (case hd => rfl); (case hg => rfl); (case hr => first | (go_simp; done) | (go_simp; rfl)); (case hp => exact (Reps.one (show Kd.M (Kd.int .u8) _ _ _ 2 [.int .u8 2] from rfl) (Reps.one (show Kd.M (Kd.int .u8) _ _ _ ((a0) % 256) [.int .u8 ((a0) % 256)] from rfl) (Reps.none _ _)))); intro v483 w5 ho6 hb hg_ hnew_; clear hg_ hnew_; (first | rw [← Ny482.out] at ho6 | (simp only [Int.reduceToNat] at ho6; rw [← Ny482.out] at ho6)); have HO484 := Aside0.mk (Kd.R_lower ho6 (below_size (bt))); replace HB := Aside0.mk (below_step (bt) hb); clear hb ho6) | ((with_reducible refine gate_callee (f := 130) rfl ?_); refine goesL_ (some 9) rfl rfl Try.func130 (by kernel_rfl) rfl #[.int .i64 a1] rfl av ?_; (with_reducible refine (impl_Eight.calls k a1 t485 _ A3.out).mono ?_); rintro e w7 ⟨v486, rfl, ho0, hb⟩; refine ⟨_, rfl, ?_⟩; have HO487 := Aside0.mk (Kd.R_lower (Kd.R_new' ho0 (Kd.R_lt (mv HO484.out))) (below_size (bt))); replace HO484 := Aside0.mk (Kd.R_elder' (mv HO484.out) (Kd.R_base ho0) hb); replace HB := Aside0.mk (below_step (bt) hb); (try clear hb); (try clear hb2); (try clear hk); (try clear hi); (try clear ho0); obtain ⟨Ao9, co9, eo9⟩ := Kd.R_slice HO487.out; subst eo9) | ((with_reducible refine gate_builtin (b := .append) (xs := #[.tmp 7, .tmp 9]) rfl ?_); at_builtin; refine Kd.R_append_rows (Kd.int .u8) (w0 := w) w.heap.size rfl (.tmp 7) (.tmp 9) 22 5 (.int .u8 0) 1 rfl Try.underlying22 info5 rfl (by decide) (by omega) v483 y482 t485 _ _ _ (fun k_ => some k_ ≠ (.slice Ao9 t485.length co9 : Value).ownBlock) (fun _ => False) rfl rfl ?aO ?aR (fun _ _ h => h) (fun _ h => h.elim) ?aF ?aB ?aS ?aL ?_; (case aR => exact cv ((Kd.R_reads' HO487.out).2.2)); (case aB => exact (bt)); (case aF => exact (fun k_ hk => Kd.fresh' (Kd.R_lt (mv HO487.out)) k_ hk)); (case aO => exact (by (with_reducible repeat (first | apply Kd.R_alloc | apply Kd.R_drewN | apply Kd.R_drew)); exact Kd.R_mono HO484.out (fun _ hk => hk.2))); (case aS => exact (below_size (bt))); (case aL => have := LMc4.out; omega); intro v489 w8 ho hb hg hat; rw [← Ny488.out] at ho; replace HO487 := Aside0.mk (Kd.R_after (ok := (fun _ => True)) (mv HO487.out) hg hat); replace HB := Aside0.mk (hb); have HO490 := Aside0.mk (ho); clear HO484; clear ho hb hg hat))
  go_ret
  exact ⟨_, by first | rfl | (simp [errW_none, errW_some] <;> rfl) | (simp [*, errW_none, errW_some] <;> rfl), by (with_reducible repeat (first | apply Kd.R_alloc | apply Kd.R_drewN | apply Kd.R_drew)); exact Kd.R_mono HO490.out (fun _ hk => trivial), bt⟩
 ·rw [if_neg c4] at H
  exact absurd H (by simp)

/-! ### impl_topOf: function 57 -/
def impl_topOf.f (k : Nat) (a0 : Int) (l1 : List (List Int)) : Option (List Int) := (impl_levels.f k a0 l1).bind fun t491 => (if 0 ≤ (wrap64 ((t491.length : Int) - 1)) then (if (wrap64 ((t491.length : Int) - 1)) < (t491.length : Int) then (if 0 < ((rd_L3 t491 (wrap64 ((t491.length : Int) - 1))).length : Int) then ((impl_topInput.f k (l1.length : Int) (rd (rd_L3 t491 (wrap64 ((t491.length : Int) - 1))) 0)).bind fun t496 => (some t496)) else (none)) else (none)) else (none))
set_option maxHeartbeats 8000000 in
set_option maxRecDepth 100000 in
theorem impl_topOf.calls (k : Nat) (a0 : Int) (A1 : Option Addr) (c1 : Nat) (l1 : List (List Int)) (r : List Int) (w : World) (hr1 : Kd.C (Kd.slice 5 (Kd.int .u8)) w A1 l1.length l1) (hc1 : l1.length ≤ c1) (h : impl_topOf.f k a0 l1 = some r) :
  Calls Try.prog 57 #[.int .i64 a0, .slice A1 l1.length c1] w fun e w' => ∃ v0_ : Value, e = .returned (v0_) ∧ Kd.R (Kd.int .u8) 5 w' w.heap.size (fun _ => True) v0_ r ∧ Below w.heap.size w w' := by
 have HR1 := Aside0.mk hr1
 have HC1 := Aside0.mk hc1
 clear hr1 hc1
 have HB := Aside0.mk (Below.refl w.heap.size w)
 have H : ((impl_levels.f k a0 l1).bind fun t491 => (if 0 ≤ (wrap64 ((t491.length : Int) - 1)) then (if (wrap64 ((t491.length : Int) - 1)) < (t491.length : Int) then (if 0 < ((rd_L3 t491 (wrap64 ((t491.length : Int) - 1))).length : Int) then ((impl_topInput.f k (l1.length : Int) (rd (rd_L3 t491 (wrap64 ((t491.length : Int) - 1))) 0)).bind fun t496 => (some t496)) else (none)) else (none)) else (none))) = some r := h
 clear h
 replace H := Option.bind_eq_some_iff.mp H
 obtain ⟨t491, A30, H⟩ := H
 (try dsimp -simprocs only at H)
 have A3 := Aside0.mk A30
 clear A30
 obtain ⟨ji4, hji4⟩ : ∃ j_ : Int, (wrap64 ((t491.length : Int) - 1)) = j_ := ⟨_, rfl⟩
 replace H : (if 0 ≤ (ji4) then (if (ji4) < (t491.length : Int) then (if 0 < ((rd_L3 t491 (ji4)).length : Int) then ((impl_topInput.f k (l1.length : Int) (rd (rd_L3 t491 (ji4)) 0)).bind fun t496 => (some t496)) else (none)) else (none)) else (none)) = some r := by first | (rw [hji4] at H; exact H) | (simp only [hji4] at H ⊢; exact H)
 (try rw [hji4] at A3)
 have hji4w : (IntKind.i64.wrap ((t491.length : Int) - 1)) = ji4 := (i64_w _).trans hji4
 by_cases c5 : 0 ≤ (ji4)
 ·rw [if_pos c5] at H
  have c5b0 : decide (0 ≤ (ji4)) = true := decide_eq_true c5
  clear c5
  by_cases c6 : (ji4) < (t491.length : Int)
  ·rw [if_pos c6] at H
   have c6b0 : decide ((ji4) < (t491.length : Int)) = true := decide_eq_true c6
   clear c6
   by_cases c7 : 0 < ((rd_L3 t491 (ji4)).length : Int)
   ·rw [if_pos c7] at H
    have c7b0 : decide (0 < ((rd_L3 t491 (ji4)).length : Int)) = true := decide_eq_true c7
    have c7b1 : decide (0 < (rd_L3 t491 (ji4)).length) = true := decide_eq_true (by omega)
    clear c7
    replace H := Option.bind_eq_some_iff.mp H
    obtain ⟨t496, A80, H⟩ := H
    (try dsimp -simprocs only at H)
    have A8 := Aside0.mk A80
    clear A80
    obtain rfl := Option.some.inj H
    go_enter Try.func57, Try.ntmps57
    go_wp2_with (first | ((with_reducible refine gate_callee (f := 90) rfl ?_); refine goesL_ (some 8) rfl rfl Try.func90 (by kernel_rfl) rfl #[.int .i64 a0, .slice A1 l1.length c1] rfl av ?_; (with_reducible refine (impl_levels.calls k a0 _ _ l1 t491 _ ?side1 ?side2 A3.out).mono ?_); (case side1 => exact cv (HR1.out)); (case side2 => exact HC1.out); rintro e w9 ⟨v492, rfl, ho0, hb⟩; refine ⟨_, rfl, ?_⟩; have HO493 := Aside0.mk (Kd.S_lower ho0 (below_size (bt))); replace HB := Aside0.mk (below_step (bt) hb); (try clear hb); (try clear hb2); (try clear hk); (try clear hi); (try clear ho0); obtain ⟨Ao10, co10, eo10⟩ := Kd.S_slice HO493.out; subst eo10; have p494 : 0 ≤ ((ji4) : Int) := of_decide_eq_true asm; have q494 : (ji4) < (t491.length : Int) := of_decide_eq_true asm; obtain ⟨ad494, A494_0, c494_0, e494, hx494_0, hl494_0, hi494_0⟩ := at_L3 (Kd.S_reads' HO493.out).2.2 (ji4) p494 q494; cases e494; obtain ⟨ce494, hce494, hMe494, hcc494⟩ := Kd.S_get HO493.out [] (ji4) p494 (by first | exact q494 | exact of_decide_eq_true asm | (have e_ := (Kd.S_reads' HO493.out).1; omega)); obtain ⟨ve494_0, rfl, ge494_0⟩ := hMe494; have hv494_0 := hcc494 0 _ rfl; rw [Nat.add_zero, show ((Kd.slice 3 (Kd.int .i64))).sz = 1 from rfl, Nat.mul_one] at hv494_0; replace hv494_0 := Option.some.inj (hv494_0.symm.trans hx494_0); rw [hv494_0] at ge494_0; have HL494_0 := Aside0.mk (show Kd.R (Kd.int .i64) 3 _ _ _ _ (rd_L3 t491 (ji4)) from ge494_0); clear hv494_0 ge494_0; clear hcc494 hce494; have HR494_0 := Aside0.mk hi494_0; have HC494_0 := Aside0.mk hl494_0; clear hi494_0 hl494_0; replace p494 := eq_true p494; replace q494 := eq_true q494; have p495 : 0 ≤ (0 : Int) := (by omega); have q495 : 0 < ((rd_L3 t491 (ji4)).length : Int) := of_decide_eq_true asm; obtain ⟨ad495, e495, hx495_0⟩ := Kd.at_int (cv HR494_0.out) 0 p495 q495; cases e495; have qi495 : (0 < (rd_L3 t491 (ji4)).length) = True := eq_true (by omega); (try rw [show ((0 : Int)).toNat = 0 from rfl] at hx495_0); (try rw [Addr.add_zero'] at hx495_0); replace p495 := eq_true p495; replace q495 := eq_true q495) | ((with_reducible refine gate_callee (f := 105) rfl ?_); refine goesL_ (some 19) rfl rfl Try.func105 (by kernel_rfl) rfl #[.int .i64 (l1.length : Int), .int .i64 (rd (rd_L3 t491 (ji4)) 0)] rfl (by (try simp only [List.map_toArray, List.map_cons, List.map_nil]); first | done | (simp only [hji4]; rfl) | rfl | (simp only [List.length_drop, List.length_take]; rfl)) ?_; (with_reducible refine (impl_topInput.calls k (l1.length : Int) (rd (rd_L3 t491 (ji4)) 0) t496 _ A8.out).mono ?_); rintro e w11 ⟨v497, rfl, ho0, hb⟩; refine ⟨_, rfl, ?_⟩; replace HO493 := Aside0.mk (Kd.S_below (mv HO493.out) hb); replace HL494_0 := Aside0.mk (Kd.R_below (mv HL494_0.out) hb); have HO498 := Aside0.mk (Kd.R_lower ho0 (below_size (bt))); replace HR494_0 := Aside0.mk (Kd.C_below (cv HR494_0.out) hb); replace HB := Aside0.mk (below_step (bt) hb); (try clear hb); (try clear hb2); (try clear hk); (try clear hi); (try clear ho0)))
    go_ret
    exact ⟨_, by first | rfl | (simp [errW_none, errW_some] <;> rfl) | (simp only [← hji4]; first | rfl | (simp [errW_none, errW_some] <;> rfl)) | (simp [*, errW_none, errW_some] <;> rfl), by (with_reducible repeat (first | apply Kd.R_alloc | apply Kd.R_drewN | apply Kd.R_drew)); exact HO498.out, bt⟩
   ·rw [if_neg c7] at H
    exact absurd H (by simp)
  ·rw [if_neg c6] at H
   exact absurd H (by simp)
 ·rw [if_neg c5] at H
  exact absurd H (by simp)

/-! ### impl_TreeRoot: function 11 -/
def impl_TreeRoot.f (k : Nat) (a0 : Int) (l1 : List (List Int)) : Option (Int) := (impl_leavesOk.f a0 l1).bind fun t499 => (if t499 = true then ((impl_topOf.f k a0 l1).bind fun t500 => ((impl_Digest.f a0 t500).bind fun t503 => (some t503))) else (some (-1)))
set_option maxHeartbeats 8000000 in
set_option maxRecDepth 100000 in
theorem impl_TreeRoot.calls (k : Nat) (a0 : Int) (A1 : Option Addr) (c1 : Nat) (l1 : List (List Int)) (r : Int) (w : World) (hr1 : Kd.C (Kd.slice 5 (Kd.int .u8)) w A1 l1.length l1) (hc1 : l1.length ≤ c1) (h : impl_TreeRoot.f k a0 l1 = some r) :
  Calls Try.prog 11 #[.int .i64 a0, .slice A1 l1.length c1] w fun e w' => e = .returned (.int .i64 r) ∧ Below w.heap.size w w' := by
 have HR1 := Aside0.mk hr1
 have HC1 := Aside0.mk hc1
 clear hr1 hc1
 have HB := Aside0.mk (Below.refl w.heap.size w)
 have H : ((impl_leavesOk.f a0 l1).bind fun t499 => (if t499 = true then ((impl_topOf.f k a0 l1).bind fun t500 => ((impl_Digest.f a0 t500).bind fun t503 => (some t503))) else (some (-1)))) = some r := h
 clear h
 replace H := Option.bind_eq_some_iff.mp H
 obtain ⟨t499, A30, H⟩ := H
 (try dsimp -simprocs only at H)
 have A3 := Aside0.mk A30
 clear A30
 by_cases c4 : t499 = true
 ·subst c4
  rw [if_pos rfl] at H
  replace H := Option.bind_eq_some_iff.mp H
  obtain ⟨t500, A50, H⟩ := H
  (try dsimp -simprocs only at H)
  have A5 := Aside0.mk A50
  clear A50
  replace H := Option.bind_eq_some_iff.mp H
  obtain ⟨t503, A60, H⟩ := H
  (try dsimp -simprocs only at H)
  have A6 := Aside0.mk A60
  clear A60
  obtain rfl := Option.some.inj H
  go_enter Try.func11, Try.ntmps11
  go_wp2_with (first | ((with_reducible refine gate_callee (f := 55) rfl ?_); refine goesL_ (some 7) rfl rfl Try.func55 (by kernel_rfl) rfl #[.int .i64 a0, .slice A1 l1.length c1] rfl av ?_; (with_reducible refine (impl_leavesOk.calls a0 _ _ l1 true _ ?side1 ?side2 A3.out).mono ?_); (case side1 => exact cv (HR1.out)); (case side2 => exact HC1.out); rintro e w' ⟨rfl, ⟨nd, rfl⟩⟩; refine ⟨_, rfl, ?_⟩) | ((with_reducible refine gate_callee (f := 57) rfl ?_); refine goesL_ (some 12) rfl rfl Try.func57 (by kernel_rfl) rfl #[.int .i64 a0, .slice A1 l1.length c1] rfl av ?_; (with_reducible refine (impl_topOf.calls k a0 _ _ l1 t500 _ ?side1 ?side2 A5.out).mono ?_); (case side1 => exact cv (HR1.out)); (case side2 => exact HC1.out); rintro e w7 ⟨v501, rfl, ho0, hb⟩; refine ⟨_, rfl, ?_⟩; have HO502 := Aside0.mk (Kd.R_lower ho0 (below_size (bt))); replace HB := Aside0.mk (below_step (bt) hb); (try clear hb); (try clear hb2); (try clear hk); (try clear hi); (try clear ho0); obtain ⟨Ao8, co8, eo8⟩ := Kd.R_slice HO502.out; subst eo8) | ((with_reducible refine gate_callee (f := 56) rfl ?_); refine goesL_ (some 13) rfl rfl Try.func56 (by kernel_rfl) rfl #[.int .i64 a0, .slice Ao8 t500.length co8] rfl av ?_; (with_reducible refine (impl_Digest.calls a0 _ _ t500 t503 _ ?side1 ?side2 A6.out).mono ?_); (case side1 => exact cv ((Kd.R_reads' HO502.out).2.2)); (case side2 => exact (Kd.R_reads' HO502.out).2.1); rintro e w9 ⟨rfl, hb⟩; refine ⟨_, rfl, ?_⟩; replace HO502 := Aside0.mk (Kd.R_below (mv HO502.out) hb); replace HB := Aside0.mk (below_step (bt) hb); (try clear hb); (try clear hb2); (try clear hk); (try clear hi)))
  go_ret
  exact ⟨by first | rfl | (simp [errW_none, errW_some] <;> rfl) | (simp [*, errW_none, errW_some] <;> rfl), bt⟩
 ·replace c4 := Bool.eq_false_iff.mpr c4
  subst c4
  rw [if_neg (show ¬ (false = true) by decide)] at H
  obtain rfl := Option.some.inj H
  go_enter Try.func11, Try.ntmps11
  go_wp2_with (first | ((with_reducible refine gate_callee (f := 55) rfl ?_); refine goesL_ (some 7) rfl rfl Try.func55 (by kernel_rfl) rfl #[.int .i64 a0, .slice A1 l1.length c1] rfl av ?_; (with_reducible refine (impl_leavesOk.calls a0 _ _ l1 false _ ?side1 ?side2 A3.out).mono ?_); (case side1 => exact cv (HR1.out)); (case side2 => exact HC1.out); rintro e w' ⟨rfl, ⟨nd, rfl⟩⟩; refine ⟨_, rfl, ?_⟩))
  go_ret
  exact ⟨by first | rfl | (simp [errW_none, errW_some] <;> rfl) | (simp [*, errW_none, errW_some] <;> rfl), bt⟩

/-! ### impl_digests: function 106 -/
/-- Is it a digest of so many bits. -/
def isDig (bits x : Int) : Bool := decide ((2 ≤ bits ∧ bits ≤ 60) ∧ 0 ≤ x ∧ x < 2 ^ bits.toNat)
def impl_digests.f (a0 : Int) (l1 : List Int) : Option (Bool) := if l1.all (fun x => (impl_isDigest.f a0 x).isSome) then some (l1.all fun x => (impl_isDigest.f a0 x).getD false) else none
/-- The first number that is no digest; -1: there is none. -/
def firstNot (a0 : Int) (l : List Int) (i : Nat) : Int := match l with
 | [] => -1
 | x :: l => if (impl_isDigest.f a0 x).getD false = true then firstNot a0 l (i + 1) else (i : Int)
theorem firstNot_all (a0 : Int) (l : List Int) : ∀ i : Nat, decide (0 ≤ firstNot a0 l i) = !(l.all fun x => (impl_isDigest.f a0 x).getD false) := by
 induction l with
 | nil => intro i; rfl
 | cons x l ih =>
  intro i
  unfold firstNot
  by_cases h : (impl_isDigest.f a0 x).getD false = true
  ·rw [if_pos h, ih (i + 1)]; simp [h]
  ·rw [if_neg h]; simp [h]
set_option maxHeartbeats 4000000 in
theorem digest_lit (a0 x : Int) (v : Bool) (B : Nat) (W : World) (hc : W.cell? ⟨B, 0, none⟩ = some (.int .i64 a0)) (h : impl_isDigest.f a0 x = some v) :
  Calls Try.prog 132 #[.int .i64 x, .pointer (some ⟨B, 0, none⟩)] W fun e w' => e = .returned (.bool (!v)) ∧ Drawn0 W w' := by
 have H := Aside0.mk h
 clear h
 go_enter Try.func132, Try.ntmps132
 go_wp2_with (go_at_call 133; refine (impl_isDigest.calls a0 x v _ H.out).mono ?_; rintro e w' ⟨rfl, ⟨nd, rfl⟩⟩)
 go_ret
 exact ⟨rfl, by repeat (first | exact Drawn0.refl _ | apply Drawn0.step)⟩
set_option maxHeartbeats 4000000 in
set_option maxRecDepth 100000 in
theorem digests_index (a0 : Int) (A1 : Option Addr) (c1 : Nat) (l1 : List Int) (B : Nat) (w : World) (hr1 : Kd.C (Kd.int .i64) w A1 l1.length l1) (hc : w.cell? ⟨B, 0, none⟩ = some (.int .i64 a0)) (h : ∀ x ∈ l1, ∃ v, impl_isDigest.f a0 x = some v) :
  Calls Try.prog 143 #[.slice A1 l1.length c1, .func (.func 132) #[] #[.pointer (some ⟨B, 0, none⟩)]] w fun e w' => e = .returned (.int .i64 (firstNot a0 l1 0)) ∧ Drawn0 w w' := by
 have HR := Aside0.mk hr1
 have HC := Aside0.mk hc
 have HH := Aside0.mk h
 clear hr1 hc h
 have eg := enters_of Try.func132 (by kernel_rfl) rfl
 go_enter Try.func143, Try.ntmps143
 go_wp2
 go_loopw [8] (fun i wr => ∃ k : Nat, i = .int .i64 k ∧ Aside0 (k ≤ l1.length) ∧ Aside0 (firstNot a0 (l1.drop k) k = firstNot a0 l1 0) ∧ Drawn0 w wr) (fun i _ => l1.length - (intOf i).toNat)
 case atStart => exact ⟨0, rfl, ⟨Nat.zero_le _⟩, ⟨rfl⟩, Drawn0.refl _⟩
 case round =>
  obtain ⟨k, rfl, HK, HF, ⟨m, rfl⟩⟩ := hrel
  have HM : Aside0 (l1.length ≤ 9223372036854775807) := ⟨HR.out.2.1⟩
  by_cases hlt : k < l1.length
  ·have c0 : decide (k < l1.length) = true := decide_eq_true hlt
   have c1 : decide ((k : Int) < (l1.length : Int)) = true := decide_eq_true (by omega)
   have p1 : 0 ≤ (k : Int) := Int.natCast_nonneg k
   have q1 : (k : Int) < (l1.length : Int) := by omega
   obtain ⟨ad, e1, hx⟩ := Kd.at_int HR.out k p1 q1
   cases e1
   rw [Int.toNat_natCast] at hx
   have ed : l1.drop k = rd l1 k :: l1.drop (k + 1) := by
    unfold rd
    rw [Int.toNat_natCast, List.getD_eq_getElem?_getD, List.getElem?_eq_getElem hlt]
    exact List.drop_eq_getElem_cons hlt
   obtain ⟨v, hv⟩ := HH.out (rd l1 k) (by unfold rd; rw [Int.toNat_natCast, List.getD_eq_getElem?_getD, List.getElem?_eq_getElem hlt]; exact List.getElem_mem hlt)
   have HV := Aside0.mk hv
   have HD := Aside0.mk ed
   have HL := Aside0.mk hlt
   clear hlt ed hv
   generalize rd l1 (k : Int) = x at hx HV HD
   go_wp2_with fail
   refine (digest_lit a0 x v B (w.drewN m) HC.out HV.out).mono ?_
   rintro e w' ⟨rfl, ⟨nd, rfl⟩⟩
   have b2 : (k : Int) ≤ 9223372036854775806 := by have := HL.out; have := HM.out; omega
   cases v with
   | true =>
    go_wp2
    go_roundw
    case rel => exact ⟨k + 1, by go_num, ⟨HL.out⟩, ⟨by have h := HF.out; rw [HD.out] at h; simp only [firstNot, HV.out, Option.getD_some, if_true] at h; exact h⟩, by repeat (first | exact Drawn0.refl _ | apply Drawn0.step)⟩
    case measure => have := HL.out; simp [intOf]; omega
   | false =>
    go_wp2
    go_ret
    exact ⟨by have h := HF.out; rw [HD.out] at h; simp only [firstNot, HV.out, Option.getD_some] at h; rw [← h]; simp, by repeat (first | exact Drawn0.refl _ | apply Drawn0.step)⟩
  ·have c0 : decide (k < l1.length) = false := decide_eq_false hlt
   have c1 : decide ((k : Int) < (l1.length : Int)) = false := decide_eq_false (by omega)
   have e : firstNot a0 l1 0 = -1 := by
    have h := HF.out
    rw [List.drop_eq_nil_of_le (by omega)] at h
    exact h.symm
   have HE := Aside0.mk e
   clear hlt e
   go_wp2
   go_ret
   exact ⟨by first | (rw [HE.out]; done) | (rw [HE.out]; rfl), by repeat (first | exact Drawn0.refl _ | apply Drawn0.step)⟩
set_option maxHeartbeats 4000000 in
theorem digests_contains (a0 : Int) (A1 : Option Addr) (c1 : Nat) (l1 : List Int) (B : Nat) (w : World) (hr1 : Kd.C (Kd.int .i64) w A1 l1.length l1) (hc : w.cell? ⟨B, 0, none⟩ = some (.int .i64 a0)) (h : ∀ x ∈ l1, ∃ v, impl_isDigest.f a0 x = some v) :
  Calls Try.prog 131 #[.slice A1 l1.length c1, .func (.func 132) #[] #[.pointer (some ⟨B, 0, none⟩)]] w fun e w' => e = .returned (.bool (decide (0 ≤ firstNot a0 l1 0))) ∧ Drawn0 w w' := by
 have HI := Aside0.mk (digests_index a0 A1 c1 l1 B w hr1 hc h)
 clear hr1 hc h
 go_enter Try.func131, Try.ntmps131
 go_wp2_with (go_at_call 143; refine HI.out.mono ?_; rintro e w' ⟨rfl, ⟨nd, rfl⟩⟩)
 go_ret
 exact ⟨rfl, by repeat (first | exact Drawn0.refl _ | apply Drawn0.step)⟩
set_option maxHeartbeats 4000000 in
theorem impl_digests.calls (a0 : Int) (A1 : Option Addr) (c1 : Nat) (l1 : List Int) (r : Bool) (w : World) (hr1 : Kd.C (Kd.int .i64) w A1 l1.length l1) (hc1 : l1.length ≤ c1) (h : impl_digests.f a0 l1 = some r) :
  Calls Try.prog 106 #[.int .i64 a0, .slice A1 l1.length c1] w fun e w' => e = .returned (.bool r) ∧ Below w.heap.size w w' := by
 unfold impl_digests.f at h
 by_cases ha : (l1.all fun x => (impl_isDigest.f a0 x).isSome) = true
 ·rw [if_pos ha] at h
  have hr := Option.some.inj h
  have hall : ∀ x ∈ l1, ∃ v, impl_isDigest.f a0 x = some v := fun x hx => by
   have := List.all_eq_true.1 ha x hx
   exact Option.isSome_iff_exists.1 this
  have hf := firstNot_all a0 l1 0
  rw [hr] at hf
  have hb : Below w.heap.size w (w.alloc (.cells #[.int .i64 a0] 3)) := below_alloc (Below.refl _ _) _
  have hcell : (w.alloc (.cells #[.int .i64 a0] 3)).cell? ⟨w.heap.size, 0, none⟩ = some (.int .i64 a0) := by
   exact (blk_cell (blk_new w (.cells #[.int .i64 a0] 3)) 0).trans rfl
  have HC := Aside0.mk (digests_contains a0 A1 c1 l1 w.heap.size _ (Kd.C_below hr1 hb) hcell hall)
  have HF := Aside0.mk hf
  have HB := Aside0.mk hb
  clear h ha hr hall hf hb hcell hr1
  go_enter Try.func106, Try.ntmps106
  go_wp2_with (go_at_call 131; refine HC.out.mono ?_; rintro e w' ⟨rfl, hd⟩)
  go_ret
  exact ⟨by rw [HF.out]; simp, HB.out.trans (hd.below.mono HB.out.size)⟩
 ·rw [if_neg ha] at h
  cases h

/-! ### fake_lf_one: function 163 -/
abbrev fake_lf_one.f (b : Int) (l : List Int) : Option Bool := impl_leavesOk.f b [l]

end Go.Proofs.Ytchjajbkaiefdaa.PFnClaims
