-- Written by a program of this workplace (wip/mp.py) out of the translation.
import Derived.Test.YtchjajbkaiefdaaPFnManyx0
import Derived.Test.YtchjajbkaiefdaaPFnManyx8
import Derived.Test.YtchjajbkaiefdaaPFnManyx9
import Derived.Test.YtchjajbkaiefdaaPFnManyx10
namespace Go.Proofs.Ytchjajbkaiefdaa.PFnMany
open Go.RowKit Go.Proofs.YtchjajbkaiefdaaW.PrintWords Go.Proofs.YtchjajbkaiefdaaW.PrintLast Go.Proofs.YtchjajbkaiefdaaW.PrintMore Go.Proofs.Ytchjajbkaiefdaa.Slim
attribute [local go_sem] max2_int min2_int max_two min_two max_three min_three max_four min_four   -- for this text's walks alone
set_option maxHeartbeats 8000000
set_option maxRecDepth 100000
set_option linter.unusedVariables false
set_option linter.unusedSimpArgs false

/-! ### spec_l2Levels: function 111 -/
mutual
def spec_l2Levels.l0 : Nat → Int → List (List Int) → List Int → Int → Option ((List (List Int)))
 | 0, _, _, _, _ => none
 | k + 1, x0, x1, x5, x6 => if x6 < (x1.length : Int) then (if 0 ≤ x6 then ((spec_LeafOf.f k x0 (rd_L1 x1 x6)).bind fun t481 => (if x5.length < 17592186044416 then (spec_l2Levels.l0 k x0 x1 (x5 ++ [t481]) (wrap64 (x6 + 1))) else (none))) else (none)) else (spec_l2Levels.l1 k x0 x5 (([x5] : List (List Int))))
def spec_l2Levels.l1 : Nat → Int → List Int → List (List Int) → Option ((List (List Int)))
 | 0, _, _, _ => none
 | k + 1, x0, x5, x7 => if (x5.length : Int) > 1 then (spec_l2Levels.l2 k x0 x5 x7 (([] : List Int)) 0) else (some x7)
def spec_l2Levels.l2 : Nat → Int → List Int → List (List Int) → List Int → Int → Option ((List (List Int)))
 | 0, _, _, _, _, _ => none
 | k + 1, x0, x5, x7, x8, x9 => if x9 < (x5.length : Int) then (if (wrap64 (x9 + 1)) < (x5.length : Int) then (if 0 ≤ x9 then (if 0 ≤ (wrap64 (x9 + 1)) then ((spec_NodeOf.f k x0 (rd x5 x9) (rd x5 (wrap64 (x9 + 1)))).bind fun t493 => (if x8.length < 17592186044416 then (spec_l2Levels.l2 k x0 x5 x7 (x8 ++ [t493]) (wrap64 (x9 + 2))) else (none))) else (none)) else (none)) else (if 0 ≤ x9 then (if x8.length < 17592186044416 then (spec_l2Levels.l2 k x0 x5 x7 (x8 ++ [rd x5 x9]) (wrap64 (x9 + 2))) else (none)) else (none))) else (if x7.length < 5864062014805 then (spec_l2Levels.l1 k x0 x8 (x7 ++ [x8])) else (none))
end
def spec_l2Levels.f (k : Nat) (a0 : Int) (l1 : List (List Int)) : Option ((List (List Int))) := spec_l2Levels.l0 k a0 l1 (([] : List Int)) 0
def spec_l2Levels.T13 : Bool × List (List Nat × List Nat) := (true, [([], []), ([], []), ([], []), ([], []), ([2, 3], [2, 3]), ([4], [4]), ([], []), ([], []), ([7], [7]), ([6, 8], [6, 8]), ([9], [9]), ([1, 5, 10], [1, 5, 10]), ([11], [11]), ([0, 12, 11], [0, 12]), ([13, 13, 0, 1, 2, 3, 4, 5, 6, 7, 8, 9, 10, 11, 12, 13], [0, 13])])
def spec_l2Levels.B13 : List Nat := [0, 0, 0, 0, 12, 28, 0, 0, 128, 448, 960, 2046, 4094, 8191, 16383]
theorem spec_l2Levels.tab13 : rtab .any (opsOf Try.f111 13) = spec_l2Levels.T13 := by kernel_rfl
theorem spec_l2Levels.bits13 : waitsOk spec_l2Levels.T13.2 spec_l2Levels.B13 = true := by kernel_rfl
theorem spec_l2Levels.calls (k : Nat) (a0 : Int) (A1 : Option Addr) (c1 : Nat) (l1 : List (List Int)) (r : List (List Int)) (w : World) (hr1 : Kd.C (Kd.slice 5 (Kd.int .u8)) w A1 l1.length l1) (hc1 : l1.length ≤ c1) (h : spec_l2Levels.f k a0 l1 = some r) :
  Calls Try.prog 111 #[.int .i64 a0, .slice A1 l1.length c1] w fun e w' => ∃ v0_ : Value, e = .returned (v0_) ∧ Kd.N (Kd.slice 3 (Kd.int .i64)) 29 w' w.heap.size (fun k_ => (w.heap.size ≤ k_)) v0_ r ∧ Below w.heap.size w w' := by
 have HR1 := am hr1
 have HC1 := am hc1
 clear hr1 hc1
 have HB := am (Below.refl w.heap.size w)
 have H : (spec_l2Levels.l0 k a0 l1 (([] : List Int)) 0) = some r := h
 clear h
 obtain ⟨y477, hy477⟩ : ∃ y_ : List Int, y_ = (([] : List Int)) := ⟨_, rfl⟩
 replace H : (spec_l2Levels.l0 k a0 l1 y477 0) = some r := by first | (rw [hy477]; exact H) | exact H
 have Ny477 := am hy477
 clear hy477
 have H' := am H
 clear H
 go_enter Try.func111, Try.ntmps111
 go_wp2_with (first | ((with_reducible refine gate_dst (N := 10) rfl ?_); refine Kd.R_lit (Kd.int .i64) _ 3 ?hg (N := 10) ?hd (xs := ([] : List Int)) (inner := []) (ok := fun _ => True) (okp := fun _ => True) ?hr ?hp (fun _ hk => hk) trivial (Below.refl _ _) (Nat.le_refl _) (by simp) ?_; (case hd => rfl); (case hg => rfl); (case hr => first | (go_simp; done) | (go_simp; rfl)); (case hp => exact (Reps.none _ _)); intro v478 w3 ho4 hb hg_ hnew_; clear hg_ hnew_; (first | rw [← Ny477.out] at ho4 | (simp only [Int.reduceToNat] at ho4; rw [← Ny477.out] at ho4)); have HO479 := am (Kd.R_lower (Kd.R_newM (M := fun k_ => (w.heap.size ≤ k_)) ho4 (below_size (bt)) (fun k_ h_ => h_)) (below_size (bt))); replace HB := am (below_step (bt) hb); clear hb ho4))
 go_loopg [5, 6] k (fun kq v5 v6 w' => ∃ (x5_1 : List Int) (x6_1 : Int), v6 = .int .i64 x6_1 ∧ Aside0 (spec_l2Levels.l0 kq a0 l1 x5_1 x6_1 = some r) ∧ Aside0 (kq ≤ k) ∧ Aside0 (Kd.R (Kd.int .i64) 3 w' w.heap.size (fun k_ => (w.heap.size ≤ k_)) v5 x5_1) ∧ Aside0 (Below w.heap.size w w'))
 case atStart => exact ⟨(y477), (0), e0, H', ⟨Nat.le_refl _⟩, ⟨rR (h := by exact Kd.R_mono HO479.out (fun _ hk => hk.1))⟩, ⟨bt⟩⟩
 case round =>
  clear H'
  obtain ⟨x5_1, x6_1, rfl, HA, HK1, HO_5, HB⟩ := hrel
  cases gk with
  | zero => exact absurd HA.out (by simp [spec_l2Levels.l0])
  | succ k1 =>
   have H := HA.out
   clear HA
   simp only [spec_l2Levels.l0] at H
   by_cases c5 : x6_1 < (l1.length : Int)
   ·rw [if_pos c5] at H
    have c5b0 : decide (x6_1 < (l1.length : Int)) = true := decide_eq_true c5
    clear c5
    by_cases c6 : 0 ≤ x6_1
    ·rw [if_pos c6] at H
     have c6b0 : decide (0 ≤ x6_1) = true := decide_eq_true c6
     clear c6
     obtain ⟨t481, A7, H⟩ := bm H
     (try dsimp -simprocs only at H)
     by_cases c8 : x5_1.length < 17592186044416
     ·rw [if_pos c8] at H
      have LMc8 := am c8
      clear c8
      obtain ⟨y482, hy482⟩ : ∃ y_ : List Int, y_ = (x5_1 ++ [t481]) := ⟨_, rfl⟩
      replace H : (spec_l2Levels.l0 k1 a0 l1 y482 (wrap64 (x6_1 + 1))) = some r := by first | (rw [hy482]; exact H) | exact H
      have Ny482 := am hy482
      clear hy482
      have H' := am H
      clear H
      have p480 : 0 ≤ (x6_1 : Int) := of_decide_eq_true asm
      have q480 : x6_1 < (l1.length : Int) := of_decide_eq_true asm
      obtain ⟨ad480, A480_0, c480_0, e480, hx480_0, hl480_0, hi480_0⟩ := at_L1 HR1.out x6_1 p480 q480
      cases e480
      replace hx480_0 := (HB.out.cell (World.block_lt_of_cell? w _ hx480_0)).trans hx480_0
      have HR480_0 := am hi480_0
      have HC480_0 := am hl480_0
      clear hi480_0 hl480_0
      replace p480 := eq_true p480
      replace q480 := eq_true q480
      go_wp2_with (first | ((with_reducible refine gate_callee (f := 117) rfl ?_); refine goesL_ (some 23) rfl rfl Try.func117 (by kernel_rfl) rfl #[.int .i64 a0, .slice A480_0 (rd_L1 l1 x6_1).length c480_0] rfl av ?_; (with_reducible refine (spec_LeafOf.calls k1 a0 _ _ (rd_L1 l1 x6_1) t481 _ ?side1 ?side2 A7.out).mono ?_); (case side1 => exact cv ((Kd.C_below HR480_0.out HB.out))); (case side2 => exact HC480_0.out); rintro e w9 ⟨rfl, hb⟩; refine ⟨_, rfl, ?_⟩; replace HO_5 := am (Kd.R_below (mv HO_5.out) hb); replace HB := am (below_step (bt) hb); (try clear hb); (try clear hb2); (try clear hk); (try clear hi)) | ((with_reducible refine gate_builtin (b := .append) (xs := #[.tmp 17, .tmp 24]) rfl ?_); at_builtin; refine Kd.R_append (Kd.int .i64) (w0 := w) w.heap.size rfl (.tmp 17) (.tmp 24) 29 3 (.int .i64 0) 8 rfl Try.underlying29 info3 rfl (by decide) (by omega) u5 x5_1 t481 [.int .i64 t481] (fun k_ => (w.heap.size ≤ k_)) (fun _ => False) rfl rfl ?aP (fun _ hk => hk.elim) ?aF ?aO ?aB ?aS ?aL ?_; (case aP => exact rfl); (case aB => exact (bt)); (case aF => exact (fun k_ hk => (Nat.le_trans (below_size (bt)) hk))); (case aO => exact (mv HO_5.out)); (case aS => exact (below_size (bt))); (case aL => have := LMc8.out; omega); intro v483 w10 ho hb hg hat; rw [← Ny482.out] at ho; replace HB := am (hb); have HO484 := am (ho); clear HO_5; clear ho hb hg hat))
      go_roundg k1
      case measure => have := HK1.out; omega
      case rel => exact ⟨(y482), (wrap64 (x6_1 + 1)), e0, H', ⟨by have := HK1.out; omega⟩, ⟨mv HO484.out⟩, ⟨bt⟩⟩
     ·exact nh c8 H
    ·exact nh c6 H
   ·rw [if_neg c5] at H
    have c5b0 : decide (x6_1 < (l1.length : Int)) = false := decide_eq_false c5
    clear c5
    obtain ⟨y485, hy485⟩ : ∃ y_ : List (List Int), y_ = (([x5_1] : List (List Int))) := ⟨_, rfl⟩
    replace H : (spec_l2Levels.l1 k1 a0 x5_1 y485) = some r := by first | (rw [hy485]; exact H) | exact H
    have Ny485 := am hy485
    clear hy485
    have H' := am H
    clear H
    obtain ⟨Ao11, co11, eo11⟩ := Kd.R_slice HO_5.out
    subst eo11
    go_wp2_with (first | ((with_reducible refine gate_dst (N := 27) rfl ?_); refine Kd.N_lit (Kd.slice 3 (Kd.int .i64)) _ 29 ?hg (N' := 27) ?hd (xs := ([x5_1] : List (List Int))) (inner := [.slice Ao11 x5_1.length co11]) (ok := (fun k_ => (w.heap.size ≤ k_))) (okp := (fun k_ => (w.heap.size ≤ k_))) ?hr ?hp (fun _ hk => hk) ((show ∀ k_, wr.heap.size ≤ k_ → (fun k_ => (w.heap.size ≤ k_)) k_ from fun k_ hk => (Nat.le_trans (below_size (bt)) hk)) _ (Nat.le_refl _)) (Below.refl _ _) (Nat.le_refl _) (by simp) ?_; (case hd => rfl); (case hg => rfl); (case hr => first | (go_simp; done) | (go_simp; rfl)); (case hp => exact (Reps.one (show Kd.FK (Kd.slice 3 (Kd.int .i64)) _ _ x5_1 [.slice Ao11 x5_1.length co11] from (fkR (Kd.R_mono (ok' := (fun k_ => (w.heap.size ≤ k_))) (HO_5.out) (fun k_ hk => hk)))) (Reps.none _ _))); intro v486 w12 ho13 hb hg_ hnew_; clear hg_ hnew_; (first | rw [← Ny485.out] at ho13 | (simp only [Int.reduceToNat] at ho13; rw [← Ny485.out] at ho13)); have n0_ := am (Kd.N_lower ho13 (below_size (bt))); have n1_ := am (below_step (bt) hb); have nk_ := am (Kd.R_below (mv HO_5.out) hb); clear HB; clear HO_5; have HO_5 := nk_; clear nk_; have HO487 := n0_; have HB := n1_; clear n0_ n1_; clear hb ho13))
    go_loopg [5, 7] k1 (fun kq v5 v7 w' => ∃ (x5_2 : List Int) (x7_2 : List (List Int)), Aside0 (spec_l2Levels.l1 kq a0 x5_2 x7_2 = some r) ∧ Aside0 (kq ≤ k1) ∧ Aside0 (Kd.R (Kd.int .i64) 3 w' w.heap.size (fun k_ => (w.heap.size ≤ k_)) v5 x5_2) ∧ Aside0 (Kd.N (Kd.slice 3 (Kd.int .i64)) 29 w' w.heap.size (fun k_ => (w.heap.size ≤ k_)) v7 x7_2) ∧ Aside0 (Below w.heap.size w w'))
    case atStart => exact ⟨(x5_1), (y485), H', ⟨Nat.le_refl _⟩, ⟨rR (h := by exact Kd.R_mono HO_5.out (fun _ hk => hk))⟩, ⟨mv HO487.out⟩, ⟨bt⟩⟩
    case round =>
     clear H'
     obtain ⟨x5_2, x7_2, HA, HK2, HO_5, HO_7, HB⟩ := hrel
     cases gk with
     | zero => exact absurd HA.out (by simp [spec_l2Levels.l1])
     | succ k2 =>
      have H := HA.out
      clear HA
      simp only [spec_l2Levels.l1] at H
      by_cases c14 : (x5_2.length : Int) > 1
      ·rw [if_pos c14] at H
       have c14b0 : decide (1 < (x5_2.length : Int)) = true := decide_eq_true c14
       have c14b1 : decide (1 < x5_2.length) = true := decide_eq_true (by omega)
       clear c14
       obtain ⟨y488, hy488⟩ : ∃ y_ : List Int, y_ = (([] : List Int)) := ⟨_, rfl⟩
       replace H : (spec_l2Levels.l2 k2 a0 x5_2 x7_2 y488 0) = some r := by first | (rw [hy488]; exact H) | exact H
       have Ny488 := am hy488
       clear hy488
       have H' := am H
       clear H
       obtain ⟨Ao15, co15, eo15⟩ := Kd.R_slice HO_5.out
       subst eo15
       go_wp2_with (first | ((with_reducible refine gate_dst (N := 31) rfl ?_); refine Kd.R_lit (Kd.int .i64) _ 3 ?hg (N := 31) ?hd (xs := ([] : List Int)) (inner := []) (ok := fun _ => True) (okp := fun _ => True) ?hr ?hp (fun _ hk => hk) trivial (Below.refl _ _) (Nat.le_refl _) (by simp) ?_; (case hd => rfl); (case hg => rfl); (case hr => first | (go_simp; done) | (go_simp; rfl)); (case hp => exact (Reps.none _ _)); intro v489 w16 ho17 hb hg_ hnew_; clear hg_ hnew_; (first | rw [← Ny488.out] at ho17 | (simp only [Int.reduceToNat] at ho17; rw [← Ny488.out] at ho17)); replace HO_7 := am (Kd.N_elder' (mv HO_7.out) (Kd.R_base ho17) hb); have HO490 := am (Kd.R_lower (Kd.R_new' (Kd.R_newM (M := fun k_ => (w.heap.size ≤ k_)) ho17 (below_size (bt)) (fun k_ h_ => h_)) (Kd.R_lt (mv HO_5.out))) (below_size (bt))); replace HO_5 := am (Kd.R_elder' (mv HO_5.out) (Kd.R_base ho17) hb); replace HB := am (below_step (bt) hb); clear hb ho17))
       go_loopg [8, 9] k2 (fun kq v8 v9 w' => ∃ (x8_3 : List Int) (x9_3 : Int), v9 = .int .i64 x9_3 ∧ Aside0 (spec_l2Levels.l2 kq a0 x5_2 x7_2 x8_3 x9_3 = some r) ∧ Aside0 (kq ≤ k2) ∧ Aside0 (Kd.R (Kd.int .i64) 3 w' w.heap.size (fun k_ => (w.heap.size ≤ k_) ∧ nb k_ v8) (.slice Ao15 x5_2.length co15) x5_2) ∧ Aside0 (Kd.N (Kd.slice 3 (Kd.int .i64)) 29 w' w.heap.size (fun k_ => (w.heap.size ≤ k_) ∧ nb k_ v8) u7 x7_2) ∧ Aside0 (Kd.R (Kd.int .i64) 3 w' w.heap.size (fun k_ => (w.heap.size ≤ k_) ∧ nb k_ (.slice Ao15 x5_2.length co15)) v8 x8_3) ∧ Aside0 (Below w.heap.size w w'))
       case atStart => exact ⟨(y488), (0), e0, H', ⟨Nat.le_refl _⟩, ⟨mv HO_5.out⟩, ⟨mv HO_7.out⟩, ⟨rR (h := by exact Kd.R_mono HO490.out (fun _ hk => ⟨hk.1.1, hk.2⟩))⟩, ⟨bt⟩⟩
       case round =>
        clear H'
        obtain ⟨x8_3, x9_3, rfl, HA, HK3, HO_5, HO_7, HO_8, HB⟩ := hrel
        cases gk with
        | zero => exact absurd HA.out (by simp [spec_l2Levels.l2])
        | succ k3 =>
         have H := HA.out
         clear HA
         simp only [spec_l2Levels.l2] at H
         by_cases c18 : x9_3 < (x5_2.length : Int)
         ·rw [if_pos c18] at H
          have c18b0 : decide (x9_3 < (x5_2.length : Int)) = true := decide_eq_true c18
          clear c18
          by_cases c19 : (wrap64 (x9_3 + 1)) < (x5_2.length : Int)
          ·rw [if_pos c19] at H
           have c19b0 : decide ((wrap64 (x9_3 + 1)) < (x5_2.length : Int)) = true := decide_eq_true c19
           clear c19
           by_cases c20 : 0 ≤ x9_3
           ·rw [if_pos c20] at H
            have c20b0 : decide (0 ≤ x9_3) = true := decide_eq_true c20
            clear c20
            obtain ⟨ji21, hji21⟩ : ∃ j_ : Int, (wrap64 (x9_3 + 1)) = j_ := ⟨_, rfl⟩
            replace H : (if 0 ≤ (ji21) then ((spec_NodeOf.f k3 a0 (rd x5_2 x9_3) (rd x5_2 (ji21))).bind fun t493 => (if x8_3.length < 17592186044416 then (spec_l2Levels.l2 k3 a0 x5_2 x7_2 (x8_3 ++ [t493]) (wrap64 (x9_3 + 2))) else (none))) else (none)) = some r := by first | (rw [hji21] at H; exact H) | (simp only [hji21] at H ⊢; exact H)
            (try rw [hji21] at c19b0)
            have hji21w : (IntKind.i64.wrap (x9_3 + 1)) = ji21 := (i64_w _).trans hji21
            by_cases c22 : 0 ≤ (ji21)
            ·rw [if_pos c22] at H
             have c22b0 : decide (0 ≤ (ji21)) = true := decide_eq_true c22
             clear c22
             obtain ⟨t493, A23, H⟩ := bm H
             (try dsimp -simprocs only at H)
             by_cases c24 : x8_3.length < 17592186044416
             ·rw [if_pos c24] at H
              have LMc24 := am c24
              clear c24
              obtain ⟨y494, hy494⟩ : ∃ y_ : List Int, y_ = (x8_3 ++ [t493]) := ⟨_, rfl⟩
              replace H : (spec_l2Levels.l2 k3 a0 x5_2 x7_2 y494 (wrap64 (x9_3 + 2))) = some r := by first | (rw [hy494]; exact H) | exact H
              have Ny494 := am hy494
              clear hy494
              have H' := am H
              clear H
              try go_wp2
              have n0_ := am (Kd.R_drew HO_5.out)
              have n1_ := am (Kd.N_drew HO_7.out)
              have n2_ := am (Kd.R_drew HO_8.out)
              have n3_ := am (below_drew1 HB.out)
              clear HO_5
              clear HO_7
              clear HO_8
              clear HB
              have HO_5 := n0_
              have HO_7 := n1_
              have HO_8 := n2_
              have HB := n3_
              clear n0_ n1_ n2_ n3_
              have p491 : 0 ≤ (x9_3 : Int) := of_decide_eq_true asm
              have q491 : x9_3 < (x5_2.length : Int) := of_decide_eq_true asm
              obtain ⟨ad491, e491, hx491_0⟩ := Kd.at_int (Kd.R_reads' HO_5.out).2.2 x9_3 p491 q491
              cases e491
              replace p491 := eq_true p491
              replace q491 := eq_true q491
              have p492 : 0 ≤ ((ji21) : Int) := of_decide_eq_true asm
              have q492 : (ji21) < (x5_2.length : Int) := of_decide_eq_true asm
              obtain ⟨ad492, e492, hx492_0⟩ := Kd.at_int (Kd.R_reads' HO_5.out).2.2 (ji21) p492 q492
              obtain rfl : ad491 = ad492 := (by injection e492)
              replace p492 := eq_true p492
              replace q492 := eq_true q492
              refine start_ (n := 15) (S := fun w' => w'.cell? (ad491.add (x9_3).toNat) = some (.int .i64 (rd x5_2 x9_3)) ∧ w'.cell? (ad491.add ((ji21)).toNat) = some (.int .i64 (rd x5_2 (ji21)))) (ds := [12, 13]) #[false, false, false, false, false, false, false, false, false, false, false, false, false, false, false] (by kernel_rfl) rfl rfl ⟨hx491_0, hx492_0⟩ (fun hHeld => ?_); refine with_tabW spec_l2Levels.tab13 spec_l2Levels.bits13 (fun HT_ HW_ => ?_)
              generalize wr.drew = w25 at HO_5 HO_7 HO_8 HB hx491_0 hx492_0 hHeld ⊢
              refine pz (i := 0) (N := some 43) #[true, false, false, false, false, false, false, false, false, false, false, false, false, false, false] rfl rfl HT_.out ?_
              refine pz (i := 1) (N := some 44) #[true, true, false, false, false, false, false, false, false, false, false, false, false, false, false] rfl rfl HT_.out ?_
              refine pz (i := 2) (N := some 45) #[true, true, true, false, false, false, false, false, false, false, false, false, false, false, false] rfl rfl HT_.out ?_
              refine pz (i := 3) (N := some 46) #[true, true, true, true, false, false, false, false, false, false, false, false, false, false, false] rfl rfl HT_.out ?_
              refine pz (i := 4) (N := some 47) #[true, true, true, true, true, false, false, false, false, false, false, false, false, false, false] rfl rfl HT_.out ?_
              refine pz (i := 6) (N := some 49) #[true, true, true, true, true, false, true, false, false, false, false, false, false, false, false] rfl rfl HT_.out ?_
              refine pz (i := 7) (N := some 50) #[true, true, true, true, true, false, true, true, false, false, false, false, false, false, false] rfl rfl HT_.out ?_
              refine pz (i := 8) (N := some 51) #[true, true, true, true, true, false, true, true, true, false, false, false, false, false, false] rfl rfl HT_.out ?_
              refine pz (i := 9) (N := some 52) #[true, true, true, true, true, false, true, true, true, true, false, false, false, false, false] rfl rfl HT_.out ?_
              refine tz (i := 5) (N := some 48) #[true, true, true, true, true, true, true, true, true, true, false, false, false, false, false] rfl rfl HT_.out HW_.out hHeld (Or.inl ⟨by rfl, by rintro w' ⟨s0, s1⟩; go_simp; with_reducible rfl⟩) ?_
              refine tz (i := 10) (N := some 53) #[true, true, true, true, true, true, true, true, true, true, true, false, false, false, false] rfl rfl HT_.out HW_.out hHeld (Or.inl ⟨by rfl, by rintro w' ⟨s0, s1⟩; go_simp; with_reducible rfl⟩) ?_
              refine one_ (i := 11) (N := some 54) #[true, true, true, true, true, true, true, true, true, true, true, true, false, false, false] rfl rfl (one_of HT_.out (by kernel_rfl)) (by decide) (fun K hK => ?_)
              refine goes_ Try.func135 (by kernel_rfl) rfl #[.int .i64 a0, .int .i64 (rd x5_2 x9_3), .int .i64 (rd x5_2 (ji21))] (by rfl) rfl rfl (by (try simp only [List.map_toArray, List.map_cons, List.map_nil]); first | done | (simp only [hji21]; rfl) | rfl | (simp only [List.length_drop, List.length_take]; rfl)) ?_
              with_reducible refine (spec_NodeOf.calls k3 a0 (rd x5_2 x9_3) (rd x5_2 (ji21)) t493 _ A23.out).mono ?_
              rintro e w26 ⟨rfl, hb⟩
              have HS0_ := (hb.cell (World.block_lt_of_cell? _ _ (hHeld.1))).trans (hHeld.1)
              have HS1_ := (hb.cell (World.block_lt_of_cell? _ _ (hHeld.2))).trans (hHeld.2)
              refine ⟨_, rfl, ?_⟩
              have n0_ := am (Kd.R_below (mv HO_5.out) hb)
              have n1_ := am (Kd.N_below (mv HO_7.out) hb)
              have n2_ := am (Kd.R_below (mv HO_8.out) hb)
              have n3_ := am (below_step (bt) hb)
              clear HO_5
              clear HO_7
              clear HO_8
              clear HB
              have HO_5 := n0_
              have HO_7 := n1_
              have HO_8 := n2_
              have HB := n3_
              clear n0_ n1_ n2_ n3_
              (try clear hb)
              (try clear hb2)
              (try clear hk)
              (try clear hi)
              refine hK.out _ _ ⟨HS0_, HS1_⟩ (fun hHeld => ?_)
              clear hK K
              refine nz (N := some 54) ?_
              refine last_ (i := 12) (N := some 55) #[true, true, true, true, true, true, true, true, true, true, true, true, true, false, false] rfl rfl (one_of HT_.out (by kernel_rfl)) (by decide) (fun K hK => ?_)
              refine value_ (w1 := ?_) (v := ?_) (by rfl) rfl ?_ ?_
              rotate_left 2
              ·go_simp
               constructor
               ·rfl
               ·rfl
              refine hK.out _ _ ?_
              clear hK K
              refine nz (N := some 55) ?_
              refine last_ (i := 13) (N := some 56) #[true, true, true, true, true, true, true, true, true, true, true, true, true, true, false] rfl rfl (one_of HT_.out (by kernel_rfl)) (by decide) (fun K hK => ?_)
              refine Kd.R_append_step (Kd.int .i64) (w0 := w) w.heap.size (by rfl) (.tmp 43) (.tmp 55) 29 3 (.int .i64 0) 8 rfl Try.underlying29 info3 rfl (by decide) (by omega) u8 x8_3 t493 [.int .i64 t493] (fun k_ => (w.heap.size ≤ k_) ∧ nb k_ (.slice (some ad491) x5_2.length co15)) (fun _ => False) rfl rfl ?aP (fun _ hk => hk.elim) ?aF ?aO ?aB ?aS ?aL ?_
              (case aP => exact rfl)
              (case aB => exact (bt))
              (case aF => exact (fun k_ hk => ⟨(Nat.le_trans (below_size (bt)) hk), Kd.fresh' (Kd.R_lt (mv HO_5.out)) k_ hk⟩))
              (case aO => exact (mv HO_8.out))
              (case aS => exact (below_size (bt)))
              (case aL => have := LMc24.out; omega)
              intro v495 w27 ho hb hg hat
              rw [← Ny494.out] at ho
              have n0_ := am (Kd.R_after (ok := (fun k_ => (w.heap.size ≤ k_))) (mv HO_5.out) hg hat)
              have n1_ := am (Kd.N_afterv (ok := (fun k_ => (w.heap.size ≤ k_))) (mv HO_7.out) hg hat)
              have n2_ := am (hb)
              have n3_ := am (ho)
              clear HO_5
              clear HO_7
              clear HB
              clear HO_8
              have HO_5 := n0_
              have HO_7 := n1_
              have HB := n2_
              have HO496 := n3_
              clear n0_ n1_ n2_ n3_
              clear ho hb hg hat
              refine hK.out _ _ ?_
              clear hK K
              refine nz (N := some 56) ?_
              refine pz (i := 14) (N := some 8) #[true, true, true, true, true, true, true, true, true, true, true, true, true, true, true] rfl rfl HT_.out ?_
              refine done_ (done_of HT_.out (by kernel_rfl)) ?_
              (try simp only [Dig.setCell_drewN])
              try go_wp2
              go_roundg k3
              case measure => have := HK1.out; have := HK2.out; have := HK3.out; omega
              case rel => exact ⟨(y494), (wrap64 (x9_3 + 2)), e0, H', ⟨by have := HK1.out; have := HK2.out; have := HK3.out; omega⟩, ⟨mv HO_5.out⟩, ⟨mv HO_7.out⟩, ⟨mv HO496.out⟩, ⟨bt⟩⟩
             ·exact nh c24 H
            ·exact nh c22 H
           ·exact nh c20 H
          ·rw [if_neg c19] at H
           have c19b0 : decide ((wrap64 (x9_3 + 1)) < (x5_2.length : Int)) = false := decide_eq_false c19
           clear c19
           by_cases c28 : 0 ≤ x9_3
           ·rw [if_pos c28] at H
            have c28b0 : decide (0 ≤ x9_3) = true := decide_eq_true c28
            clear c28
            by_cases c29 : x8_3.length < 17592186044416
            ·rw [if_pos c29] at H
             have LMc29 := am c29
             clear c29
             obtain ⟨y498, hy498⟩ : ∃ y_ : List Int, y_ = (x8_3 ++ [rd x5_2 x9_3]) := ⟨_, rfl⟩
             replace H : (spec_l2Levels.l2 k3 a0 x5_2 x7_2 y498 (wrap64 (x9_3 + 2))) = some r := by first | (rw [hy498]; exact H) | exact H
             have Ny498 := am hy498
             clear hy498
             have H' := am H
             clear H
             have p497 : 0 ≤ (x9_3 : Int) := of_decide_eq_true asm
             have q497 : x9_3 < (x5_2.length : Int) := of_decide_eq_true asm
             obtain ⟨ad497, e497, hx497_0⟩ := Kd.at_int (Kd.R_reads' HO_5.out).2.2 x9_3 p497 q497
             cases e497
             replace p497 := eq_true p497
             replace q497 := eq_true q497
             go_wp2_with (first | ((with_reducible refine gate_builtin (b := .append) (xs := #[.tmp 57, .tmp 62]) rfl ?_); at_builtin; refine Kd.R_append (Kd.int .i64) (w0 := w) w.heap.size rfl (.tmp 57) (.tmp 62) 29 3 (.int .i64 0) 8 rfl Try.underlying29 info3 rfl (by decide) (by omega) u8 x8_3 (rd x5_2 x9_3) [.int .i64 (rd x5_2 x9_3)] (fun k_ => (w.heap.size ≤ k_) ∧ nb k_ (.slice (some ad497) x5_2.length co15)) (fun _ => False) rfl rfl ?aP (fun _ hk => hk.elim) ?aF ?aO ?aB ?aS ?aL ?_; (case aP => exact rfl); (case aB => exact (bt)); (case aF => exact (fun k_ hk => ⟨(Nat.le_trans (below_size (bt)) hk), Kd.fresh' (Kd.R_lt (mv HO_5.out)) k_ hk⟩)); (case aO => exact (mv HO_8.out)); (case aS => exact (below_size (bt))); (case aL => have := LMc29.out; omega); intro v499 w30 ho hb hg hat; rw [← Ny498.out] at ho; replace HO_5 := am (Kd.R_after (ok := (fun k_ => (w.heap.size ≤ k_))) (mv HO_5.out) hg hat); replace HO_7 := am (Kd.N_afterv (ok := (fun k_ => (w.heap.size ≤ k_))) (mv HO_7.out) hg hat); replace HB := am (hb); have HO500 := am (ho); clear HO_8; clear ho hb hg hat))
             go_roundg k3
             case measure => have := HK1.out; have := HK2.out; have := HK3.out; omega
             case rel => exact ⟨(y498), (wrap64 (x9_3 + 2)), e0, H', ⟨by have := HK1.out; have := HK2.out; have := HK3.out; omega⟩, ⟨mv HO_5.out⟩, ⟨mv HO_7.out⟩, ⟨mv HO500.out⟩, ⟨bt⟩⟩
            ·exact nh c29 H
           ·exact nh c28 H
         ·rw [if_neg c18] at H
          have c18b0 : decide (x9_3 < (x5_2.length : Int)) = false := decide_eq_false c18
          clear c18
          by_cases c31 : x7_2.length < 5864062014805
          ·rw [if_pos c31] at H
           have LMc31 := am c31
           clear c31
           obtain ⟨y501, hy501⟩ : ∃ y_ : List (List Int), y_ = (x7_2 ++ [x8_3]) := ⟨_, rfl⟩
           replace H : (spec_l2Levels.l1 k3 a0 x8_3 y501) = some r := by first | (rw [hy501]; exact H) | exact H
           have Ny501 := am hy501
           clear hy501
           have H' := am H
           clear H
           obtain ⟨Ao33, co33, eo33⟩ := Kd.R_slice HO_8.out
           subst eo33
           go_wp2_with (first | ((with_reducible refine gate_builtin (b := .append) (xs := #[.tmp 64, .tmp 66]) rfl ?_); at_builtin; refine Kd.N_append (Kd.slice 3 (Kd.int .i64)) (w0 := w) w.heap.size rfl (.tmp 64) (.tmp 66) 107 29 (.slice none 0 0) 24 rfl Try.underlying107 info29 rfl (by decide) (by omega) u7 x7_2 x8_3 [.slice Ao33 x8_3.length co33] (fun k_ => (w.heap.size ≤ k_)) (fun k_ => ((fun k_ => (w.heap.size ≤ k_))) k_ ∧ nb k_ u7) rfl rfl ?aP (fun _ hk => hk) ?aF ?aO ?aB ?aS ?aL ?_; (case aP => exact (fkR (Kd.R_mono (ok' := (fun k_ => ((fun k_ => (w.heap.size ≤ k_))) k_ ∧ nb k_ u7)) (Kd.R_apart' (HO_8.out) (Kd.N_typed HO_7.out) (by decide)) (fun k_ hk => ⟨hk.1.1, hk.2⟩)))); (case aB => exact (bt)); (case aF => exact (fun k_ hk => (Nat.le_trans (below_size (bt)) hk))); (case aO => exact (rN (h := by exact Kd.N_mono HO_7.out (fun _ hk => hk.1)))); (case aS => exact (below_size (bt))); (case aL => have := LMc31.out; omega); intro v502 w32 ho hb hg hat; rw [← Ny501.out] at ho; have n0_ := am (Kd.R_over' (mv HO_5.out) (Kd.N_typed (mv HO_7.out)) (by decide) hg); have n1_ := am (hb); have n2_ := am (ho); have nk_ := am (Kd.R_over' (mv HO_8.out) (Kd.N_typed HO_7.out) (by decide) hg); clear HO_5; clear HB; clear HO_7; clear HO_8; have HO_8 := nk_; clear nk_; have HO_5 := n0_; have HB := n1_; have HO503 := n2_; clear n0_ n1_ n2_; clear ho hb hg hat))
           go_roundg k3
           case measure => have := HK1.out; have := HK2.out; have := HK3.out; omega
           case rel => exact ⟨(x8_3), (y501), H', ⟨by have := HK1.out; have := HK2.out; have := HK3.out; omega⟩, ⟨rR (h := by exact Kd.R_mono HO_8.out (fun _ hk => hk.1))⟩, ⟨mv HO503.out⟩, ⟨bt⟩⟩
          ·exact nh c31 H
      ·rw [if_neg c14] at H
       have c14b0 : decide (1 < (x5_2.length : Int)) = false := decide_eq_false c14
       have c14b1 : decide (1 < x5_2.length) = false := decide_eq_false (by omega)
       clear c14
       obtain rfl := Option.some.inj H
       obtain ⟨Ao34, co34, eo34⟩ := Kd.R_slice HO_5.out
       subst eo34
       go_wp2
       go_ret
       exact ⟨_, by first | rfl | (simp [errW_none, errW_some] <;> rfl) | (simp [*, errW_none, errW_some] <;> rfl), rN (h := by exact HO_7.out), bt⟩

/-! ### spec_l2Top: function 113 -/
def spec_l2Top.f (k : Nat) (a0 : Int) (a1 : Int) : Option (List Int) := (some (([2, (a0) % 256] : List Int) : List Int)).bind fun y504 => ((spec_Eight.f k a1).bind fun t507 => (if y504.length + t507.length < 140737488355328 then (some (y504 ++ t507)) else (none)))
theorem spec_l2Top.calls (k : Nat) (a0 : Int) (a1 : Int) (r : List Int) (w : World) (h : spec_l2Top.f k a0 a1 = some r) :
  Calls Try.prog 113 #[.int .i64 a0, .int .i64 a1] w fun e w' => ∃ v0_ : Value, e = .returned (v0_) ∧ Kd.R (Kd.int .u8) 5 w' w.heap.size (fun _ => True) v0_ r ∧ Below w.heap.size w w' := by
 have HB := am (Below.refl w.heap.size w)
 have H : ((some (([2, (a0) % 256] : List Int) : List Int)).bind fun y504 => ((spec_Eight.f k a1).bind fun t507 => (if y504.length + t507.length < 140737488355328 then (some (y504 ++ t507)) else (none)))) = some r := h
 clear h
 obtain ⟨y504, hy504⟩ : ∃ y_ : List Int, y_ = (([2, (a0) % 256] : List Int)) := ⟨_, rfl⟩
 replace H : ((spec_Eight.f k a1).bind fun t507 => (if y504.length + t507.length < 140737488355328 then (some (y504 ++ t507)) else (none))) = some r := by first | (rw [hy504]; exact H) | exact H
 have Ny504 := am hy504
 clear hy504
 obtain ⟨t507, A3, H⟩ := bm H
 (try dsimp -simprocs only at H)
 by_cases c4 : y504.length + t507.length < 140737488355328
 ·rw [if_pos c4] at H
  have LMc4 := am c4
  clear c4
  obtain ⟨y510, hy510⟩ : ∃ y_ : List Int, y_ = (y504 ++ t507) := ⟨_, rfl⟩
  replace H : (some y510) = some r := by first | (rw [hy510]; exact H) | exact H
  have Ny510 := am hy510
  clear hy510
  obtain rfl := Option.some.inj H
  go_enter Try.func113, Try.ntmps113
  go_wp2_with (first | ((with_reducible refine gate_dst (N := 7) rfl ?_); refine Kd.R_lit (Kd.int .u8) _ 5 ?hg (N := 7) ?hd (xs := ([2, (a0) % 256] : List Int)) (inner := [.int .u8 2, .int .u8 ((a0) % 256)]) (ok := fun _ => True) (okp := fun _ => True) ?hr ?hp (fun _ hk => hk) trivial (Below.refl _ _) (Nat.le_refl _) (by simp) ?_; (case hd => rfl); (case hg => rfl); (case hr => first | (go_simp; done) | (go_simp; rfl)); (case hp => exact (Reps.one (show Kd.M (Kd.int .u8) _ _ _ 2 [.int .u8 2] from rfl) (Reps.one (show Kd.M (Kd.int .u8) _ _ _ ((a0) % 256) [.int .u8 ((a0) % 256)] from rfl) (Reps.none _ _)))); intro v505 w5 ho6 hb hg_ hnew_; clear hg_ hnew_; (first | rw [← Ny504.out] at ho6 | (simp only [Int.reduceToNat] at ho6; rw [← Ny504.out] at ho6)); have HO506 := am (Kd.R_lower ho6 (below_size (bt))); replace HB := am (below_step (bt) hb); clear hb ho6) | ((with_reducible refine gate_callee (f := 138) rfl ?_); refine goesL_ (some 9) rfl rfl Try.func138 (by kernel_rfl) rfl #[.int .i64 a1] rfl av ?_; (with_reducible refine (spec_Eight.calls k a1 t507 _ A3.out).mono ?_); rintro e w7 ⟨v508, rfl, ho0, hb⟩; refine ⟨_, rfl, ?_⟩; have HO509 := am (Kd.R_lower (Kd.R_new' ho0 (Kd.R_lt (mv HO506.out))) (below_size (bt))); replace HO506 := am (Kd.R_elder' (mv HO506.out) (Kd.R_base ho0) hb); replace HB := am (below_step (bt) hb); (try clear hb); (try clear hb2); (try clear hk); (try clear hi); (try clear ho0); obtain ⟨Ao9, co9, eo9⟩ := Kd.R_slice HO509.out; subst eo9) | ((with_reducible refine gate_builtin (b := .append) (xs := #[.tmp 7, .tmp 9]) rfl ?_); at_builtin; refine Kd.R_append_rows (Kd.int .u8) (w0 := w) w.heap.size rfl (.tmp 7) (.tmp 9) 22 5 (.int .u8 0) 1 rfl Try.underlying22 info5 rfl (by decide) (by omega) v505 y504 t507 _ _ _ (fun k_ => nb k_ (.slice Ao9 t507.length co9)) (fun _ => False) rfl rfl ?aO ?aR (fun _ _ h => h) (fun _ h => h.elim) ?aF ?aB ?aS ?aL ?_; (case aR => exact cv ((Kd.R_reads' HO509.out).2.2)); (case aB => exact (bt)); (case aF => exact (fun k_ hk => Kd.fresh' (Kd.R_lt (mv HO509.out)) k_ hk)); (case aO => exact (rR (h := by exact Kd.R_mono HO506.out (fun _ hk => hk.2)))); (case aS => exact (below_size (bt))); (case aL => have := LMc4.out; omega); intro v511 w8 ho hb hg hat; rw [← Ny510.out] at ho; replace HO509 := am (Kd.R_after (ok := (fun _ => True)) (mv HO509.out) hg hat); replace HB := am (hb); have HO512 := am (ho); clear HO506; clear ho hb hg hat))
  go_ret
  exact ⟨_, by first | rfl | (simp [errW_none, errW_some] <;> rfl) | (simp [*, errW_none, errW_some] <;> rfl), rR (h := by exact Kd.R_mono HO512.out (fun _ hk => trivial)), bt⟩
 ·exact nh c4 H

/-! ### spec_TreeRoot: function 73 -/
def spec_TreeRoot.f (k : Nat) (a0 : Int) (l1 : List (List Int)) : Option (Int) := (spec_l2Leaves.f k a0 l1).bind fun t513 => (if t513 = true then ((spec_l2Levels.f k a0 l1).bind fun t514 => (if 0 ≤ (wrap64 ((t514.length : Int) - 1)) then (if (wrap64 ((t514.length : Int) - 1)) < (t514.length : Int) then (if 0 < ((rd_L3 t514 (wrap64 ((t514.length : Int) - 1))).length : Int) then ((spec_l2Top.f k (l1.length : Int) (rd (rd_L3 t514 (wrap64 ((t514.length : Int) - 1))) 0)).bind fun t519 => ((spec_Digest.f k a0 t519).bind fun t522 => (some t522))) else (none)) else (none)) else (none))) else (some (-1)))
theorem spec_TreeRoot.calls (k : Nat) (a0 : Int) (A1 : Option Addr) (c1 : Nat) (l1 : List (List Int)) (r : Int) (w : World) (hr1 : Kd.C (Kd.slice 5 (Kd.int .u8)) w A1 l1.length l1) (hc1 : l1.length ≤ c1) (h : spec_TreeRoot.f k a0 l1 = some r) :
  Calls Try.prog 73 #[.int .i64 a0, .slice A1 l1.length c1] w fun e w' => e = .returned (.int .i64 r) ∧ Below w.heap.size w w' := by
 have HR1 := am hr1
 have HC1 := am hc1
 clear hr1 hc1
 have HB := am (Below.refl w.heap.size w)
 have H : ((spec_l2Leaves.f k a0 l1).bind fun t513 => (if t513 = true then ((spec_l2Levels.f k a0 l1).bind fun t514 => (if 0 ≤ (wrap64 ((t514.length : Int) - 1)) then (if (wrap64 ((t514.length : Int) - 1)) < (t514.length : Int) then (if 0 < ((rd_L3 t514 (wrap64 ((t514.length : Int) - 1))).length : Int) then ((spec_l2Top.f k (l1.length : Int) (rd (rd_L3 t514 (wrap64 ((t514.length : Int) - 1))) 0)).bind fun t519 => ((spec_Digest.f k a0 t519).bind fun t522 => (some t522))) else (none)) else (none)) else (none))) else (some (-1)))) = some r := h
 clear h
 obtain ⟨t513, A3, H⟩ := bm H
 (try dsimp -simprocs only at H)
 by_cases c4 : t513 = true
 ·subst c4
  rw [if_pos rfl] at H
  obtain ⟨t514, A5, H⟩ := bm H
  (try dsimp -simprocs only at H)
  obtain ⟨ji6, hji6⟩ : ∃ j_ : Int, (wrap64 ((t514.length : Int) - 1)) = j_ := ⟨_, rfl⟩
  replace H : (if 0 ≤ (ji6) then (if (ji6) < (t514.length : Int) then (if 0 < ((rd_L3 t514 (ji6)).length : Int) then ((spec_l2Top.f k (l1.length : Int) (rd (rd_L3 t514 (ji6)) 0)).bind fun t519 => ((spec_Digest.f k a0 t519).bind fun t522 => (some t522))) else (none)) else (none)) else (none)) = some r := by first | (rw [hji6] at H; exact H) | (simp only [hji6] at H ⊢; exact H)
  (try rw [hji6] at A3)
  (try rw [hji6] at A5)
  have hji6w : (IntKind.i64.wrap ((t514.length : Int) - 1)) = ji6 := (i64_w _).trans hji6
  by_cases c7 : 0 ≤ (ji6)
  ·rw [if_pos c7] at H
   have c7b0 : decide (0 ≤ (ji6)) = true := decide_eq_true c7
   clear c7
   by_cases c8 : (ji6) < (t514.length : Int)
   ·rw [if_pos c8] at H
    have c8b0 : decide ((ji6) < (t514.length : Int)) = true := decide_eq_true c8
    clear c8
    by_cases c9 : 0 < ((rd_L3 t514 (ji6)).length : Int)
    ·rw [if_pos c9] at H
     have c9b0 : decide (0 < ((rd_L3 t514 (ji6)).length : Int)) = true := decide_eq_true c9
     have c9b1 : decide (0 < (rd_L3 t514 (ji6)).length) = true := decide_eq_true (by omega)
     clear c9
     obtain ⟨t519, A10, H⟩ := bm H
     (try dsimp -simprocs only at H)
     obtain ⟨t522, A11, H⟩ := bm H
     (try dsimp -simprocs only at H)
     obtain rfl := Option.some.inj H
     go_enter Try.func73, Try.ntmps73
     go_wp2_with (first | ((with_reducible refine gate_callee (f := 110) rfl ?_); refine goesL_ (some 8) rfl rfl Try.func110 (by kernel_rfl) rfl #[.int .i64 a0, .slice A1 l1.length c1] rfl av ?_; (with_reducible refine (spec_l2Leaves.calls k a0 _ _ l1 true _ ?side1 ?side2 A3.out).mono ?_); (case side1 => exact cv (HR1.out)); (case side2 => exact HC1.out); rintro e w' ⟨rfl, ⟨nd, rfl⟩⟩; refine ⟨_, rfl, ?_⟩) | ((with_reducible refine gate_callee (f := 111) rfl ?_); refine goesL_ (some 12) rfl rfl Try.func111 (by kernel_rfl) rfl #[.int .i64 a0, .slice A1 l1.length c1] rfl av ?_; (with_reducible refine (spec_l2Levels.calls k a0 _ _ l1 t514 _ ?side1 ?side2 A5.out).mono ?_); (case side1 => exact cv (HR1.out)); (case side2 => exact HC1.out); rintro e w12 ⟨v515, rfl, ho0, hb⟩; refine ⟨_, rfl, ?_⟩; have HO516 := am (Kd.N_lower (Kd.N_mono (ok' := fun k_ => True) ho0 (fun k_ hk_ => trivial)) (below_size (bt))); replace HB := am (below_step (bt) hb); (try clear hb); (try clear hb2); (try clear hk); (try clear hi); (try clear ho0); obtain ⟨Ao13, co13, eo13⟩ := Kd.N_slice HO516.out; subst eo13; have p517 : 0 ≤ ((ji6) : Int) := of_decide_eq_true asm; have q517 : (ji6) < (t514.length : Int) := of_decide_eq_true asm; obtain ⟨ad517, A517_0, c517_0, e517, hx517_0, hl517_0, hi517_0⟩ := at_L3 (Kd.N_reads' HO516.out).2.2 (ji6) p517 q517; cases e517; obtain ⟨ce517, hce517, hMe517, hcc517⟩ := Kd.N_get HO516.out [] (ji6) p517 (by first | exact q517 | exact of_decide_eq_true asm | (have e_ := (Kd.N_reads' HO516.out).1; omega)); obtain ⟨ua517_0, uc517_0, rfl, ul517_0, ge517_0⟩ := Kd.FK_slice_open hMe517; have hv517_0 := hcc517 0 _ rfl; rw [Nat.add_zero, show ((Kd.slice 3 (Kd.int .i64))).sz = 1 from rfl, Nat.mul_one] at hv517_0; replace hv517_0 := Option.some.inj (hv517_0.symm.trans hx517_0); injection hv517_0 with hva_ hvn_ hvc_; rw [hva_] at ge517_0; rw [hvc_] at ul517_0; have HL517_0 := am (show Kd.V (Kd.int .i64) 3 _ w.heap.size _ _ (rd_L3 t514 (ji6)) from Kd.V_mk ul517_0 ge517_0); clear hva_ hvn_ hvc_ ge517_0 ul517_0; clear hcc517 hce517; have HR517_0 := am hi517_0; have HC517_0 := am hl517_0; clear hi517_0 hl517_0; replace p517 := eq_true p517; replace q517 := eq_true q517; have p518 : 0 ≤ (0 : Int) := (by omega); have q518 : 0 < ((rd_L3 t514 (ji6)).length : Int) := of_decide_eq_true asm; obtain ⟨ad518, e518, hx518_0⟩ := Kd.at_int (cv HR517_0.out) 0 p518 q518; cases e518; have qi518 : (0 < (rd_L3 t514 (ji6)).length) = True := eq_true (by omega); (try rw [show ((0 : Int)).toNat = 0 from rfl] at hx518_0); (try rw [Addr.add_zero'] at hx518_0); replace p518 := eq_true p518; replace q518 := eq_true q518) | ((with_reducible refine gate_callee (f := 113) rfl ?_); refine goesL_ (some 24) rfl rfl Try.func113 (by kernel_rfl) rfl #[.int .i64 (l1.length : Int), .int .i64 (rd (rd_L3 t514 (ji6)) 0)] rfl (by (try simp only [List.map_toArray, List.map_cons, List.map_nil]); first | done | (simp only [hji6]; rfl) | rfl | (simp only [List.length_drop, List.length_take]; rfl)) ?_; (with_reducible refine (spec_l2Top.calls k (l1.length : Int) (rd (rd_L3 t514 (ji6)) 0) t519 _ A10.out).mono ?_); rintro e w14 ⟨v520, rfl, ho0, hb⟩; refine ⟨_, rfl, ?_⟩; replace HO516 := am (Kd.N_elder' (mv HO516.out) (Kd.R_base ho0) hb); replace HL517_0 := am (Kd.V_elder' (mv HL517_0.out) (Kd.R_base ho0) hb); have HO521 := am (Kd.R_lower ho0 (below_size (bt))); replace HR517_0 := am (Kd.C_below (cv HR517_0.out) hb); replace HB := am (below_step (bt) hb); (try clear hb); (try clear hb2); (try clear hk); (try clear hi); (try clear ho0); obtain ⟨Ao15, co15, eo15⟩ := Kd.R_slice HO521.out; subst eo15) | ((with_reducible refine gate_callee (f := 112) rfl ?_); refine goesL_ (some 25) rfl rfl Try.func112 (by kernel_rfl) rfl #[.int .i64 a0, .slice Ao15 t519.length co15] rfl av ?_; (with_reducible refine (spec_Digest.calls k a0 _ _ t519 t522 _ ?side1 ?side2 A11.out).mono ?_); (case side1 => exact cv ((Kd.R_reads' HO521.out).2.2)); (case side2 => exact (Kd.R_reads' HO521.out).2.1); rintro e w16 ⟨rfl, hb⟩; refine ⟨_, rfl, ?_⟩; replace HO516 := am (Kd.N_below (mv HO516.out) hb); replace HL517_0 := am (Kd.V_below (mv HL517_0.out) hb); replace HO521 := am (Kd.R_below (mv HO521.out) hb); replace HR517_0 := am (Kd.C_below (cv HR517_0.out) hb); replace HB := am (below_step (bt) hb); (try clear hb); (try clear hb2); (try clear hk); (try clear hi)))
     go_ret
     exact ⟨by first | rfl | (simp [errW_none, errW_some] <;> rfl) | (simp only [← hji6]; first | rfl | (simp [errW_none, errW_some] <;> rfl)) | (simp [*, errW_none, errW_some] <;> rfl), bt⟩
    ·exact nh c9 H
   ·exact nh c8 H
  ·exact nh c7 H
 ·replace c4 := Bool.eq_false_iff.mpr c4
  subst c4
  rw [if_neg nft] at H
  obtain rfl := Option.some.inj H
  go_enter Try.func73, Try.ntmps73
  go_wp2_with (first | ((with_reducible refine gate_callee (f := 110) rfl ?_); refine goesL_ (some 8) rfl rfl Try.func110 (by kernel_rfl) rfl #[.int .i64 a0, .slice A1 l1.length c1] rfl av ?_; (with_reducible refine (spec_l2Leaves.calls k a0 _ _ l1 false _ ?side1 ?side2 A3.out).mono ?_); (case side1 => exact cv (HR1.out)); (case side2 => exact HC1.out); rintro e w' ⟨rfl, ⟨nd, rfl⟩⟩; refine ⟨_, rfl, ?_⟩))
  go_ret
  exact ⟨by first | rfl | (simp [errW_none, errW_some] <;> rfl) | (simp [*, errW_none, errW_some] <;> rfl), bt⟩

/-! ### spec_l1Same: function 75 -/
def spec_l1Same.f (l0 : List Int) (l1 : List Int) : Option (Bool) := some ((strOfNums l0).toList == (strOfNums l1).toList)
theorem spec_l1Same.calls (A0 : Option Addr) (c0 : Nat) (l0 : List Int) (A1 : Option Addr) (c1 : Nat) (l1 : List Int) (r : Bool) (w : World) (hr0 : Kd.C (Kd.int .u8) w A0 l0.length l0) (hc0 : l0.length ≤ c0) (hr1 : Kd.C (Kd.int .u8) w A1 l1.length l1) (hc1 : l1.length ≤ c1) (h : spec_l1Same.f l0 l1 = some r) :
  Calls Try.prog 75 #[.slice A0 l0.length c0, .slice A1 l1.length c1] w fun e w' => e = .returned (.bool r) ∧ Drawn0 w w' := by
 have HR0 := am hr0
 have HC0 := am hc0
 clear hr0 hc0
 have HR1 := am hr1
 have HC1 := am hc1
 clear hr1 hc1
 have H : (some ((strOfNums l0).toList == (strOfNums l1).toList)) = some r := h
 clear h
 obtain rfl := Option.some.inj H
 have hcv3 := Kd.C_string (P := Try.prog) (A := A0) (c := c0) Try.underlying22 Try.underlying5 Try.underlying9 HR0.out
 have hcv4 := Kd.C_string (P := Try.prog) (A := A1) (c := c1) Try.underlying22 Try.underlying5 Try.underlying9 HR1.out
 go_enter Try.func75, Try.ntmps75
 go_wp2
 go_ret
 exact ⟨e0, by repeat (first | exact Drawn0.refl _ | apply Drawn0.step)⟩

end Go.Proofs.Ytchjajbkaiefdaa.PFnMany
