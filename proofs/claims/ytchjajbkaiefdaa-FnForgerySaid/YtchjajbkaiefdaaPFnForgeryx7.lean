-- Written by a program of this workplace (wip/mp.py) out of the translation.
import Derived.Test.YtchjajbkaiefdaaPFnForgeryx0
import Derived.Test.YtchjajbkaiefdaaPFnForgeryx4
import Derived.Test.YtchjajbkaiefdaaPFnForgeryx5
import Derived.Test.YtchjajbkaiefdaaPFnForgeryx6
namespace Go.Proofs.Ytchjajbkaiefdaa.PFnForgery
open Go.RowKit Go.Proofs.YtchjajbkaiefdaaW.PrintWords Go.Proofs.YtchjajbkaiefdaaW.PrintLast Go.Proofs.YtchjajbkaiefdaaW.PrintMore Go.Proofs.Ytchjajbkaiefdaa.Slim
attribute [local go_sem] max2_int min2_int max_two min_two max_three min_three max_four min_four   -- for this text's walks alone
set_option linter.unusedVariables false
set_option linter.unusedSimpArgs false

/-! ### spec_l2Levels: function 111 -/
mutual
def spec_l2Levels.l0 : Nat → Int → List (List Int) → List Int → Int → Option ((List (List Int)))
 | 0, _, _, _, _ => none
 | k + 1, x0, x1, x5, x6 => if x6 < (x1.length : Int) then (if 0 ≤ x6 then ((spec_LeafOf.f k x0 (rd_L1 x1 x6)).bind fun t341 => (if x5.length < 17592186044416 then (spec_l2Levels.l0 k x0 x1 (x5 ++ [t341]) (wrap64 (x6 + 1))) else (none))) else (none)) else (spec_l2Levels.l1 k x0 x5 (([x5] : List (List Int))))
def spec_l2Levels.l1 : Nat → Int → List Int → List (List Int) → Option ((List (List Int)))
 | 0, _, _, _ => none
 | k + 1, x0, x5, x7 => if (x5.length : Int) > 1 then (spec_l2Levels.l2 k x0 x5 x7 (([] : List Int)) 0) else (some x7)
def spec_l2Levels.l2 : Nat → Int → List Int → List (List Int) → List Int → Int → Option ((List (List Int)))
 | 0, _, _, _, _, _ => none
 | k + 1, x0, x5, x7, x8, x9 => if x9 < (x5.length : Int) then (if (wrap64 (x9 + 1)) < (x5.length : Int) then (if 0 ≤ x9 then (if 0 ≤ (wrap64 (x9 + 1)) then ((spec_NodeOf.f k x0 (rd x5 x9) (rd x5 (wrap64 (x9 + 1)))).bind fun t353 => (if x8.length < 17592186044416 then (spec_l2Levels.l2 k x0 x5 x7 (x8 ++ [t353]) (wrap64 (x9 + 2))) else (none))) else (none)) else (none)) else (if 0 ≤ x9 then (if x8.length < 17592186044416 then (spec_l2Levels.l2 k x0 x5 x7 (x8 ++ [rd x5 x9]) (wrap64 (x9 + 2))) else (none)) else (none))) else (if x7.length < 5864062014805 then (spec_l2Levels.l1 k x0 x8 (x7 ++ [x8])) else (none))
end
def spec_l2Levels.f (k : Nat) (a0 : Int) (l1 : List (List Int)) : Option ((List (List Int))) := spec_l2Levels.l0 k a0 l1 (([] : List Int)) 0
def spec_l2Levels.T13 : Bool × List (List Nat × List Nat) := (true, [([], []), ([], []), ([], []), ([], []), ([2, 3], [2, 3]), ([4], [4]), ([], []), ([], []), ([7], [7]), ([6, 8], [6, 8]), ([9], [9]), ([1, 5, 10], [1, 5, 10]), ([11], [11]), ([0, 12, 11], [0, 12]), ([13, 13, 0, 1, 2, 3, 4, 5, 6, 7, 8, 9, 10, 11, 12, 13], [0, 13])])
def spec_l2Levels.B13 : List Nat := [0, 0, 0, 0, 12, 28, 0, 0, 128, 448, 960, 2046, 4094, 8191, 16383]
theorem spec_l2Levels.tab13 : rtab .any (opsOf Try.f111 13) = spec_l2Levels.T13 := by kernel_rfl
theorem spec_l2Levels.bits13 : waitsOk spec_l2Levels.T13.2 spec_l2Levels.B13 = true := by kernel_rfl
set_option maxHeartbeats 8000000 in
set_option maxRecDepth 100000 in
theorem spec_l2Levels.calls (k : Nat) (a0 : Int) (A1 : Option Addr) (c1 : Nat) (l1 : List (List Int)) (r : List (List Int)) (w : World) (hr1 : Kd.C (Kd.slice 5 (Kd.int .u8)) w A1 l1.length l1) (hc1 : l1.length ≤ c1) (h : spec_l2Levels.f k a0 l1 = some r) :
  Calls Try.prog 111 #[.int .i64 a0, .slice A1 l1.length c1] w fun e w' => ∃ v0_ : Value, e = .returned (v0_) ∧ Kd.N (Kd.slice 3 (Kd.int .i64)) 29 w' w.heap.size (fun k_ => (w.heap.size ≤ k_)) v0_ r ∧ Below w.heap.size w w' := by
 have HR1 := am hr1
 have HC1 := am hc1
 clear hr1 hc1
 have HB := am (Below.refl w.heap.size w)
 have H : (spec_l2Levels.l0 k a0 l1 (([] : List Int)) 0) = some r := h
 clear h
 obtain ⟨y337, hy337⟩ : ∃ y_ : List Int, y_ = (([] : List Int)) := ⟨_, rfl⟩
 replace H : (spec_l2Levels.l0 k a0 l1 y337 0) = some r := by first | (rw [hy337]; exact H) | exact H
 have Ny337 := am hy337
 clear hy337
 have H' := am H
 clear H
 go_enter Try.func111, Try.ntmps111
 go_wp2_with (first | ((with_reducible refine gate_dst (N := 10) rfl ?_); refine Kd.R_lit (Kd.int .i64) _ 3 ?hg (N := 10) ?hd (xs := ([] : List Int)) (inner := []) (ok := fun _ => True) (okp := fun _ => True) ?hr ?hp (fun _ hk => hk) trivial (Below.refl _ _) (Nat.le_refl _) (by simp) ?_; (case hd => rfl); (case hg => rfl); (case hr => first | (go_simp; done) | (go_simp; rfl)); (case hp => exact (Reps.none _ _)); intro v338 w3 ho4 hb hg_ hnew_; clear hg_ hnew_; (first | rw [← Ny337.out] at ho4 | (simp only [Int.reduceToNat] at ho4; rw [← Ny337.out] at ho4)); have HO339 := am (Kd.R_lower (Kd.R_newM (M := fun k_ => (w.heap.size ≤ k_)) ho4 (below_size (bt)) (fun k_ h_ => h_)) (below_size (bt))); replace HB := am (below_step (bt) hb); clear hb ho4))
 go_loopg [5, 6] k (fun kq v5 v6 w' => ∃ (x5_1 : List Int) (x6_1 : Int), v6 = .int .i64 x6_1 ∧ Aside0 (spec_l2Levels.l0 kq a0 l1 x5_1 x6_1 = some r) ∧ Aside0 (kq ≤ k) ∧ Aside0 (Kd.R (Kd.int .i64) 3 w' w.heap.size (fun k_ => (w.heap.size ≤ k_)) v5 x5_1) ∧ Aside0 (Below w.heap.size w w'))
 case atStart => exact ⟨(y337), (0), (by first | rfl | (simp; done) | (simp [*]; done)), H', ⟨Nat.le_refl _⟩, ⟨by (with_reducible repeat (first | apply Kd.R_alloc | apply Kd.R_drewN | apply Kd.R_drew)); exact Kd.R_mono HO339.out (fun _ hk => hk.1)⟩, ⟨bt⟩⟩
 case round =>
  clear H'
  try clear c1
  try clear p2
  obtain ⟨x5_1, x6_1, rfl, HA, HK1, HO_5, HB⟩ := hrel
  cases gk with
  | zero => exact absurd HA.out (by simp [spec_l2Levels.l0])
  | succ k1 =>
   have H := HA.out
   clear HA
   simp only [spec_l2Levels.l0] at H
   by_cases c5 : x6_1 < (l1.length : Int)
   ·rw [if_pos c5] at H
    have c5b0 : decide (x6_1 < (l1.length : Int)) = true := decide_eq_true c5
    clear c5
    by_cases c6 : 0 ≤ x6_1
    ·rw [if_pos c6] at H
     have c6b0 : decide (0 ≤ x6_1) = true := decide_eq_true c6
     clear c6
     replace H := Option.bind_eq_some_iff.mp H
     obtain ⟨t341, A70, H⟩ := H
     (try dsimp -simprocs only at H)
     have A7 := am A70
     clear A70
     by_cases c8 : x5_1.length < 17592186044416
     ·rw [if_pos c8] at H
      have LMc8 := am c8
      clear c8
      obtain ⟨y342, hy342⟩ : ∃ y_ : List Int, y_ = (x5_1 ++ [t341]) := ⟨_, rfl⟩
      replace H : (spec_l2Levels.l0 k1 a0 l1 y342 (wrap64 (x6_1 + 1))) = some r := by first | (rw [hy342]; exact H) | exact H
      have Ny342 := am hy342
      clear hy342
      have H' := am H
      clear H
      have p340 : 0 ≤ (x6_1 : Int) := of_decide_eq_true asm
      have q340 : x6_1 < (l1.length : Int) := of_decide_eq_true asm
      obtain ⟨ad340, A340_0, c340_0, e340, hx340_0, hl340_0, hi340_0⟩ := at_L1 HR1.out x6_1 p340 q340
      cases e340
      replace hx340_0 := (HB.out.cell (World.block_lt_of_cell? w _ hx340_0)).trans hx340_0
      have HR340_0 := am hi340_0
      have HC340_0 := am hl340_0
      clear hi340_0 hl340_0
      replace p340 := eq_true p340
      replace q340 := eq_true q340
      go_wp2_with (first | ((with_reducible refine gate_callee (f := 117) rfl ?_); refine goesL_ (some 23) rfl rfl Try.func117 (by kernel_rfl) rfl #[.int .i64 a0, .slice A340_0 (rd_L1 l1 x6_1).length c340_0] rfl av ?_; (with_reducible refine (spec_LeafOf.calls k1 a0 _ _ (rd_L1 l1 x6_1) t341 _ ?side1 ?side2 A7.out).mono ?_); (case side1 => exact cv ((Kd.C_below HR340_0.out HB.out))); (case side2 => exact HC340_0.out); rintro e w9 ⟨rfl, hb⟩; refine ⟨_, rfl, ?_⟩; replace HO_5 := am (Kd.R_below (mv HO_5.out) hb); replace HB := am (below_step (bt) hb); (try clear hb); (try clear hb2); (try clear hk); (try clear hi)) | ((with_reducible refine gate_builtin (b := .append) (xs := #[.tmp 17, .tmp 24]) rfl ?_); at_builtin; refine Kd.R_append (Kd.int .i64) (w0 := w) w.heap.size rfl (.tmp 17) (.tmp 24) 29 3 (.int .i64 0) 8 rfl Try.underlying29 info3 rfl (by decide) (by omega) u5 x5_1 t341 [.int .i64 t341] (fun k_ => (w.heap.size ≤ k_)) (fun _ => False) rfl rfl ?aP (fun _ hk => hk.elim) ?aF ?aO ?aB ?aS ?aL ?_; (case aP => exact rfl); (case aB => exact (bt)); (case aF => exact (fun k_ hk => (Nat.le_trans (below_size (bt)) hk))); (case aO => exact (mv HO_5.out)); (case aS => exact (below_size (bt))); (case aL => have := LMc8.out; omega); intro v343 w10 ho hb hg hat; rw [← Ny342.out] at ho; replace HB := am (hb); have HO344 := am (ho); clear HO_5; clear ho hb hg hat))
      go_roundg k1
      case measure => have := HK1.out; omega
      case rel => exact ⟨(y342), (wrap64 (x6_1 + 1)), (by first | rfl | (simp; done) | (simp [*]; done)), H', ⟨by have := HK1.out; omega⟩, ⟨mv HO344.out⟩, ⟨bt⟩⟩
     ·rw [if_neg c8] at H
      exact absurd H (by simp)
    ·rw [if_neg c6] at H
     exact absurd H (by simp)
   ·rw [if_neg c5] at H
    have c5b0 : decide (x6_1 < (l1.length : Int)) = false := decide_eq_false c5
    clear c5
    obtain ⟨y345, hy345⟩ : ∃ y_ : List (List Int), y_ = (([x5_1] : List (List Int))) := ⟨_, rfl⟩
    replace H : (spec_l2Levels.l1 k1 a0 x5_1 y345) = some r := by first | (rw [hy345]; exact H) | exact H
    have Ny345 := am hy345
    clear hy345
    have H' := am H
    clear H
    obtain ⟨Ao11, co11, eo11⟩ := Kd.R_slice HO_5.out
    subst eo11
    go_wp2_with (first | ((with_reducible refine gate_dst (N := 27) rfl ?_); refine Kd.N_lit (Kd.slice 3 (Kd.int .i64)) _ 29 ?hg (N' := 27) ?hd (xs := ([x5_1] : List (List Int))) (inner := [.slice Ao11 x5_1.length co11]) (ok := (fun k_ => (w.heap.size ≤ k_))) (okp := (fun k_ => (w.heap.size ≤ k_))) ?hr ?hp (fun _ hk => hk) ((show ∀ k_, wr.heap.size ≤ k_ → (fun k_ => (w.heap.size ≤ k_)) k_ from fun k_ hk => (Nat.le_trans (below_size (bt)) hk)) _ (Nat.le_refl _)) (Below.refl _ _) (Nat.le_refl _) (by simp) ?_; (case hd => rfl); (case hg => rfl); (case hr => first | (go_simp; done) | (go_simp; rfl)); (case hp => exact (Reps.one (show Kd.FK (Kd.slice 3 (Kd.int .i64)) _ _ x5_1 [.slice Ao11 x5_1.length co11] from (Kd.FK_slice_mk (Kd.R_reads' (Kd.R_mono (ok' := (fun k_ => (w.heap.size ≤ k_))) (HO_5.out) (fun k_ hk => hk))).2.1 (Kd.R_F (Kd.R_mono (ok' := (fun k_ => (w.heap.size ≤ k_))) (HO_5.out) (fun k_ hk => hk))))) (Reps.none _ _))); intro v346 w12 ho13 hb hg_ hnew_; clear hg_ hnew_; (first | rw [← Ny345.out] at ho13 | (simp only [Int.reduceToNat] at ho13; rw [← Ny345.out] at ho13)); have n0_ := am (Kd.N_lower ho13 (below_size (bt))); have n1_ := am (below_step (bt) hb); have nk_ := am (Kd.R_below (mv HO_5.out) hb); clear HB; clear HO_5; have HO_5 := nk_; clear nk_; have HO347 := n0_; have HB := n1_; clear n0_ n1_; clear hb ho13))
    go_loopg [5, 7] k1 (fun kq v5 v7 w' => ∃ (x5_2 : List Int) (x7_2 : List (List Int)), Aside0 (spec_l2Levels.l1 kq a0 x5_2 x7_2 = some r) ∧ Aside0 (kq ≤ k1) ∧ Aside0 (Kd.R (Kd.int .i64) 3 w' w.heap.size (fun k_ => (w.heap.size ≤ k_)) v5 x5_2) ∧ Aside0 (Kd.N (Kd.slice 3 (Kd.int .i64)) 29 w' w.heap.size (fun k_ => (w.heap.size ≤ k_)) v7 x7_2) ∧ Aside0 (Below w.heap.size w w'))
    case atStart => exact ⟨(x5_1), (y345), H', ⟨Nat.le_refl _⟩, ⟨by (with_reducible repeat (first | apply Kd.R_alloc | apply Kd.R_drewN | apply Kd.R_drew)); exact Kd.R_mono HO_5.out (fun _ hk => hk)⟩, ⟨mv HO347.out⟩, ⟨bt⟩⟩
    case round =>
     clear H'
     try clear c1
     try clear p2
     try clear c3
     try clear p3
     try clear q3
     try clear hx3
     try clear c5
     try clear c5b0
     try clear c6
     try clear c6b0
     try clear p6
     try clear c8
     try clear c11
     try clear hx340_0
     try clear p2
     try clear p340
     try clear q340
     obtain ⟨x5_2, x7_2, HA, HK2, HO_5, HO_7, HB⟩ := hrel
     cases gk with
     | zero => exact absurd HA.out (by simp [spec_l2Levels.l1])
     | succ k2 =>
      have H := HA.out
      clear HA
      simp only [spec_l2Levels.l1] at H
      by_cases c14 : (x5_2.length : Int) > 1
      ·rw [if_pos c14] at H
       have c14b0 : decide (1 < (x5_2.length : Int)) = true := decide_eq_true c14
       have c14b1 : decide (1 < x5_2.length) = true := decide_eq_true (by omega)
       clear c14
       obtain ⟨y348, hy348⟩ : ∃ y_ : List Int, y_ = (([] : List Int)) := ⟨_, rfl⟩
       replace H : (spec_l2Levels.l2 k2 a0 x5_2 x7_2 y348 0) = some r := by first | (rw [hy348]; exact H) | exact H
       have Ny348 := am hy348
       clear hy348
       have H' := am H
       clear H
       obtain ⟨Ao15, co15, eo15⟩ := Kd.R_slice HO_5.out
       subst eo15
       go_wp2_with (first | ((with_reducible refine gate_dst (N := 31) rfl ?_); refine Kd.R_lit (Kd.int .i64) _ 3 ?hg (N := 31) ?hd (xs := ([] : List Int)) (inner := []) (ok := fun _ => True) (okp := fun _ => True) ?hr ?hp (fun _ hk => hk) trivial (Below.refl _ _) (Nat.le_refl _) (by simp) ?_; (case hd => rfl); (case hg => rfl); (case hr => first | (go_simp; done) | (go_simp; rfl)); (case hp => exact (Reps.none _ _)); intro v349 w16 ho17 hb hg_ hnew_; clear hg_ hnew_; (first | rw [← Ny348.out] at ho17 | (simp only [Int.reduceToNat] at ho17; rw [← Ny348.out] at ho17)); replace HO_7 := am (Kd.N_elder' (mv HO_7.out) (Kd.R_base ho17) hb); have HO350 := am (Kd.R_lower (Kd.R_new' (Kd.R_newM (M := fun k_ => (w.heap.size ≤ k_)) ho17 (below_size (bt)) (fun k_ h_ => h_)) (Kd.R_lt (mv HO_5.out))) (below_size (bt))); replace HO_5 := am (Kd.R_elder' (mv HO_5.out) (Kd.R_base ho17) hb); replace HB := am (below_step (bt) hb); clear hb ho17))
       go_loopg [8, 9] k2 (fun kq v8 v9 w' => ∃ (x8_3 : List Int) (x9_3 : Int), v9 = .int .i64 x9_3 ∧ Aside0 (spec_l2Levels.l2 kq a0 x5_2 x7_2 x8_3 x9_3 = some r) ∧ Aside0 (kq ≤ k2) ∧ Aside0 (Kd.R (Kd.int .i64) 3 w' w.heap.size (fun k_ => (w.heap.size ≤ k_) ∧ some k_ ≠ (v8 : Value).ownBlock) (.slice Ao15 x5_2.length co15) x5_2) ∧ Aside0 (Kd.N (Kd.slice 3 (Kd.int .i64)) 29 w' w.heap.size (fun k_ => (w.heap.size ≤ k_) ∧ some k_ ≠ (v8 : Value).ownBlock) u7 x7_2) ∧ Aside0 (Kd.R (Kd.int .i64) 3 w' w.heap.size (fun k_ => (w.heap.size ≤ k_) ∧ some k_ ≠ ((.slice Ao15 x5_2.length co15) : Value).ownBlock) v8 x8_3) ∧ Aside0 (Below w.heap.size w w'))
       case atStart => exact ⟨(y348), (0), (by first | rfl | (simp; done) | (simp [*]; done)), H', ⟨Nat.le_refl _⟩, ⟨mv HO_5.out⟩, ⟨mv HO_7.out⟩, ⟨by (with_reducible repeat (first | apply Kd.R_alloc | apply Kd.R_drewN | apply Kd.R_drew)); exact Kd.R_mono HO350.out (fun _ hk => ⟨hk.1.1, hk.2⟩)⟩, ⟨bt⟩⟩
       case round =>
        clear H'
        try clear c1
        try clear p2
        try clear c3
        try clear p3
        try clear q3
        try clear hx3
        try clear c5
        try clear c5b0
        try clear c6
        try clear c6b0
        try clear p6
        try clear c8
        try clear c11
        try clear c14
        try clear c14b0
        try clear c14b1
        try clear hx340_0
        try clear p2
        try clear p3
        try clear p340
        try clear p6
        try clear q3
        try clear q340
        obtain ⟨x8_3, x9_3, rfl, HA, HK3, HO_5, HO_7, HO_8, HB⟩ := hrel
        cases gk with
        | zero => exact absurd HA.out (by simp [spec_l2Levels.l2])
        | succ k3 =>
         have H := HA.out
         clear HA
         simp only [spec_l2Levels.l2] at H
         by_cases c18 : x9_3 < (x5_2.length : Int)
         ·rw [if_pos c18] at H
          have c18b0 : decide (x9_3 < (x5_2.length : Int)) = true := decide_eq_true c18
          clear c18
          by_cases c19 : (wrap64 (x9_3 + 1)) < (x5_2.length : Int)
          ·rw [if_pos c19] at H
           have c19b0 : decide ((wrap64 (x9_3 + 1)) < (x5_2.length : Int)) = true := decide_eq_true c19
           clear c19
           by_cases c20 : 0 ≤ x9_3
           ·rw [if_pos c20] at H
            have c20b0 : decide (0 ≤ x9_3) = true := decide_eq_true c20
            clear c20
            obtain ⟨ji21, hji21⟩ : ∃ j_ : Int, (wrap64 (x9_3 + 1)) = j_ := ⟨_, rfl⟩
            replace H : (if 0 ≤ (ji21) then ((spec_NodeOf.f k3 a0 (rd x5_2 x9_3) (rd x5_2 (ji21))).bind fun t353 => (if x8_3.length < 17592186044416 then (spec_l2Levels.l2 k3 a0 x5_2 x7_2 (x8_3 ++ [t353]) (wrap64 (x9_3 + 2))) else (none))) else (none)) = some r := by first | (rw [hji21] at H; exact H) | (simp only [hji21] at H ⊢; exact H)
            (try rw [hji21] at c19b0)
            have hji21w : (IntKind.i64.wrap (x9_3 + 1)) = ji21 := (i64_w _).trans hji21
            by_cases c22 : 0 ≤ (ji21)
            ·rw [if_pos c22] at H
             have c22b0 : decide (0 ≤ (ji21)) = true := decide_eq_true c22
             clear c22
             replace H := Option.bind_eq_some_iff.mp H
             obtain ⟨t353, A230, H⟩ := H
             (try dsimp -simprocs only at H)
             have A23 := am A230
             clear A230
             by_cases c24 : x8_3.length < 17592186044416
             ·rw [if_pos c24] at H
              have LMc24 := am c24
              clear c24
              obtain ⟨y354, hy354⟩ : ∃ y_ : List Int, y_ = (x8_3 ++ [t353]) := ⟨_, rfl⟩
              replace H : (spec_l2Levels.l2 k3 a0 x5_2 x7_2 y354 (wrap64 (x9_3 + 2))) = some r := by first | (rw [hy354]; exact H) | exact H
              have Ny354 := am hy354
              clear hy354
              have H' := am H
              clear H
              try go_wp2
              have n0_ := am (Kd.R_drew HO_5.out)
              have n1_ := am (Kd.N_drew HO_7.out)
              have n2_ := am (Kd.R_drew HO_8.out)
              have n3_ := am (below_drew1 HB.out)
              clear HO_5
              clear HO_7
              clear HO_8
              clear HB
              have HO_5 := n0_
              have HO_7 := n1_
              have HO_8 := n2_
              have HB := n3_
              clear n0_ n1_ n2_ n3_
              have p351 : 0 ≤ (x9_3 : Int) := of_decide_eq_true asm
              have q351 : x9_3 < (x5_2.length : Int) := of_decide_eq_true asm
              obtain ⟨ad351, e351, hx351_0⟩ := Kd.at_int (Kd.R_reads' HO_5.out).2.2 x9_3 p351 q351
              cases e351
              replace p351 := eq_true p351
              replace q351 := eq_true q351
              have p352 : 0 ≤ ((ji21) : Int) := of_decide_eq_true asm
              have q352 : (ji21) < (x5_2.length : Int) := of_decide_eq_true asm
              obtain ⟨ad352, e352, hx352_0⟩ := Kd.at_int (Kd.R_reads' HO_5.out).2.2 (ji21) p352 q352
              obtain rfl : ad351 = ad352 := (by injection e352)
              replace p352 := eq_true p352
              replace q352 := eq_true q352
              refine start_ (n := 15) (S := fun w' => w'.cell? (ad351.add (x9_3).toNat) = some (.int .i64 (rd x5_2 x9_3)) ∧ w'.cell? (ad351.add ((ji21)).toNat) = some (.int .i64 (rd x5_2 (ji21)))) (ds := [12, 13]) #[false, false, false, false, false, false, false, false, false, false, false, false, false, false, false] (by kernel_rfl) rfl rfl ⟨hx351_0, hx352_0⟩ (fun hHeld => ?_); refine with_tabW spec_l2Levels.tab13 spec_l2Levels.bits13 (fun HT_ HW_ => ?_)
              generalize wr.drew = w25 at HO_5 HO_7 HO_8 HB hx351_0 hx352_0 hHeld ⊢
              refine pz (i := 0) (N := some 43) #[true, false, false, false, false, false, false, false, false, false, false, false, false, false, false] rfl rfl HT_.out ?_
              refine pz (i := 1) (N := some 44) #[true, true, false, false, false, false, false, false, false, false, false, false, false, false, false] rfl rfl HT_.out ?_
              refine pz (i := 2) (N := some 45) #[true, true, true, false, false, false, false, false, false, false, false, false, false, false, false] rfl rfl HT_.out ?_
              refine pz (i := 3) (N := some 46) #[true, true, true, true, false, false, false, false, false, false, false, false, false, false, false] rfl rfl HT_.out ?_
              refine pz (i := 4) (N := some 47) #[true, true, true, true, true, false, false, false, false, false, false, false, false, false, false] rfl rfl HT_.out ?_
              refine pz (i := 6) (N := some 49) #[true, true, true, true, true, false, true, false, false, false, false, false, false, false, false] rfl rfl HT_.out ?_
              refine pz (i := 7) (N := some 50) #[true, true, true, true, true, false, true, true, false, false, false, false, false, false, false] rfl rfl HT_.out ?_
              refine pz (i := 8) (N := some 51) #[true, true, true, true, true, false, true, true, true, false, false, false, false, false, false] rfl rfl HT_.out ?_
              refine pz (i := 9) (N := some 52) #[true, true, true, true, true, false, true, true, true, true, false, false, false, false, false] rfl rfl HT_.out ?_
              refine tz (i := 5) (N := some 48) #[true, true, true, true, true, true, true, true, true, true, false, false, false, false, false] rfl rfl HT_.out HW_.out hHeld (Or.inl ⟨by rfl, by rintro w' ⟨s0, s1⟩; go_simp; with_reducible rfl⟩) ?_
              refine tz (i := 10) (N := some 53) #[true, true, true, true, true, true, true, true, true, true, true, false, false, false, false] rfl rfl HT_.out HW_.out hHeld (Or.inl ⟨by rfl, by rintro w' ⟨s0, s1⟩; go_simp; with_reducible rfl⟩) ?_
              refine one_ (i := 11) (N := some 54) #[true, true, true, true, true, true, true, true, true, true, true, true, false, false, false] rfl rfl (one_of HT_.out (by kernel_rfl)) (by decide) (fun K hK => ?_)
              refine goes_ Try.func135 (by kernel_rfl) rfl #[.int .i64 a0, .int .i64 (rd x5_2 x9_3), .int .i64 (rd x5_2 (ji21))] (by rfl) rfl rfl (by (try simp only [List.map_toArray, List.map_cons, List.map_nil]); first | done | (simp only [hji21]; rfl) | rfl | (simp only [List.length_drop, List.length_take]; rfl)) ?_
              with_reducible refine (spec_NodeOf.calls k3 a0 (rd x5_2 x9_3) (rd x5_2 (ji21)) t353 _ A23.out).mono ?_
              rintro e w26 ⟨rfl, hb⟩
              have HS0_ := (hb.cell (World.block_lt_of_cell? _ _ (hHeld.1))).trans (hHeld.1)
              have HS1_ := (hb.cell (World.block_lt_of_cell? _ _ (hHeld.2))).trans (hHeld.2)
              refine ⟨_, rfl, ?_⟩
              have n0_ := am (Kd.R_below (mv HO_5.out) hb)
              have n1_ := am (Kd.N_below (mv HO_7.out) hb)
              have n2_ := am (Kd.R_below (mv HO_8.out) hb)
              have n3_ := am (below_step (bt) hb)
              clear HO_5
              clear HO_7
              clear HO_8
              clear HB
              have HO_5 := n0_
              have HO_7 := n1_
              have HO_8 := n2_
              have HB := n3_
              clear n0_ n1_ n2_ n3_
              (try clear hb)
              (try clear hb2)
              (try clear hk)
              (try clear hi)
              refine hK.out _ _ ⟨HS0_, HS1_⟩ (fun hHeld => ?_)
              clear hK K
              refine nz (N := some 54) ?_
              refine last_ (i := 12) (N := some 55) #[true, true, true, true, true, true, true, true, true, true, true, true, true, false, false] rfl rfl (one_of HT_.out (by kernel_rfl)) (by decide) (fun K hK => ?_)
              refine value_ (w1 := ?_) (v := ?_) (by rfl) rfl ?_ ?_
              rotate_left 2
              ·go_simp
               constructor
               ·rfl
               ·rfl
              refine hK.out _ _ ?_
              clear hK K
              refine nz (N := some 55) ?_
              refine last_ (i := 13) (N := some 56) #[true, true, true, true, true, true, true, true, true, true, true, true, true, true, false] rfl rfl (one_of HT_.out (by kernel_rfl)) (by decide) (fun K hK => ?_)
              refine Kd.R_append_step (Kd.int .i64) (w0 := w) w.heap.size (by rfl) (.tmp 43) (.tmp 55) 29 3 (.int .i64 0) 8 rfl Try.underlying29 info3 rfl (by decide) (by omega) u8 x8_3 t353 [.int .i64 t353] (fun k_ => (w.heap.size ≤ k_) ∧ some k_ ≠ (.slice (some ad351) x5_2.length co15 : Value).ownBlock) (fun _ => False) rfl rfl ?aP (fun _ hk => hk.elim) ?aF ?aO ?aB ?aS ?aL ?_
              (case aP => exact rfl)
              (case aB => exact (bt))
              (case aF => exact (fun k_ hk => ⟨(Nat.le_trans (below_size (bt)) hk), Kd.fresh' (Kd.R_lt (mv HO_5.out)) k_ hk⟩))
              (case aO => exact (mv HO_8.out))
              (case aS => exact (below_size (bt)))
              (case aL => have := LMc24.out; omega)
              intro v355 w27 ho hb hg hat
              rw [← Ny354.out] at ho
              have n0_ := am (Kd.R_after (ok := (fun k_ => (w.heap.size ≤ k_))) (mv HO_5.out) hg hat)
              have n1_ := am (Kd.N_afterv (ok := (fun k_ => (w.heap.size ≤ k_))) (mv HO_7.out) hg hat)
              have n2_ := am (hb)
              have n3_ := am (ho)
              clear HO_5
              clear HO_7
              clear HB
              clear HO_8
              have HO_5 := n0_
              have HO_7 := n1_
              have HB := n2_
              have HO356 := n3_
              clear n0_ n1_ n2_ n3_
              clear ho hb hg hat
              refine hK.out _ _ ?_
              clear hK K
              refine nz (N := some 56) ?_
              refine pz (i := 14) (N := some 8) #[true, true, true, true, true, true, true, true, true, true, true, true, true, true, true] rfl rfl HT_.out ?_
              refine done_ (done_of HT_.out (by kernel_rfl)) ?_
              (try simp only [Dig.setCell_drewN])
              try go_wp2
              go_roundg k3
              case measure => have := HK1.out; have := HK2.out; have := HK3.out; omega
              case rel => exact ⟨(y354), (wrap64 (x9_3 + 2)), (by first | rfl | (simp; done) | (simp [*]; done)), H', ⟨by have := HK1.out; have := HK2.out; have := HK3.out; omega⟩, ⟨mv HO_5.out⟩, ⟨mv HO_7.out⟩, ⟨mv HO356.out⟩, ⟨bt⟩⟩
             ·rw [if_neg c24] at H
              exact absurd H (by simp)
            ·rw [if_neg c22] at H
             exact absurd H (by simp)
           ·rw [if_neg c20] at H
            exact absurd H (by simp)
          ·rw [if_neg c19] at H
           have c19b0 : decide ((wrap64 (x9_3 + 1)) < (x5_2.length : Int)) = false := decide_eq_false c19
           clear c19
           by_cases c28 : 0 ≤ x9_3
           ·rw [if_pos c28] at H
            have c28b0 : decide (0 ≤ x9_3) = true := decide_eq_true c28
            clear c28
            by_cases c29 : x8_3.length < 17592186044416
            ·rw [if_pos c29] at H
             have LMc29 := am c29
             clear c29
             obtain ⟨y358, hy358⟩ : ∃ y_ : List Int, y_ = (x8_3 ++ [rd x5_2 x9_3]) := ⟨_, rfl⟩
             replace H : (spec_l2Levels.l2 k3 a0 x5_2 x7_2 y358 (wrap64 (x9_3 + 2))) = some r := by first | (rw [hy358]; exact H) | exact H
             have Ny358 := am hy358
             clear hy358
             have H' := am H
             clear H
             have p357 : 0 ≤ (x9_3 : Int) := of_decide_eq_true asm
             have q357 : x9_3 < (x5_2.length : Int) := of_decide_eq_true asm
             obtain ⟨ad357, e357, hx357_0⟩ := Kd.at_int (Kd.R_reads' HO_5.out).2.2 x9_3 p357 q357
             cases e357
             replace p357 := eq_true p357
             replace q357 := eq_true q357
             go_wp2_with (first | ((with_reducible refine gate_builtin (b := .append) (xs := #[.tmp 57, .tmp 62]) rfl ?_); at_builtin; refine Kd.R_append (Kd.int .i64) (w0 := w) w.heap.size rfl (.tmp 57) (.tmp 62) 29 3 (.int .i64 0) 8 rfl Try.underlying29 info3 rfl (by decide) (by omega) u8 x8_3 (rd x5_2 x9_3) [.int .i64 (rd x5_2 x9_3)] (fun k_ => (w.heap.size ≤ k_) ∧ some k_ ≠ (.slice (some ad357) x5_2.length co15 : Value).ownBlock) (fun _ => False) rfl rfl ?aP (fun _ hk => hk.elim) ?aF ?aO ?aB ?aS ?aL ?_; (case aP => exact rfl); (case aB => exact (bt)); (case aF => exact (fun k_ hk => ⟨(Nat.le_trans (below_size (bt)) hk), Kd.fresh' (Kd.R_lt (mv HO_5.out)) k_ hk⟩)); (case aO => exact (mv HO_8.out)); (case aS => exact (below_size (bt))); (case aL => have := LMc29.out; omega); intro v359 w30 ho hb hg hat; rw [← Ny358.out] at ho; replace HO_5 := am (Kd.R_after (ok := (fun k_ => (w.heap.size ≤ k_))) (mv HO_5.out) hg hat); replace HO_7 := am (Kd.N_afterv (ok := (fun k_ => (w.heap.size ≤ k_))) (mv HO_7.out) hg hat); replace HB := am (hb); have HO360 := am (ho); clear HO_8; clear ho hb hg hat))
             go_roundg k3
             case measure => have := HK1.out; have := HK2.out; have := HK3.out; omega
             case rel => exact ⟨(y358), (wrap64 (x9_3 + 2)), (by first | rfl | (simp; done) | (simp [*]; done)), H', ⟨by have := HK1.out; have := HK2.out; have := HK3.out; omega⟩, ⟨mv HO_5.out⟩, ⟨mv HO_7.out⟩, ⟨mv HO360.out⟩, ⟨bt⟩⟩
            ·rw [if_neg c29] at H
             exact absurd H (by simp)
           ·rw [if_neg c28] at H
            exact absurd H (by simp)
         ·rw [if_neg c18] at H
          have c18b0 : decide (x9_3 < (x5_2.length : Int)) = false := decide_eq_false c18
          clear c18
          by_cases c31 : x7_2.length < 5864062014805
          ·rw [if_pos c31] at H
           have LMc31 := am c31
           clear c31
           obtain ⟨y361, hy361⟩ : ∃ y_ : List (List Int), y_ = (x7_2 ++ [x8_3]) := ⟨_, rfl⟩
           replace H : (spec_l2Levels.l1 k3 a0 x8_3 y361) = some r := by first | (rw [hy361]; exact H) | exact H
           have Ny361 := am hy361
           clear hy361
           have H' := am H
           clear H
           obtain ⟨Ao33, co33, eo33⟩ := Kd.R_slice HO_8.out
           subst eo33
           go_wp2_with (first | ((with_reducible refine gate_builtin (b := .append) (xs := #[.tmp 64, .tmp 66]) rfl ?_); at_builtin; refine Kd.N_append (Kd.slice 3 (Kd.int .i64)) (w0 := w) w.heap.size rfl (.tmp 64) (.tmp 66) 107 29 (.slice none 0 0) 24 rfl Try.underlying107 info29 rfl (by decide) (by omega) u7 x7_2 x8_3 [.slice Ao33 x8_3.length co33] (fun k_ => (w.heap.size ≤ k_)) (fun k_ => ((fun k_ => (w.heap.size ≤ k_))) k_ ∧ some k_ ≠ (u7 : Value).ownBlock) rfl rfl ?aP (fun _ hk => hk) ?aF ?aO ?aB ?aS ?aL ?_; (case aP => exact (Kd.FK_slice_mk (Kd.R_reads' (Kd.R_mono (ok' := (fun k_ => ((fun k_ => (w.heap.size ≤ k_))) k_ ∧ some k_ ≠ (u7 : Value).ownBlock)) (Kd.R_apart' (HO_8.out) (Kd.N_typed HO_7.out) (by decide)) (fun k_ hk => ⟨hk.1.1, hk.2⟩))).2.1 (Kd.R_F (Kd.R_mono (ok' := (fun k_ => ((fun k_ => (w.heap.size ≤ k_))) k_ ∧ some k_ ≠ (u7 : Value).ownBlock)) (Kd.R_apart' (HO_8.out) (Kd.N_typed HO_7.out) (by decide)) (fun k_ hk => ⟨hk.1.1, hk.2⟩))))); (case aB => exact (bt)); (case aF => exact (fun k_ hk => (Nat.le_trans (below_size (bt)) hk))); (case aO => exact (by (with_reducible repeat (first | apply Kd.N_alloc | apply Kd.N_drewN | apply Kd.N_drew)); exact Kd.N_mono HO_7.out (fun _ hk => hk.1))); (case aS => exact (below_size (bt))); (case aL => have := LMc31.out; omega); intro v362 w32 ho hb hg hat; rw [← Ny361.out] at ho; have n0_ := am (Kd.R_over' (mv HO_5.out) (Kd.N_typed (mv HO_7.out)) (by decide) hg); have n1_ := am (hb); have n2_ := am (ho); have nk_ := am (Kd.R_over' (mv HO_8.out) (Kd.N_typed HO_7.out) (by decide) hg); clear HO_5; clear HB; clear HO_7; clear HO_8; have HO_8 := nk_; clear nk_; have HO_5 := n0_; have HB := n1_; have HO363 := n2_; clear n0_ n1_ n2_; clear ho hb hg hat))
           go_roundg k3
           case measure => have := HK1.out; have := HK2.out; have := HK3.out; omega
           case rel => exact ⟨(x8_3), (y361), H', ⟨by have := HK1.out; have := HK2.out; have := HK3.out; omega⟩, ⟨by (with_reducible repeat (first | apply Kd.R_alloc | apply Kd.R_drewN | apply Kd.R_drew)); exact Kd.R_mono HO_8.out (fun _ hk => hk.1)⟩, ⟨mv HO363.out⟩, ⟨bt⟩⟩
          ·rw [if_neg c31] at H
           exact absurd H (by simp)
      ·rw [if_neg c14] at H
       have c14b0 : decide (1 < (x5_2.length : Int)) = false := decide_eq_false c14
       have c14b1 : decide (1 < x5_2.length) = false := decide_eq_false (by omega)
       clear c14
       obtain rfl := Option.some.inj H
       obtain ⟨Ao34, co34, eo34⟩ := Kd.R_slice HO_5.out
       subst eo34
       go_wp2
       go_ret
       exact ⟨_, by first | rfl | (simp [errW_none, errW_some] <;> rfl) | (simp [*, errW_none, errW_some] <;> rfl), by (with_reducible repeat (first | apply Kd.N_alloc | apply Kd.N_drewN | apply Kd.N_drew)); exact HO_7.out, bt⟩

/-! ### spec_Path: function 76 -/
mutual
def spec_Path.j0 : Nat → Int → List (List Int) → Int → List Int → Bool → Option (List Int × Bool)
 | 0, _, _, _, _, _ => none
 | k + 1, x0, x1, x2, x8, x24 => if x24 = true then (some (x8, false)) else ((spec_l2Levels.f k x0 x1).bind fun t369 => (spec_Path.l0 k x2 x8 t369 0))
def spec_Path.l0 : Nat → Int → List Int → List (List Int) → Int → Option (List Int × Bool)
 | 0, _, _, _, _ => none
 | k + 1, x2, x8, x9, x10 => if (wrap64 (x10 + 1)) < (x9.length : Int) then (if 0 ≤ x10 then (if x10 < (x9.length : Int) then (if (wrap64 ((wrap64 (x2 + 1)) - (wrap64 (2 * (Int.tmod x2 2))))) < ((rd_L3 x9 x10).length : Int) then (if 0 ≤ (wrap64 ((wrap64 (x2 + 1)) - (wrap64 (2 * (Int.tmod x2 2))))) then (if x8.length < 17592186044416 then (spec_Path.l0 k (wrap64 (Int.tdiv x2 2)) (x8 ++ [rd (rd_L3 x9 x10) (wrap64 ((wrap64 (x2 + 1)) - (wrap64 (2 * (Int.tmod x2 2)))))]) x9 (wrap64 (x10 + 1))) else (none)) else (none)) else (spec_Path.l0 k (wrap64 (Int.tdiv x2 2)) x8 x9 (wrap64 (x10 + 1)))) else (none)) else (none)) else (some (x8, true))
end
def spec_Path.f (k : Nat) (a0 : Int) (l1 : List (List Int)) (a2 : Int) : Option (List Int × Bool) := (some (([] : List Int) : List Int)).bind fun y364 => ((spec_l2Leaves.f k a0 l1).bind fun t367 => (if t367 = true then ((spec_l1In.f a2 0 (wrap64 ((l1.length : Int) - 1))).bind fun t368 => (spec_Path.j0 k a0 l1 a2 y364 (!t368))) else (spec_Path.j0 k a0 l1 a2 y364 true)))
set_option maxHeartbeats 8000000 in
set_option maxRecDepth 100000 in
theorem spec_Path.calls (k : Nat) (a0 : Int) (A1 : Option Addr) (c1 : Nat) (l1 : List (List Int)) (a2 : Int) (r1 : List Int) (r2 : Bool) (w : World) (hr1 : Kd.C (Kd.slice 5 (Kd.int .u8)) w A1 l1.length l1) (hc1 : l1.length ≤ c1) (h : spec_Path.f k a0 l1 a2 = some (r1, r2)) :
  Calls Try.prog 76 #[.int .i64 a0, .slice A1 l1.length c1, .int .i64 a2] w fun e w' => ∃ v0_ : Value, e = .returned (.tuple #[v0_, .bool r2]) ∧ Kd.R (Kd.int .i64) 3 w' w.heap.size (fun _ => True) v0_ r1 ∧ Below w.heap.size w w' := by
 have HR1 := am hr1
 have HC1 := am hc1
 clear hr1 hc1
 have HB := am (Below.refl w.heap.size w)
 have H : ((some (([] : List Int) : List Int)).bind fun y364 => ((spec_l2Leaves.f k a0 l1).bind fun t367 => (if t367 = true then ((spec_l1In.f a2 0 (wrap64 ((l1.length : Int) - 1))).bind fun t368 => (spec_Path.j0 k a0 l1 a2 y364 (!t368))) else (spec_Path.j0 k a0 l1 a2 y364 true)))) = some (r1, r2) := h
 clear h
 obtain ⟨y364, hy364⟩ : ∃ y_ : List Int, y_ = (([] : List Int)) := ⟨_, rfl⟩
 replace H : ((spec_l2Leaves.f k a0 l1).bind fun t367 => (if t367 = true then ((spec_l1In.f a2 0 (wrap64 ((l1.length : Int) - 1))).bind fun t368 => (spec_Path.j0 k a0 l1 a2 y364 (!t368))) else (spec_Path.j0 k a0 l1 a2 y364 true))) = some (r1, r2) := by first | (rw [hy364]; exact H) | exact H
 have Ny364 := am hy364
 clear hy364
 have HC4 := am H
 clear H
 go_enter Try.func76, Try.ntmps76
 go_upto_region 2 with (first | ((with_reducible refine gate_dst (N := 12) rfl ?_); (try (refine gate_guard (by rfl) ?_; dsimp only)); refine Kd.R_lit (Kd.int .i64) _ 3 ?hg (N := 12) ?hd (xs := ([] : List Int)) (inner := []) (ok := fun _ => True) (okp := fun _ => True) ?hr ?hp (fun _ hk => hk) trivial (Below.refl _ _) (Nat.le_refl _) (by simp) ?_; (case hd => rfl); (case hg => rfl); (case hr => first | (go_simp; done) | (go_simp; rfl)); (case hp => exact (Reps.none _ _)); intro v365 w5 ho6 hb hg_ hnew_; clear hg_ hnew_; (first | rw [← Ny364.out] at ho6 | (simp only [Int.reduceToNat] at ho6; rw [← Ny364.out] at ho6)); have HO366 := am (Kd.R_lower ho6 (below_size (bt))); replace HB := am (below_step (bt) hb); clear hb ho6))
 (try simp only [Act.put, List.setIfInBounds_toArray, List.set_cons_zero, List.set_cons_succ])
 go_cut [24] (fun v24 wc => ∃ (kq : Nat) (x24_3 : Bool), v24 = .bool x24_3 ∧ Aside0 (spec_Path.j0 kq a0 l1 a2 y364 x24_3 = some (r1, r2)) ∧ Aside0 (kq ≤ k) ∧ Aside0 (Kd.R (Kd.int .i64) 3 wc w.heap.size (fun _ => True) v365 y364) ∧ Aside0 (Below w.heap.size w wc))
 case first =>
  have H := HC4.out
  clear HC4
  replace H := Option.bind_eq_some_iff.mp H
  obtain ⟨t367, A70, H⟩ := H
  (try dsimp -simprocs only at H)
  have A7 := am A70
  clear A70
  by_cases c8 : t367 = true
  ·subst c8
   rw [if_pos rfl] at H
   replace H := Option.bind_eq_some_iff.mp H
   obtain ⟨t368, A90, H⟩ := H
   (try dsimp -simprocs only at H)
   have A9 := am A90
   clear A90
   have H' := am H
   clear H
   go_wp2_with (first | ((with_reducible refine gate_callee (f := 110) rfl ?_); refine goesL_ (some 15) rfl rfl Try.func110 (by kernel_rfl) rfl #[.int .i64 a0, .slice A1 l1.length c1] rfl av ?_; (with_reducible refine (spec_l2Leaves.calls k a0 _ _ l1 true _ ?side1 ?side2 A7.out).mono ?_); (case side1 => exact cv ((Kd.C_below HR1.out HB.out))); (case side2 => exact HC1.out); rintro e w' ⟨rfl, ⟨nd, rfl⟩⟩; refine ⟨_, rfl, ?_⟩) | (go_at_call 97; (with_reducible refine (spec_l1In.calls a2 0 (wrap64 ((l1.length : Int) - 1)) t368 _ A9.out).mono ?_); rintro e w' ⟨rfl, ⟨nd, rfl⟩⟩))
   go_meet
   case rel => exact ⟨_, (!t368), (by first | rfl | (simp; done) | (simp [*]; done)), H', ⟨by first | omega | exact Nat.le_refl _⟩, ⟨mv HO366.out⟩, ⟨bt⟩⟩
  ·replace c8 := Bool.eq_false_iff.mpr c8
   subst c8
   rw [if_neg (show ¬ (false = true) by decide)] at H
   have H' := am H
   clear H
   go_wp2_with (first | ((with_reducible refine gate_callee (f := 110) rfl ?_); refine goesL_ (some 15) rfl rfl Try.func110 (by kernel_rfl) rfl #[.int .i64 a0, .slice A1 l1.length c1] rfl av ?_; (with_reducible refine (spec_l2Leaves.calls k a0 _ _ l1 false _ ?side1 ?side2 A7.out).mono ?_); (case side1 => exact cv ((Kd.C_below HR1.out HB.out))); (case side2 => exact HC1.out); rintro e w' ⟨rfl, ⟨nd, rfl⟩⟩; refine ⟨_, rfl, ?_⟩))
   go_meet
   case rel => exact ⟨_, (true), (by first | rfl | (simp; done) | (simp [*]; done)), H', ⟨by first | omega | exact Nat.le_refl _⟩, ⟨mv HO366.out⟩, ⟨bt⟩⟩
 case rest =>
  clear HC4
  try clear c1
  try clear p2
  try clear p6
  try clear c7
  try clear c8
  obtain ⟨kq, x24_3, rfl, HA, HJ3, HO_8, HB⟩ := hcut
  cases kq with
  | zero => exact absurd HA.out (by simp [spec_Path.j0])
  | succ kj3 =>
   have H := HA.out
   clear HA
   simp only [spec_Path.j0] at H
   by_cases c10 : x24_3 = true
   ·subst c10
    rw [if_pos rfl] at H
    simp only [Option.some.injEq, Prod.mk.injEq] at H
    obtain ⟨rfl, rfl⟩ := H
    go_wp2
    go_ret2
    exact ⟨_, by first | rfl | (simp [errW_none, errW_some] <;> rfl) | (simp [*, errW_none, errW_some] <;> rfl), by (with_reducible repeat (first | apply Kd.R_alloc | apply Kd.R_drewN | apply Kd.R_drew)); exact HO_8.out, bt⟩
   ·replace c10 := Bool.eq_false_iff.mpr c10
    subst c10
    rw [if_neg (show ¬ (false = true) by decide)] at H
    replace H := Option.bind_eq_some_iff.mp H
    obtain ⟨t369, A110, H⟩ := H
    (try dsimp -simprocs only at H)
    have A11 := am A110
    clear A110
    have H' := am H
    clear H
    go_wp2_with (first | ((with_reducible refine gate_callee (f := 111) rfl ?_); refine goesL_ (some 28) rfl rfl Try.func111 (by kernel_rfl) rfl #[.int .i64 a0, .slice A1 l1.length c1] rfl av ?_; (with_reducible refine (spec_l2Levels.calls kj3 a0 _ _ l1 t369 _ ?side1 ?side2 A11.out).mono ?_); (case side1 => exact cv ((Kd.C_below HR1.out HB.out))); (case side2 => exact HC1.out); rintro e w12 ⟨v370, rfl, ho0, hb⟩; refine ⟨_, rfl, ?_⟩; have HO371 := am (Kd.N_lower (Kd.N_mono (ok' := fun k_ => some k_ ≠ (v365 : Value).ownBlock) ho0 (fun k_ hk_ => (Kd.fresh' (Kd.R_lt (mv HO_8.out)) k_ hk_))) (below_size (bt))); replace HO_8 := am (Kd.R_below (mv HO_8.out) hb); replace HB := am (below_step (bt) hb); (try clear hb); (try clear hb2); (try clear hk); (try clear hi); (try clear ho0)))
    go_loopg [2, 8, 10] kj3 (fun kq v2 v8 v10 w' => ∃ (x2_2 : Int) (x8_2 : List Int) (x10_2 : Int), v2 = .int .i64 x2_2 ∧ v10 = .int .i64 x10_2 ∧ Aside0 (spec_Path.l0 kq x2_2 x8_2 t369 x10_2 = some (r1, r2)) ∧ Aside0 (kq ≤ kj3) ∧ Aside0 (Kd.R (Kd.int .i64) 3 w' w.heap.size (fun _ => True) v8 x8_2) ∧ Aside0 (Kd.N (Kd.slice 3 (Kd.int .i64)) 29 w' w.heap.size (fun k_ => some k_ ≠ (v8 : Value).ownBlock) v370 t369) ∧ Aside0 (Below w.heap.size w w'))
    case atStart => exact ⟨(a2), (y364), (0), (by first | rfl | (simp; done) | (simp [*]; done)), (by first | rfl | (simp; done) | (simp [*]; done)), H', ⟨Nat.le_refl _⟩, ⟨mv HO_8.out⟩, ⟨mv HO371.out⟩, ⟨bt⟩⟩
    case round =>
     clear H'
     try clear c1
     try clear p2
     try clear p6
     try clear c7
     try clear c8
     try clear c10
     try clear c11
     try clear p2
     try clear p6
     obtain ⟨x2_2, x8_2, x10_2, rfl, rfl, HA, HK2, HO_8, HO_9, HB⟩ := hrel
     cases gk with
     | zero => exact absurd HA.out (by simp [spec_Path.l0])
     | succ k2 =>
      have H := HA.out
      clear HA
      simp only [spec_Path.l0] at H
      by_cases c13 : (wrap64 (x10_2 + 1)) < (t369.length : Int)
      ·rw [if_pos c13] at H
       have c13b0 : decide ((wrap64 (x10_2 + 1)) < (t369.length : Int)) = true := decide_eq_true c13
       clear c13
       by_cases c14 : 0 ≤ x10_2
       ·rw [if_pos c14] at H
        have c14b0 : decide (0 ≤ x10_2) = true := decide_eq_true c14
        clear c14
        by_cases c15 : x10_2 < (t369.length : Int)
        ·rw [if_pos c15] at H
         have c15b0 : decide (x10_2 < (t369.length : Int)) = true := decide_eq_true c15
         clear c15
         by_cases c16 : (wrap64 ((wrap64 (x2_2 + 1)) - (wrap64 (2 * (Int.tmod x2_2 2))))) < ((rd_L3 t369 x10_2).length : Int)
         ·rw [if_pos c16] at H
          have c16b0 : decide ((wrap64 ((wrap64 (x2_2 + 1)) - (wrap64 (2 * (Int.tmod x2_2 2))))) < ((rd_L3 t369 x10_2).length : Int)) = true := decide_eq_true c16
          clear c16
          obtain ⟨ji17, hji17⟩ : ∃ j_ : Int, (wrap64 ((wrap64 (x2_2 + 1)) - (wrap64 (2 * (Int.tmod x2_2 2))))) = j_ := ⟨_, rfl⟩
          replace H : (if 0 ≤ (ji17) then (if x8_2.length < 17592186044416 then (spec_Path.l0 k2 (wrap64 (Int.tdiv x2_2 2)) (x8_2 ++ [rd (rd_L3 t369 x10_2) (ji17)]) t369 (wrap64 (x10_2 + 1))) else (none)) else (none)) = some (r1, r2) := by first | (rw [hji17] at H; exact H) | (simp only [hji17] at H ⊢; exact H)
          (try rw [hji17] at c16b0)
          have hji17w : (IntKind.i64.wrap ((wrap64 (x2_2 + 1)) - (wrap64 (2 * (Int.tmod x2_2 2))))) = ji17 := (i64_w _).trans hji17
          by_cases c18 : 0 ≤ (ji17)
          ·rw [if_pos c18] at H
           have c18b0 : decide (0 ≤ (ji17)) = true := decide_eq_true c18
           clear c18
           by_cases c19 : x8_2.length < 17592186044416
           ·rw [if_pos c19] at H
            have LMc19 := am c19
            clear c19
            obtain ⟨y375, hy375⟩ : ∃ y_ : List Int, y_ = (x8_2 ++ [rd (rd_L3 t369 x10_2) (ji17)]) := ⟨_, rfl⟩
            replace H : (spec_Path.l0 k2 (wrap64 (Int.tdiv x2_2 2)) y375 t369 (wrap64 (x10_2 + 1))) = some (r1, r2) := by first | (rw [hy375]; exact H) | exact H
            have Ny375 := am hy375
            clear hy375
            have H' := am H
            clear H
            obtain ⟨Ao20, co20, eo20⟩ := Kd.N_slice HO_9.out
            subst eo20
            have p372 : 0 ≤ (x10_2 : Int) := of_decide_eq_true asm
            have q372 : x10_2 < (t369.length : Int) := of_decide_eq_true asm
            obtain ⟨ad372, A372_0, c372_0, e372, hx372_0, hl372_0, hi372_0⟩ := at_L3 (Kd.N_reads' HO_9.out).2.2 x10_2 p372 q372
            cases e372
            obtain ⟨ce372, hce372, hMe372, hcc372⟩ := Kd.N_get HO_9.out [] x10_2 p372 (by first | exact q372 | exact of_decide_eq_true asm | (have e_ := (Kd.N_reads' HO_9.out).1; omega))
            obtain ⟨ua372_0, uc372_0, rfl, ul372_0, ge372_0⟩ := Kd.FK_slice_open hMe372
            have hv372_0 := hcc372 0 _ rfl
            rw [Nat.add_zero, show ((Kd.slice 3 (Kd.int .i64))).sz = 1 from rfl, Nat.mul_one] at hv372_0
            replace hv372_0 := Option.some.inj (hv372_0.symm.trans hx372_0)
            injection hv372_0 with hva_ hvn_ hvc_
            rw [hva_] at ge372_0
            rw [hvc_] at ul372_0
            have HL372_0 := am (show Kd.V (Kd.int .i64) 3 _ w.heap.size _ _ (rd_L3 t369 x10_2) from Kd.V_mk ul372_0 ge372_0)
            clear hva_ hvn_ hvc_ ge372_0 ul372_0
            clear hcc372 hce372
            have HR372_0 := am hi372_0
            have HC372_0 := am hl372_0
            clear hi372_0 hl372_0
            replace p372 := eq_true p372
            replace q372 := eq_true q372
            have p373 : 0 ≤ (x10_2 : Int) := of_decide_eq_true asm
            have q373 : x10_2 < (t369.length : Int) := of_decide_eq_true asm
            obtain ⟨ad373, A373_0, c373_0, e373, hx373_0, hl373_0, hi373_0⟩ := at_L3 (Kd.N_reads' HO_9.out).2.2 x10_2 p373 q373
            obtain rfl : ad372 = ad373 := (by injection e373)
            obtain ⟨ce373, hce373, hMe373, hcc373⟩ := Kd.N_get HO_9.out [] x10_2 p373 (by first | exact q373 | exact of_decide_eq_true asm | (have e_ := (Kd.N_reads' HO_9.out).1; omega))
            obtain ⟨ua373_0, uc373_0, rfl, ul373_0, ge373_0⟩ := Kd.FK_slice_open hMe373
            have hv373_0 := hcc373 0 _ rfl
            rw [Nat.add_zero, show ((Kd.slice 3 (Kd.int .i64))).sz = 1 from rfl, Nat.mul_one] at hv373_0
            replace hv373_0 := Option.some.inj (hv373_0.symm.trans hx373_0)
            injection hv373_0 with hva_ hvn_ hvc_
            rw [hva_] at ge373_0
            rw [hvc_] at ul373_0
            have HL373_0 := am (show Kd.V (Kd.int .i64) 3 _ w.heap.size _ _ (rd_L3 t369 x10_2) from Kd.V_mk ul373_0 ge373_0)
            clear hva_ hvn_ hvc_ ge373_0 ul373_0
            clear hcc373 hce373
            have HR373_0 := am hi373_0
            have HC373_0 := am hl373_0
            clear hi373_0 hl373_0
            replace p373 := eq_true p373
            replace q373 := eq_true q373
            have ea_ := Option.some.inj (hx372_0.symm.trans hx373_0)
            injection ea_ with ea_ en_ ec_
            subst ea_
            subst ec_
            clear en_
            have p374 : 0 ≤ ((ji17) : Int) := of_decide_eq_true asm
            have q374 : (ji17) < ((rd_L3 t369 x10_2).length : Int) := of_decide_eq_true asm
            obtain ⟨ad374, e374, hx374_0⟩ := Kd.at_int (cv HR373_0.out) (ji17) p374 q374
            cases e374
            replace p374 := eq_true p374
            replace q374 := eq_true q374
            go_wp2_with (first | ((with_reducible refine gate_builtin (b := .append) (xs := #[.tmp 49, .tmp 57]) rfl ?_); (try (refine gate_guard (by rfl) ?_; dsimp only)); at_builtin; refine Kd.R_append (Kd.int .i64) (w0 := w) w.heap.size rfl (.tmp 49) (.tmp 57) 29 3 (.int .i64 0) 8 rfl Try.underlying29 info3 rfl (by decide) (by omega) u8 x8_2 (rd (rd_L3 t369 x10_2) (ji17)) [.int .i64 (rd (rd_L3 t369 x10_2) (ji17))] (fun _ => True) (fun _ => False) rfl rfl ?aP (fun _ hk => hk.elim) ?aF ?aO ?aB ?aS ?aL ?_; (case aP => exact rfl); (case aB => exact (bt)); (case aF => exact (fun _ _ => trivial)); (case aO => exact (mv HO_8.out)); (case aS => exact (below_size (bt))); (case aL => have := LMc19.out; omega); intro v376 w21 ho hb hg hat; rw [← Ny375.out] at ho; replace HO_9 := am (Kd.N_afterv (ok := (fun _ => True)) (by (with_reducible repeat (first | apply Kd.N_alloc | apply Kd.N_drewN | apply Kd.N_drew)); exact Kd.N_mono HO_9.out (fun _ hk => ⟨trivial, hk⟩)) hg hat); replace HL372_0 := am (Kd.V_afterv (ok := (fun k_ => some k_ ≠ (.slice (some ad372) t369.length co20 : Value).ownBlock)) (by (with_reducible repeat (first | apply Kd.V_alloc | apply Kd.V_drewN | apply Kd.V_drew)); exact Kd.V_mono HL372_0.out (fun _ hk => ⟨hk.2, hk.1⟩)) hg hat); replace HL373_0 := am (Kd.V_afterv (ok := (fun k_ => some k_ ≠ (.slice (some ad372) t369.length co20 : Value).ownBlock)) (by (with_reducible repeat (first | apply Kd.V_alloc | apply Kd.V_drewN | apply Kd.V_drew)); exact Kd.V_mono HL373_0.out (fun _ hk => ⟨hk.2, hk.1⟩)) hg hat); replace HB := am (hb); have HO377 := am (ho); clear HO_8; clear ho hb hg hat))
            go_roundg k2
            case measure => have := HJ3.out; have := HK2.out; omega
            case rel => exact ⟨(wrap64 (Int.tdiv x2_2 2)), (y375), (wrap64 (x10_2 + 1)), (by first | rfl | (simp; done) | (simp [*]; done)), (by first | rfl | (simp; done) | (simp [*]; done)), H', ⟨by have := HJ3.out; have := HK2.out; omega⟩, ⟨mv HO377.out⟩, ⟨by (with_reducible repeat (first | apply Kd.N_alloc | apply Kd.N_drewN | apply Kd.N_drew)); exact Kd.N_mono HO_9.out (fun _ hk => hk.2)⟩, ⟨bt⟩⟩
           ·rw [if_neg c19] at H
            exact absurd H (by simp)
          ·rw [if_neg c18] at H
           exact absurd H (by simp)
         ·rw [if_neg c16] at H
          have c16b0 : decide ((wrap64 ((wrap64 (x2_2 + 1)) - (wrap64 (2 * (Int.tmod x2_2 2))))) < ((rd_L3 t369 x10_2).length : Int)) = false := decide_eq_false c16
          clear c16
          have H' := am H
          clear H
          obtain ⟨Ao22, co22, eo22⟩ := Kd.N_slice HO_9.out
          subst eo22
          have p372 : 0 ≤ (x10_2 : Int) := of_decide_eq_true asm
          have q372 : x10_2 < (t369.length : Int) := of_decide_eq_true asm
          obtain ⟨ad372, A372_0, c372_0, e372, hx372_0, hl372_0, hi372_0⟩ := at_L3 (Kd.N_reads' HO_9.out).2.2 x10_2 p372 q372
          cases e372
          obtain ⟨ce372, hce372, hMe372, hcc372⟩ := Kd.N_get HO_9.out [] x10_2 p372 (by first | exact q372 | exact of_decide_eq_true asm | (have e_ := (Kd.N_reads' HO_9.out).1; omega))
          obtain ⟨ua372_0, uc372_0, rfl, ul372_0, ge372_0⟩ := Kd.FK_slice_open hMe372
          have hv372_0 := hcc372 0 _ rfl
          rw [Nat.add_zero, show ((Kd.slice 3 (Kd.int .i64))).sz = 1 from rfl, Nat.mul_one] at hv372_0
          replace hv372_0 := Option.some.inj (hv372_0.symm.trans hx372_0)
          injection hv372_0 with hva_ hvn_ hvc_
          rw [hva_] at ge372_0
          rw [hvc_] at ul372_0
          have HL372_0 := am (show Kd.V (Kd.int .i64) 3 _ w.heap.size _ _ (rd_L3 t369 x10_2) from Kd.V_mk ul372_0 ge372_0)
          clear hva_ hvn_ hvc_ ge372_0 ul372_0
          clear hcc372 hce372
          have HR372_0 := am hi372_0
          have HC372_0 := am hl372_0
          clear hi372_0 hl372_0
          replace p372 := eq_true p372
          replace q372 := eq_true q372
          go_wp2
          go_roundg k2
          case measure => have := HJ3.out; have := HK2.out; omega
          case rel => exact ⟨(wrap64 (Int.tdiv x2_2 2)), (x8_2), (wrap64 (x10_2 + 1)), (by first | rfl | (simp; done) | (simp [*]; done)), (by first | rfl | (simp; done) | (simp [*]; done)), H', ⟨by have := HJ3.out; have := HK2.out; omega⟩, ⟨mv HO_8.out⟩, ⟨mv HO_9.out⟩, ⟨bt⟩⟩
        ·rw [if_neg c15] at H
         exact absurd H (by simp)
       ·rw [if_neg c14] at H
        exact absurd H (by simp)
      ·rw [if_neg c13] at H
       have c13b0 : decide ((wrap64 (x10_2 + 1)) < (t369.length : Int)) = false := decide_eq_false c13
       clear c13
       simp only [Option.some.injEq, Prod.mk.injEq] at H
       obtain ⟨rfl, rfl⟩ := H
       obtain ⟨Ao23, co23, eo23⟩ := Kd.N_slice HO_9.out
       subst eo23
       go_wp2
       go_ret2
       exact ⟨_, by first | rfl | (simp [errW_none, errW_some] <;> rfl) | (simp [*, errW_none, errW_some] <;> rfl), by (with_reducible repeat (first | apply Kd.R_alloc | apply Kd.R_drewN | apply Kd.R_drew)); exact HO_8.out, bt⟩

end Go.Proofs.Ytchjajbkaiefdaa.PFnForgery
