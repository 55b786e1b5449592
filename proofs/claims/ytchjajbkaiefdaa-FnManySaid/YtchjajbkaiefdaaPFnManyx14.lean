-- Written by a program of this workplace (wip/mp.py) out of the translation.
import Derived.Test.YtchjajbkaiefdaaPFnManyx0
import Derived.Test.YtchjajbkaiefdaaPFnManyx10
import Derived.Test.YtchjajbkaiefdaaPFnManyx12
namespace Go.Proofs.Ytchjajbkaiefdaa.PFnMany
open Go.RowKit Go.Proofs.YtchjajbkaiefdaaW.PrintWords Go.Proofs.YtchjajbkaiefdaaW.PrintLast Go.Proofs.YtchjajbkaiefdaaW.PrintMore Go.Proofs.Ytchjajbkaiefdaa.Slim
attribute [local go_sem] max2_int min2_int max_two min_two max_three min_three max_four min_four   -- for this text's walks alone
set_option linter.unusedVariables false
set_option linter.unusedSimpArgs false

/-! ### spec_l2Up: function 140 -/
mutual
def spec_l2Up.l0 : Nat → Int → Int → List Int → List Int → List Int → List Int → List Int → Int → Option (List Int × List Int × List Int × Bool)
 | 0, _, _, _, _, _, _, _, _ => none
 | k + 1, x0, x1, x2, x3, x4, x14, x15, x16 => if x16 < x1 then ((spec_l2Has.f k x2 x16).bind fun t591 => ((spec_l2Has.f k x2 (wrap64 (x16 + 1))).bind fun t592 => (if t591 < 0 then (spec_l2Up.j1 k x0 x1 x2 x3 x4 x14 x15 x16 t591 t592 (decide (t592 < 0))) else (spec_l2Up.j1 k x0 x1 x2 x3 x4 x14 x15 x16 t591 t592 false)))) else (some (x14, x15, x4, true))
def spec_l2Up.j1 : Nat → Int → Int → List Int → List Int → List Int → List Int → List Int → Int → Int → Int → Bool → Option (List Int × List Int × List Int × Bool)
 | 0, _, _, _, _, _, _, _, _, _, _, _ => none
 | k + 1, x0, x1, x2, x3, x4, x14, x15, x16, x17, x18, x41 => if x41 = true then (spec_l2Up.l0 k x0 x1 x2 x3 x4 x14 x15 (wrap64 (x16 + 2))) else (if x14.length < 17592186044416 then ((some (x14 ++ [wrap64 (Int.tdiv x16 2)] : List Int)).bind fun y593 => (if (wrap64 (x16 + 1)) = x1 then (if 0 ≤ x17 then (if x17 < (x3.length : Int) then (if x15.length < 17592186044416 then (spec_l2Up.l0 k x0 x1 x2 x3 x4 y593 (x15 ++ [rd x3 x17]) (wrap64 (x16 + 2))) else (none)) else (none)) else (none)) else (if x17 < 0 then (spec_l2Up.j2 k x0 x1 x2 x3 x4 y593 x15 x16 x17 x18 0 true) else (spec_l2Up.j2 k x0 x1 x2 x3 x4 y593 x15 x16 x17 x18 0 (decide (x18 < 0)))))) else (none))
def spec_l2Up.j2 : Nat → Int → Int → List Int → List Int → List Int → List Int → List Int → Int → Int → Int → Int → Bool → Option (List Int × List Int × List Int × Bool)
 | 0, _, _, _, _, _, _, _, _, _, _, _, _ => none
 | k + 1, x0, x1, x2, x3, x4, x14, x15, x16, x17, x18, x19, x63 => if x63 = true then (if (x4.length : Int) = 0 then (some (x14, x15, x4, false)) else (if 0 < (x4.length : Int) then ((spec_l2Digest.f x0 (rd x4 0)).bind fun t601 => (if t601 = true then (if 1 ≤ (x4.length : Int) then (spec_l2Up.j3 k x0 x1 x2 x3 (x4.drop 1) x14 x15 x16 x17 x18 (rd x4 0)) else (none)) else (some (x14, x15, x4, false)))) else (none))) else (spec_l2Up.j3 k x0 x1 x2 x3 x4 x14 x15 x16 x17 x18 x19)
def spec_l2Up.j3 : Nat → Int → Int → List Int → List Int → List Int → List Int → List Int → Int → Int → Int → Int → Option (List Int × List Int × List Int × Bool)
 | 0, _, _, _, _, _, _, _, _, _, _, _ => none
 | k + 1, x0, x1, x2, x3, x4, x14, x15, x16, x17, x18, x19 => if x17 ≥ 0 then (if 0 ≤ x17 then (if x17 < (x3.length : Int) then (if x18 ≥ 0 then (if 0 ≤ x18 then (if x18 < (x3.length : Int) then ((spec_NodeOf.f k x0 (rd x3 x17) (rd x3 x18)).bind fun t610 => (if x15.length < 17592186044416 then (spec_l2Up.l0 k x0 x1 x2 x3 x4 x14 (x15 ++ [t610]) (wrap64 (x16 + 2))) else (none))) else (none)) else (none)) else ((spec_NodeOf.f k x0 (rd x3 x17) x19).bind fun t614 => (if x15.length < 17592186044416 then (spec_l2Up.l0 k x0 x1 x2 x3 x4 x14 (x15 ++ [t614]) (wrap64 (x16 + 2))) else (none)))) else (none)) else (none)) else (if x18 ≥ 0 then (if 0 ≤ x18 then (if x18 < (x3.length : Int) then ((spec_NodeOf.f k x0 x19 (rd x3 x18)).bind fun t619 => (if x15.length < 17592186044416 then (spec_l2Up.l0 k x0 x1 x2 x3 x4 x14 (x15 ++ [t619]) (wrap64 (x16 + 2))) else (none))) else (none)) else (none)) else ((spec_NodeOf.f k x0 x19 x19).bind fun t623 => (if x15.length < 17592186044416 then (spec_l2Up.l0 k x0 x1 x2 x3 x4 x14 (x15 ++ [t623]) (wrap64 (x16 + 2))) else (none))))
end
def spec_l2Up.f (k : Nat) (a0 : Int) (a1 : Int) (l2 : List Int) (l3 : List Int) (l4 : List Int) : Option (List Int × List Int × List Int × Bool) := spec_l2Up.l0 k a0 a1 l2 l3 l4 (([] : List Int)) (([] : List Int)) 0
set_option maxHeartbeats 8000000 in
set_option maxRecDepth 100000 in
theorem spec_l2Up.calls (k : Nat) (a0 : Int) (a1 : Int) (A2 : Option Addr) (c2 : Nat) (l2 : List Int) (A3 : Option Addr) (c3 : Nat) (l3 : List Int) (P4_ : Nat → Prop) (A4 : Option Addr) (c4 : Nat) (l4 : List Int) (r1 : List Int) (r2 : List Int) (r3 : List Int) (r4 : Bool) (w : World) (hr2 : Kd.C (Kd.int .i64) w A2 l2.length l2) (hc2 : l2.length ≤ c2) (hr3 : Kd.C (Kd.int .i64) w A3 l3.length l3) (hc3 : l3.length ≤ c3) (hs4 : Kd.V (Kd.int .i64) 3 w w.heap.size (fun k_ => P4_ k_) (.slice A4 l4.length c4) l4) (h : spec_l2Up.f k a0 a1 l2 l3 l4 = some (r1, r2, r3, r4)) :
  Calls Try.prog 140 #[.int .i64 a0, .int .i64 a1, .slice A2 l2.length c2, .slice A3 l3.length c3, .slice A4 l4.length c4] w fun e w' => ∃ v0_ v1_ v2_ : Value, e = .returned (.tuple #[v0_, v1_, v2_, .bool r4]) ∧ Kd.R (Kd.int .i64) 3 w' w.heap.size (fun k_ => (w.heap.size ≤ k_) ∧ nb k_ v1_) v0_ r1 ∧ Kd.R (Kd.int .i64) 3 w' w.heap.size (fun k_ => (w.heap.size ≤ k_) ∧ nb k_ v0_) v1_ r2 ∧ Kd.V (Kd.int .i64) 3 w' w.heap.size (fun k_ => (P4_ k_ ∨ w.heap.size ≤ k_) ∧ nb k_ v0_ ∧ nb k_ v1_) v2_ r3 ∧ Below w.heap.size w w' := by
 have HR2 := am hr2
 have HC2 := am hc2
 clear hr2 hc2
 have HR3 := am hr3
 have HC3 := am hc3
 clear hr3 hc3
 have HO4 := am (show Kd.V (Kd.int .i64) 3 w w.heap.size (fun k_ => (P4_ k_ ∨ w.heap.size ≤ k_)) (.slice A4 l4.length c4) l4 from Kd.V_mono hs4 (fun k_ hk => .inl hk))
 have HB := am (Below.refl w.heap.size w)
 have H : (spec_l2Up.l0 k a0 a1 l2 l3 l4 (([] : List Int)) (([] : List Int)) 0) = some (r1, r2, r3, r4) := h
 clear h
 obtain ⟨y585, hy585⟩ : ∃ y_ : List Int, y_ = (([] : List Int)) := ⟨_, rfl⟩
 replace H : (spec_l2Up.l0 k a0 a1 l2 l3 l4 y585 (([] : List Int)) 0) = some (r1, r2, r3, r4) := by first | (rw [hy585]; exact H) | exact H
 have Ny585 := am hy585
 clear hy585
 obtain ⟨y588, hy588⟩ : ∃ y_ : List Int, y_ = (([] : List Int)) := ⟨_, rfl⟩
 replace H : (spec_l2Up.l0 k a0 a1 l2 l3 l4 y585 y588 0) = some (r1, r2, r3, r4) := by first | (rw [hy588]; exact H) | exact H
 have Ny588 := am hy588
 clear hy588
 have H' := am H
 clear H
 go_enter Try.func140, Try.ntmps140
 go_wp2_with (first | ((with_reducible refine gate_dst (N := 22) rfl ?_); refine Kd.R_lit (Kd.int .i64) _ 3 ?hg (N := 22) ?hd (xs := ([] : List Int)) (inner := []) (ok := fun _ => True) (okp := fun _ => True) ?hr ?hp (fun _ hk => hk) trivial (Below.refl _ _) (Nat.le_refl _) (by simp) ?_; (case hd => rfl); (case hg => rfl); (case hr => first | (go_simp; done) | (go_simp; rfl)); (case hp => exact (Reps.none _ _)); intro v586 w6 ho7 hb hg_ hnew_; clear hg_ hnew_; (first | rw [← Ny585.out] at ho7 | (simp only [Int.reduceToNat] at ho7; rw [← Ny585.out] at ho7)); replace HO4 := am (Kd.V_elder' (mv HO4.out) (Kd.R_base ho7) hb); have HO587 := am (Kd.R_lower (Kd.R_newM (M := fun k_ => (w.heap.size ≤ k_)) ho7 (below_size (bt)) (fun k_ h_ => h_)) (below_size (bt))); replace HB := am (below_step (bt) hb); clear hb ho7) | ((with_reducible refine gate_dst (N := 23) rfl ?_); refine Kd.R_lit (Kd.int .i64) _ 3 ?hg (N := 23) ?hd (xs := ([] : List Int)) (inner := []) (ok := fun _ => True) (okp := fun _ => True) ?hr ?hp (fun _ hk => hk) trivial (Below.refl _ _) (Nat.le_refl _) (by simp) ?_; (case hd => rfl); (case hg => rfl); (case hr => first | (go_simp; done) | (go_simp; rfl)); (case hp => exact (Reps.none _ _)); intro v589 w8 ho9 hb hg_ hnew_; clear hg_ hnew_; (first | rw [← Ny588.out] at ho9 | (simp only [Int.reduceToNat] at ho9; rw [← Ny588.out] at ho9)); replace HO4 := am (Kd.V_elder' (mv HO4.out) (Kd.R_base ho9) hb); have HO590 := am (Kd.R_lower (Kd.R_new' (Kd.R_newM (M := fun k_ => (w.heap.size ≤ k_)) ho9 (below_size (bt)) (fun k_ h_ => h_)) (Kd.R_lt (mv HO587.out))) (below_size (bt))); replace HO587 := am (Kd.R_elder' (mv HO587.out) (Kd.R_base ho9) hb); replace HB := am (below_step (bt) hb); clear hb ho9))
 go_loopg [4, 14, 15, 16] k (fun kq v4 v14 v15 v16 w' => ∃ (x4_1 : List Int) (x14_1 : List Int) (x15_1 : List Int) (x16_1 : Int), v16 = .int .i64 x16_1 ∧ Aside0 (spec_l2Up.l0 kq a0 a1 l2 l3 x4_1 x14_1 x15_1 x16_1 = some (r1, r2, r3, r4)) ∧ Aside0 (kq ≤ k) ∧ Aside0 (Kd.V (Kd.int .i64) 3 w' w.heap.size (fun k_ => (P4_ k_ ∨ w.heap.size ≤ k_) ∧ nb k_ v14 ∧ nb k_ v15) v4 x4_1) ∧ Aside0 (Kd.R (Kd.int .i64) 3 w' w.heap.size (fun k_ => (w.heap.size ≤ k_) ∧ nb k_ v15) v14 x14_1) ∧ Aside0 (Kd.R (Kd.int .i64) 3 w' w.heap.size (fun k_ => (w.heap.size ≤ k_) ∧ nb k_ v14) v15 x15_1) ∧ Aside0 (Below w.heap.size w w'))
 case atStart => exact ⟨(l4), (y585), (y588), (0), e0, H', ⟨Nat.le_refl _⟩, ⟨rV (h := by exact Kd.V_mono HO4.out (fun _ hk => ⟨hk.1.1, ⟨hk.1.2, hk.2⟩⟩))⟩, ⟨rR (h := by exact Kd.R_mono HO587.out (fun _ hk => ⟨hk.1.1, hk.2⟩))⟩, ⟨rR (h := by exact Kd.R_mono HO590.out (fun _ hk => ⟨hk.1.1, hk.2⟩))⟩, ⟨bt⟩⟩
 case round =>
  clear H'
  obtain ⟨x4_1, x14_1, x15_1, x16_1, rfl, HA, HK1, HO_4, HO_14, HO_15, HB⟩ := hrel
  cases gk with
  | zero => exact absurd HA.out (by simp [spec_l2Up.l0])
  | succ k1 =>
   have H := HA.out
   clear HA
   simp only [spec_l2Up.l0] at H
   by_cases c10 : x16_1 < a1
   ·rw [if_pos c10] at H
    have c10b0 : decide (x16_1 < a1) = true := decide_eq_true c10
    clear c10
    obtain ⟨t591, A11, H⟩ := bm H
    (try dsimp -simprocs only at H)
    obtain ⟨t592, A12, H⟩ := bm H
    (try dsimp -simprocs only at H)
    have HC13 := am H
    clear H
    go_upto_region 6 with (first | ((with_reducible refine gate_callee (f := 124) rfl ?_); refine goesL_ (some 31) rfl rfl Try.func124 (by kernel_rfl) rfl #[.slice A2 l2.length c2, .int .i64 x16_1] rfl av ?_; (with_reducible refine (spec_l2Has.calls k1 _ _ l2 x16_1 t591 _ ?side1 ?side2 A11.out).mono ?_); (case side1 => exact cv ((Kd.C_below HR2.out HB.out))); (case side2 => exact HC2.out); rintro e w' ⟨rfl, ⟨nd, rfl⟩⟩; refine ⟨_, rfl, ?_⟩) | ((with_reducible refine gate_callee (f := 124) rfl ?_); refine goesL_ (some 35) rfl rfl Try.func124 (by kernel_rfl) rfl #[.slice A2 l2.length c2, .int .i64 (wrap64 (x16_1 + 1))] rfl av ?_; (with_reducible refine (spec_l2Has.calls k1 _ _ l2 (wrap64 (x16_1 + 1)) t592 _ ?side1 ?side2 A12.out).mono ?_); (case side1 => exact cv ((Kd.C_below HR2.out (bt)))); (case side2 => exact HC2.out); rintro e w' ⟨rfl, ⟨nd, rfl⟩⟩; refine ⟨_, rfl, ?_⟩))
    (try simp only [Act.put, List.setIfInBounds_toArray, List.set_cons_zero, List.set_cons_succ])
    go_cut [41] (fun v41 wc => ∃ (kq : Nat) (x41_12 : Bool), v41 = .bool x41_12 ∧ Aside0 (spec_l2Up.j1 kq a0 a1 l2 l3 x4_1 x14_1 x15_1 x16_1 t591 t592 x41_12 = some (r1, r2, r3, r4)) ∧ Aside0 (kq ≤ k1) ∧ Aside0 (Kd.V (Kd.int .i64) 3 wc w.heap.size (fun k_ => (P4_ k_ ∨ w.heap.size ≤ k_) ∧ nb k_ u14 ∧ nb k_ u15) u4 x4_1) ∧ Aside0 (Kd.R (Kd.int .i64) 3 wc w.heap.size (fun k_ => (w.heap.size ≤ k_) ∧ nb k_ u15) u14 x14_1) ∧ Aside0 (Kd.R (Kd.int .i64) 3 wc w.heap.size (fun k_ => (w.heap.size ≤ k_) ∧ nb k_ u14) u15 x15_1) ∧ Aside0 (Below w.heap.size w wc))
    case first =>
     have H := HC13.out
     clear HC13
     by_cases c14 : t591 < 0
     ·rw [if_pos c14] at H
      have c14b0 : decide (t591 < 0) = true := decide_eq_true c14
      clear c14
      (first | rw [c14b0] | (simp only [i64_w, i32_w]; rw [c14b0]) | skip)
      have H' := am H
      clear H
      go_wp2
      go_meet
      case rel => exact ⟨_, (decide (t592 < 0)), e0, H', ⟨by have := HK1.out; first | omega | exact Nat.le_refl _⟩, ⟨mv HO_4.out⟩, ⟨mv HO_14.out⟩, ⟨mv HO_15.out⟩, ⟨bt⟩⟩
     ·rw [if_neg c14] at H
      have c14b0 : decide (t591 < 0) = false := decide_eq_false c14
      clear c14
      (first | rw [c14b0] | (simp only [i64_w, i32_w]; rw [c14b0]) | skip)
      have H' := am H
      clear H
      go_wp2
      go_meet
      case rel => exact ⟨_, (false), e0, H', ⟨by have := HK1.out; first | omega | exact Nat.le_refl _⟩, ⟨mv HO_4.out⟩, ⟨mv HO_14.out⟩, ⟨mv HO_15.out⟩, ⟨bt⟩⟩
    case rest =>
     clear HC13
     obtain ⟨kq, x41_12, rfl, HA, HJ12, HO_4, HO_14, HO_15, HB⟩ := hcut
     cases kq with
     | zero => exact absurd HA.out (by simp [spec_l2Up.j1])
     | succ kj12 =>
      have H := HA.out
      clear HA
      simp only [spec_l2Up.j1] at H
      by_cases c15 : x41_12 = true
      ·subst c15
       rw [if_pos rfl] at H
       have H' := am H
       clear H
       go_wp2
       go_roundg kj12
       case measure => have := HK1.out; have := HJ12.out; omega
       case rel => exact ⟨(x4_1), (x14_1), (x15_1), (wrap64 (x16_1 + 2)), e0, H', ⟨by have := HK1.out; have := HJ12.out; omega⟩, ⟨mv HO_4.out⟩, ⟨mv HO_14.out⟩, ⟨mv HO_15.out⟩, ⟨bt⟩⟩
      ·replace c15 := Bool.eq_false_iff.mpr c15
       subst c15
       rw [if_neg nft] at H
       by_cases c16 : x14_1.length < 17592186044416
       ·rw [if_pos c16] at H
        have LMc16 := am c16
        clear c16
        obtain ⟨y593, hy593⟩ : ∃ y_ : List Int, y_ = (x14_1 ++ [wrap64 (Int.tdiv x16_1 2)]) := ⟨_, rfl⟩
        replace H : (if (wrap64 (x16_1 + 1)) = a1 then (if 0 ≤ t591 then (if t591 < (l3.length : Int) then (if x15_1.length < 17592186044416 then (spec_l2Up.l0 kj12 a0 a1 l2 l3 x4_1 y593 (x15_1 ++ [rd l3 t591]) (wrap64 (x16_1 + 2))) else (none)) else (none)) else (none)) else (if t591 < 0 then (spec_l2Up.j2 kj12 a0 a1 l2 l3 x4_1 y593 x15_1 x16_1 t591 t592 0 true) else (spec_l2Up.j2 kj12 a0 a1 l2 l3 x4_1 y593 x15_1 x16_1 t591 t592 0 (decide (t592 < 0))))) = some (r1, r2, r3, r4) := by first | (rw [hy593]; exact H) | exact H
        have Ny593 := am hy593
        clear hy593
        by_cases c17 : (wrap64 (x16_1 + 1)) = a1
        ·rw [if_pos c17] at H
         have c17b0 : ((wrap64 (x16_1 + 1)) == a1) = true := beq_iff_eq.mpr c17
         have c17b1 : ((wrap64 (x16_1 + 1)) != a1) = false := bne_eq_false_iff_eq.mpr c17
         clear c17
         by_cases c18 : 0 ≤ t591
         ·rw [if_pos c18] at H
          have c18b0 : decide (0 ≤ t591) = true := decide_eq_true c18
          clear c18
          by_cases c19 : t591 < (l3.length : Int)
          ·rw [if_pos c19] at H
           have c19b0 : decide (t591 < (l3.length : Int)) = true := decide_eq_true c19
           clear c19
           by_cases c20 : x15_1.length < 17592186044416
           ·rw [if_pos c20] at H
            have LMc20 := am c20
            clear c20
            obtain ⟨y597, hy597⟩ : ∃ y_ : List Int, y_ = (x15_1 ++ [rd l3 t591]) := ⟨_, rfl⟩
            replace H : (spec_l2Up.l0 kj12 a0 a1 l2 l3 x4_1 y593 y597 (wrap64 (x16_1 + 2))) = some (r1, r2, r3, r4) := by first | (rw [hy597]; exact H) | exact H
            have Ny597 := am hy597
            clear hy597
            have H' := am H
            clear H
            go_wp2_with (first | ((with_reducible refine gate_builtin (b := .append) (xs := #[.tmp 42, .tmp 45]) rfl ?_); at_builtin; refine Kd.R_append (Kd.int .i64) (w0 := w) w.heap.size rfl (.tmp 42) (.tmp 45) 29 3 (.int .i64 0) 8 rfl Try.underlying29 info3 rfl (by decide) (by omega) u14 x14_1 (wrap64 (Int.tdiv x16_1 2)) [.int .i64 (wrap64 (Int.tdiv x16_1 2))] (fun k_ => (w.heap.size ≤ k_) ∧ nb k_ u15) (fun _ => False) rfl rfl ?aP (fun _ hk => hk.elim) ?aF ?aO ?aB ?aS ?aL ?_; (case aP => exact rfl); (case aB => exact (bt)); (case aF => exact (fun k_ hk => ⟨(Nat.le_trans (below_size (bt)) hk), Kd.fresh' (Kd.R_lt (mv HO_15.out)) k_ hk⟩)); (case aO => exact (mv HO_14.out)); (case aS => exact (below_size (bt))); (case aL => have := LMc16.out; omega); intro v594 w21 ho hb hg hat; rw [← Ny593.out] at ho; replace HO_4 := am (Kd.V_afterv (ok := (fun k_ => (P4_ k_ ∨ w.heap.size ≤ k_) ∧ nb k_ u15)) (rV (h := by exact Kd.V_mono HO_4.out (fun _ hk => ⟨⟨hk.1, hk.2.2⟩, hk.2.1⟩))) hg hat); replace HO_15 := am (Kd.R_after (ok := (fun k_ => (w.heap.size ≤ k_))) (mv HO_15.out) hg hat); replace HB := am (hb); have HO595 := am (ho); clear HO_14; clear ho hb hg hat; have p596 : 0 ≤ (t591 : Int) := of_decide_eq_true asm; have q596 : t591 < (l3.length : Int) := of_decide_eq_true asm; obtain ⟨ad596, e596, hx596_0⟩ := Kd.at_int HR3.out t591 p596 q596; cases e596; (try (replace hx596_0 := (HB.out.cell (World.block_lt_of_cell? w _ hx596_0)).trans hx596_0)); replace p596 := eq_true p596; replace q596 := eq_true q596) | ((with_reducible refine gate_builtin (b := .append) (xs := #[.tmp 51, .tmp 56]) rfl ?_); at_builtin; refine Kd.R_append (Kd.int .i64) (w0 := w) w.heap.size rfl (.tmp 51) (.tmp 56) 29 3 (.int .i64 0) 8 rfl Try.underlying29 info3 rfl (by decide) (by omega) u15 x15_1 (rd l3 t591) [.int .i64 (rd l3 t591)] (fun k_ => (w.heap.size ≤ k_) ∧ nb k_ v594) (fun _ => False) rfl rfl ?aP (fun _ hk => hk.elim) ?aF ?aO ?aB ?aS ?aL ?_; (case aP => exact rfl); (case aB => exact (bt)); (case aF => exact (fun k_ hk => ⟨(Nat.le_trans (below_size (bt)) hk), Kd.fresh' (Kd.R_lt (mv HO595.out)) k_ hk⟩)); (case aO => exact (mv HO_15.out)); (case aS => exact (below_size (bt))); (case aL => have := LMc20.out; omega); intro v598 w22 ho hb hg hat; rw [← Ny597.out] at ho; replace HO_4 := am (Kd.V_afterv (ok := (fun k_ => (P4_ k_ ∨ w.heap.size ≤ k_) ∧ nb k_ v594)) (rV (h := by exact Kd.V_mono HO_4.out (fun _ hk => ⟨⟨hk.1.1, hk.2⟩, hk.1.2⟩))) hg hat); replace HO595 := am (Kd.R_after (ok := (fun k_ => (w.heap.size ≤ k_))) (mv HO595.out) hg hat); replace HB := am (hb); have HO599 := am (ho); clear HO_15; clear ho hb hg hat))
            go_roundg kj12
            case measure => have := HK1.out; have := HJ12.out; omega
            case rel => exact ⟨(x4_1), (y593), (y597), (wrap64 (x16_1 + 2)), e0, H', ⟨by have := HK1.out; have := HJ12.out; omega⟩, ⟨rV (h := by exact Kd.V_mono HO_4.out (fun _ hk => ⟨hk.1.1, ⟨hk.1.2, hk.2⟩⟩))⟩, ⟨mv HO595.out⟩, ⟨mv HO599.out⟩, ⟨bt⟩⟩
           ·exact nh c20 H
          ·exact nh c19 H
         ·exact nh c18 H
        ·rw [if_neg c17] at H
         have c17b0 : ((wrap64 (x16_1 + 1)) == a1) = false := beq_eq_false_iff_ne.mpr c17
         have c17b1 : ((wrap64 (x16_1 + 1)) != a1) = true := bne_iff_ne.mpr c17
         have HC23 := am H
         clear H
         go_upto_region 11 with (first | ((with_reducible refine gate_builtin (b := .append) (xs := #[.tmp 42, .tmp 45]) rfl ?_); at_builtin; refine Kd.R_append (Kd.int .i64) (w0 := w) w.heap.size rfl (.tmp 42) (.tmp 45) 29 3 (.int .i64 0) 8 rfl Try.underlying29 info3 rfl (by decide) (by omega) u14 x14_1 (wrap64 (Int.tdiv x16_1 2)) [.int .i64 (wrap64 (Int.tdiv x16_1 2))] (fun k_ => (w.heap.size ≤ k_) ∧ nb k_ u15) (fun _ => False) rfl rfl ?aP (fun _ hk => hk.elim) ?aF ?aO ?aB ?aS ?aL ?_; (case aP => exact rfl); (case aB => exact (bt)); (case aF => exact (fun k_ hk => ⟨(Nat.le_trans (below_size (bt)) hk), Kd.fresh' (Kd.R_lt (mv HO_15.out)) k_ hk⟩)); (case aO => exact (mv HO_14.out)); (case aS => exact (below_size (bt))); (case aL => have := LMc16.out; omega); intro v594 w24 ho hb hg hat; rw [← Ny593.out] at ho; replace HO_4 := am (Kd.V_afterv (ok := (fun k_ => (P4_ k_ ∨ w.heap.size ≤ k_) ∧ nb k_ u15)) (rV (h := by exact Kd.V_mono HO_4.out (fun _ hk => ⟨⟨hk.1, hk.2.2⟩, hk.2.1⟩))) hg hat); replace HO_15 := am (Kd.R_after (ok := (fun k_ => (w.heap.size ≤ k_))) (mv HO_15.out) hg hat); replace HB := am (hb); have HO595 := am (ho); clear HO_14; clear ho hb hg hat))
         (try simp only [Act.put, List.setIfInBounds_toArray, List.set_cons_zero, List.set_cons_succ])
         go_cut [63] (fun v63 wc => ∃ (kq : Nat) (x63_22 : Bool), v63 = .bool x63_22 ∧ Aside0 (spec_l2Up.j2 kq a0 a1 l2 l3 x4_1 y593 x15_1 x16_1 t591 t592 0 x63_22 = some (r1, r2, r3, r4)) ∧ Aside0 (kq ≤ kj12) ∧ Aside0 (Kd.V (Kd.int .i64) 3 wc w.heap.size (fun k_ => (P4_ k_ ∨ w.heap.size ≤ k_) ∧ nb k_ v594 ∧ nb k_ u15) u4 x4_1) ∧ Aside0 (Kd.R (Kd.int .i64) 3 wc w.heap.size (fun k_ => (w.heap.size ≤ k_) ∧ nb k_ u15) v594 y593) ∧ Aside0 (Kd.R (Kd.int .i64) 3 wc w.heap.size (fun k_ => (w.heap.size ≤ k_) ∧ nb k_ v594) u15 x15_1) ∧ Aside0 (Below w.heap.size w wc))
         case first =>
          have H := HC23.out
          clear HC23
          by_cases c25 : t591 < 0
          ·rw [if_pos c25] at H
           have c25b0 : decide (t591 < 0) = true := decide_eq_true c25
           clear c25
           (first | rw [c25b0] | (simp only [i64_w, i32_w]; rw [c25b0]) | skip)
           have H' := am H
           clear H
           go_wp2
           go_meet
           case rel => exact ⟨_, (true), e0, H', ⟨by have := HK1.out; have := HJ12.out; first | omega | exact Nat.le_refl _⟩, ⟨rV (h := by exact Kd.V_mono HO_4.out (fun _ hk => ⟨hk.1.1, ⟨hk.2, hk.1.2⟩⟩))⟩, ⟨mv HO595.out⟩, ⟨mv HO_15.out⟩, ⟨bt⟩⟩
          ·rw [if_neg c25] at H
           have c25b0 : decide (t591 < 0) = false := decide_eq_false c25
           clear c25
           (first | rw [c25b0] | (simp only [i64_w, i32_w]; rw [c25b0]) | skip)
           have H' := am H
           clear H
           go_wp2
           go_meet
           case rel => exact ⟨_, (decide (t592 < 0)), e0, H', ⟨by have := HK1.out; have := HJ12.out; first | omega | exact Nat.le_refl _⟩, ⟨rV (h := by exact Kd.V_mono HO_4.out (fun _ hk => ⟨hk.1.1, ⟨hk.2, hk.1.2⟩⟩))⟩, ⟨mv HO595.out⟩, ⟨mv HO_15.out⟩, ⟨bt⟩⟩
         case rest =>
          clear HC23
          obtain ⟨kq, x63_22, rfl, HA, HJ22, HO_4, HO_14, HO_15, HB⟩ := hcut
          cases kq with
          | zero => exact absurd HA.out (by simp [spec_l2Up.j2])
          | succ kj22 =>
           have H := HA.out
           clear HA
           simp only [spec_l2Up.j2] at H
           have HC26 := am H
           clear H
           go_upto_if 63 with (fail)
           go_cut [4, 19] (fun v4 v19 wc => ∃ (kq : Nat) (x4_25 : List Int) (x19_25 : Int), v19 = .int .i64 x19_25 ∧ Aside0 (spec_l2Up.j3 kq a0 a1 l2 l3 x4_25 y593 x15_1 x16_1 t591 t592 x19_25 = some (r1, r2, r3, r4)) ∧ Aside0 (kq ≤ kj22) ∧ Aside0 (Kd.V (Kd.int .i64) 3 wc w.heap.size (fun k_ => (P4_ k_ ∨ w.heap.size ≤ k_) ∧ nb k_ v594 ∧ nb k_ u15) v4 x4_25) ∧ Aside0 (Kd.R (Kd.int .i64) 3 wc w.heap.size (fun k_ => (w.heap.size ≤ k_) ∧ nb k_ u15) v594 y593) ∧ Aside0 (Kd.R (Kd.int .i64) 3 wc w.heap.size (fun k_ => (w.heap.size ≤ k_) ∧ nb k_ v594) u15 x15_1) ∧ Aside0 (Below w.heap.size w wc))
           case first =>
            have H := HC26.out
            clear HC26
            by_cases c27 : x63_22 = true
            ·subst c27
             rw [if_pos rfl] at H
             by_cases c28 : (x4_1.length : Int) = 0
             ·rw [if_pos c28] at H
              have c28b0 : ((x4_1.length : Int) == 0) = true := beq_iff_eq.mpr c28
              have c28b1 : ((x4_1.length : Int) != 0) = false := bne_eq_false_iff_eq.mpr c28
              clear c28
              (first | rw [c28b0] | (simp only [i64_w, i32_w]; rw [c28b0]) | skip)
              simp only [Option.some.injEq, Prod.mk.injEq] at H
              obtain ⟨rfl, rfl, rfl, rfl⟩ := H
              obtain ⟨Ao29, co29, eo29⟩ := Kd.V_slice HO_4.out
              subst eo29
              go_wp2
              refine bodyPost_ret (results_list (rs := [.tmp 10, .tmp 11, .tmp 12, .tmp 13]) rfl (by simp) (.tmp (.tmp (.tmp (.tmp .nil))))) rfl ?_
              exact ⟨_, _, _, by first | rfl | (simp [errW_none, errW_some] <;> rfl) | (simp [*, errW_none, errW_some] <;> rfl), rR (h := by exact HO_14.out), rR (h := by exact HO_15.out), rV (h := by exact HO_4.out), bt⟩
             ·rw [if_neg c28] at H
              have c28b0 : ((x4_1.length : Int) == 0) = false := beq_eq_false_iff_ne.mpr c28
              have c28b1 : ((x4_1.length : Int) != 0) = true := bne_iff_ne.mpr c28
              have c28b2 : ¬ (x4_1 = []) := fun h_ => c28 (by rw [h_]; rfl)
              (first | rw [c28b0] | (simp only [i64_w, i32_w]; rw [c28b0]) | skip)
              by_cases c30 : 0 < (x4_1.length : Int)
              ·rw [if_pos c30] at H
               have c30b0 : decide (0 < (x4_1.length : Int)) = true := decide_eq_true c30
               have c30b1 : decide (0 < x4_1.length) = true := decide_eq_true (by omega)
               clear c30
               obtain ⟨t601, A31, H⟩ := bm H
               (try dsimp -simprocs only at H)
               by_cases c32 : t601 = true
               ·subst c32
                rw [if_pos rfl] at H
                by_cases c33 : 1 ≤ (x4_1.length : Int)
                ·rw [if_pos c33] at H
                 have c33b0 := eq_true c33
                 have c33b1 : decide (1 ≤ (x4_1.length : Int)) = true := decide_eq_true c33
                 clear c33
                 obtain ⟨y603, hy603⟩ : ∃ y_ : List Int, y_ = (x4_1.drop 1) := ⟨_, rfl⟩
                 replace H : (spec_l2Up.j3 kj22 a0 a1 l2 l3 y603 y593 x15_1 x16_1 t591 t592 (rd x4_1 0)) = some (r1, r2, r3, r4) := by first | (rw [hy603]; exact H) | exact H
                 have Ny603 := am hy603
                 clear hy603
                 have H' := am H
                 clear H
                 obtain ⟨Ao34, co34, eo34⟩ := Kd.V_slice HO_4.out
                 subst eo34
                 have p600 : 0 ≤ (0 : Int) := (by omega)
                 have q600 : 0 < (x4_1.length : Int) := of_decide_eq_true asm
                 obtain ⟨ad600, e600, hx600_0⟩ := Kd.at_int (Kd.V_reads' HO_4.out).2.2 0 p600 q600
                 cases e600
                 have qi600 : (0 < x4_1.length) = True := eq_true (by omega)
                 (try rw [show ((0 : Int)).toNat = 0 from rfl] at hx600_0)
                 (try rw [Addr.add_zero'] at hx600_0)
                 replace p600 := eq_true p600
                 replace q600 := eq_true q600
                 go_wp2_with (first | (go_at_call 139; (with_reducible refine (spec_l2Digest.calls a0 (rd x4_1 0) true _ A31.out).mono ?_); rintro e w' ⟨rfl, ⟨nd, rfl⟩⟩; have p602 : 0 ≤ (0 : Int) := (by omega); have q602 : 0 < (x4_1.length : Int) := of_decide_eq_true asm; obtain ⟨ad602, e602, hx602_0⟩ := Kd.at_int (Kd.V_reads' HO_4.out).2.2 0 p602 q602; obtain rfl : ad600 = ad602 := (by injection e602); have qi602 : (0 < x4_1.length) = True := eq_true (by omega); (try rw [show ((0 : Int)).toNat = 0 from rfl] at hx602_0); (try rw [Addr.add_zero'] at hx602_0); replace p602 := eq_true p602; replace q602 := eq_true q602; have q35 : (1 : Int) ≤ ((x4_1.length : Int) : Int) := of_decide_eq_true asm; obtain ⟨i035, hi035, _, hsz35, _⟩ := info_parts info3; have hroom35 : x4_1.length ≤ co34 := (Kd.V_reads' HO_4.out).2.1; have hC35 : Kd.F (Kd.int .i64) _ _ (some ad600) x4_1.length x4_1 := (Kd.V_at (base := w.heap.size) HO_4.out).2.2; have hcut35 := cut_from (P := Try.prog) 29 3 .i64 Try.underlying29 hi035 1 hsz35 (some ad600) x4_1.length co34 1 (by omega) q35; have hr35 := Kd.F_cut (m := (1 : Int).toNat) (c := co34) hC35 (by omega) hroom35; obtain ⟨A35, hA35⟩ : ∃ A1, A1 = (if co34 = (1 : Int).toNat then (some ad600) else ((some ad600) : Option Addr).map (·.add ((1 : Int).toNat * 1))) := ⟨_, rfl⟩; obtain ⟨c35, hc35⟩ : ∃ c1, c1 = co34 - (1 : Int).toNat := ⟨_, rfl⟩; have hy35 : y603.length = x4_1.length - (1 : Int).toNat := (by rw [Ny603.out, List.length_drop] <;> omega); rw [show (x4_1).drop (1 : Int).toNat = y603 from Ny603.out.symm] at hr35; replace hr35 : Kd.F (Kd.int .i64) _ _ A35 y603.length y603 := (by rw [hA35]; exact hr35); rw [← hy35, ← hA35, ← hc35] at hcut35; have HO607 := am (show Kd.V (Kd.int .i64) 3 _ w.heap.size _ (.slice A35 y603.length c35) y603 from Kd.V_mk (by rw [hy35, hc35]; exact Nat.sub_le_sub_right hroom35 _) hr35); have HC607 := am (show y603.length ≤ c35 from by rw [hy35, hc35]; exact Nat.sub_le_sub_right hroom35 _); clear hr35 hC35 hroom35 hi035 hsz35 hc35; have KY35 := am hy35; have KA35 := am hA35; clear hy35 hA35; replace q35 := eq_true q35))
                 go_meet
                 case rel => exact ⟨_, (y603), (rd x4_1 0), e0, H', ⟨by have := HK1.out; have := HJ12.out; have := HJ22.out; first | omega | exact Nat.le_refl _⟩, ⟨mv HO607.out⟩, ⟨mv HO_14.out⟩, ⟨mv HO_15.out⟩, ⟨bt⟩⟩
                ·exact nh c33 H
               ·replace c32 := Bool.eq_false_iff.mpr c32
                subst c32
                rw [if_neg nft] at H
                simp only [Option.some.injEq, Prod.mk.injEq] at H
                obtain ⟨rfl, rfl, rfl, rfl⟩ := H
                obtain ⟨Ao36, co36, eo36⟩ := Kd.V_slice HO_4.out
                subst eo36
                have p600 : 0 ≤ (0 : Int) := (by omega)
                have q600 : 0 < (x4_1.length : Int) := of_decide_eq_true asm
                obtain ⟨ad600, e600, hx600_0⟩ := Kd.at_int (Kd.V_reads' HO_4.out).2.2 0 p600 q600
                cases e600
                have qi600 : (0 < x4_1.length) = True := eq_true (by omega)
                (try rw [show ((0 : Int)).toNat = 0 from rfl] at hx600_0)
                (try rw [Addr.add_zero'] at hx600_0)
                replace p600 := eq_true p600
                replace q600 := eq_true q600
                go_wp2_with (first | (go_at_call 139; (with_reducible refine (spec_l2Digest.calls a0 (rd x4_1 0) false _ A31.out).mono ?_); rintro e w' ⟨rfl, ⟨nd, rfl⟩⟩))
                refine bodyPost_ret (results_list (rs := [.tmp 10, .tmp 11, .tmp 12, .tmp 13]) rfl (by simp) (.tmp (.tmp (.tmp (.tmp .nil))))) rfl ?_
                exact ⟨_, _, _, by first | rfl | (simp [errW_none, errW_some] <;> rfl) | (simp [*, errW_none, errW_some] <;> rfl), rR (h := by exact HO_14.out), rR (h := by exact HO_15.out), rV (h := by exact HO_4.out), bt⟩
              ·exact nh c30 H
            ·replace c27 := Bool.eq_false_iff.mpr c27
             subst c27
             rw [if_neg nft] at H
             have H' := am H
             clear H
             go_wp2
             go_meet
             case rel => exact ⟨_, (x4_1), (0), e0, H', ⟨by have := HK1.out; have := HJ12.out; have := HJ22.out; first | omega | exact Nat.le_refl _⟩, ⟨mv HO_4.out⟩, ⟨mv HO_14.out⟩, ⟨mv HO_15.out⟩, ⟨bt⟩⟩
           case rest =>
            clear HC26
            obtain ⟨kq, x4_25, x19_25, rfl, HA, HJ25, HO_4, HO_14, HO_15, HB⟩ := hcut
            cases kq with
            | zero => exact absurd HA.out (by simp [spec_l2Up.j3])
            | succ kj25 =>
             have H := HA.out
             clear HA
             simp only [spec_l2Up.j3] at H
             by_cases c37 : t591 ≥ 0
             ·rw [if_pos c37] at H
              have c37b0 : decide (0 ≤ t591) = true := decide_eq_true c37
              clear c37
              by_cases c38 : 0 ≤ t591
              ·rw [if_pos c38] at H
               have c38b0 : decide (0 ≤ t591) = true := decide_eq_true c38
               clear c38
               by_cases c39 : t591 < (l3.length : Int)
               ·rw [if_pos c39] at H
                have c39b0 : decide (t591 < (l3.length : Int)) = true := decide_eq_true c39
                clear c39
                by_cases c40 : t592 ≥ 0
                ·rw [if_pos c40] at H
                 have c40b0 : decide (0 ≤ t592) = true := decide_eq_true c40
                 clear c40
                 by_cases c41 : 0 ≤ t592
                 ·rw [if_pos c41] at H
                  have c41b0 : decide (0 ≤ t592) = true := decide_eq_true c41
                  clear c41
                  by_cases c42 : t592 < (l3.length : Int)
                  ·rw [if_pos c42] at H
                   have c42b0 : decide (t592 < (l3.length : Int)) = true := decide_eq_true c42
                   clear c42
                   obtain ⟨t610, A43, H⟩ := bm H
                   (try dsimp -simprocs only at H)
                   by_cases c44 : x15_1.length < 17592186044416
                   ·rw [if_pos c44] at H
                    have LMc44 := am c44
                    clear c44
                    obtain ⟨y611, hy611⟩ : ∃ y_ : List Int, y_ = (x15_1 ++ [t610]) := ⟨_, rfl⟩
                    replace H : (spec_l2Up.l0 kj25 a0 a1 l2 l3 x4_25 y593 y611 (wrap64 (x16_1 + 2))) = some (r1, r2, r3, r4) := by first | (rw [hy611]; exact H) | exact H
                    have Ny611 := am hy611
                    clear hy611
                    have H' := am H
                    clear H
                    have p608 : 0 ≤ (t591 : Int) := of_decide_eq_true asm
                    have q608 : t591 < (l3.length : Int) := of_decide_eq_true asm
                    obtain ⟨ad608, e608, hx608_0⟩ := Kd.at_int HR3.out t591 p608 q608
                    cases e608
                    replace hx608_0 := (HB.out.cell (World.block_lt_of_cell? w _ hx608_0)).trans hx608_0
                    replace p608 := eq_true p608
                    replace q608 := eq_true q608
                    have p609 : 0 ≤ (t592 : Int) := of_decide_eq_true asm
                    have q609 : t592 < (l3.length : Int) := of_decide_eq_true asm
                    obtain ⟨ad609, e609, hx609_0⟩ := Kd.at_int HR3.out t592 p609 q609
                    obtain rfl : ad608 = ad609 := (by injection e609)
                    replace hx609_0 := (HB.out.cell (World.block_lt_of_cell? w _ hx609_0)).trans hx609_0
                    replace p609 := eq_true p609
                    replace q609 := eq_true q609
                    go_wp2_with (first | ((with_reducible refine gate_callee (f := 135) rfl ?_); refine goesL_ (some 101) rfl rfl Try.func135 (by kernel_rfl) rfl #[.int .i64 a0, .int .i64 (rd l3 t591), .int .i64 (rd l3 t592)] rfl av ?_; (with_reducible refine (spec_NodeOf.calls kj25 a0 (rd l3 t591) (rd l3 t592) t610 _ A43.out).mono ?_); rintro e w45 ⟨rfl, hb⟩; refine ⟨_, rfl, ?_⟩; replace HO_4 := am (Kd.V_below (mv HO_4.out) hb); replace HO_14 := am (Kd.R_below (mv HO_14.out) hb); replace HO_15 := am (Kd.R_below (mv HO_15.out) hb); replace HB := am (below_step (bt) hb); (try clear hb); (try clear hb2); (try clear hk); (try clear hi)) | ((with_reducible refine gate_builtin (b := .append) (xs := #[.tmp 97, .tmp 102]) rfl ?_); at_builtin; refine Kd.R_append (Kd.int .i64) (w0 := w) w.heap.size rfl (.tmp 97) (.tmp 102) 29 3 (.int .i64 0) 8 rfl Try.underlying29 info3 rfl (by decide) (by omega) u15 x15_1 t610 [.int .i64 t610] (fun k_ => (w.heap.size ≤ k_) ∧ nb k_ v594) (fun _ => False) rfl rfl ?aP (fun _ hk => hk.elim) ?aF ?aO ?aB ?aS ?aL ?_; (case aP => exact rfl); (case aB => exact (bt)); (case aF => exact (fun k_ hk => ⟨(Nat.le_trans (below_size (bt)) hk), Kd.fresh' (Kd.R_lt (mv HO_14.out)) k_ hk⟩)); (case aO => exact (mv HO_15.out)); (case aS => exact (below_size (bt))); (case aL => have := LMc44.out; omega); intro v612 w46 ho hb hg hat; rw [← Ny611.out] at ho; replace HO_4 := am (Kd.V_afterv (ok := (fun k_ => (P4_ k_ ∨ w.heap.size ≤ k_) ∧ nb k_ v594)) (rV (h := by exact Kd.V_mono HO_4.out (fun _ hk => ⟨⟨hk.1, hk.2.1⟩, hk.2.2⟩))) hg hat); replace HO_14 := am (Kd.R_after (ok := (fun k_ => (w.heap.size ≤ k_))) (mv HO_14.out) hg hat); replace HB := am (hb); have HO613 := am (ho); clear HO_15; clear ho hb hg hat))
                    go_roundg kj25
                    case measure => have := HK1.out; have := HJ12.out; have := HJ22.out; have := HJ25.out; omega
                    case rel => exact ⟨(x4_25), (y593), (y611), (wrap64 (x16_1 + 2)), e0, H', ⟨by have := HK1.out; have := HJ12.out; have := HJ22.out; have := HJ25.out; omega⟩, ⟨rV (h := by exact Kd.V_mono HO_4.out (fun _ hk => ⟨hk.1.1, ⟨hk.1.2, hk.2⟩⟩))⟩, ⟨mv HO_14.out⟩, ⟨mv HO613.out⟩, ⟨bt⟩⟩
                   ·exact nh c44 H
                  ·exact nh c42 H
                 ·exact nh c41 H
                ·rw [if_neg c40] at H
                 have c40b0 : decide (0 ≤ t592) = false := decide_eq_false c40
                 clear c40
                 obtain ⟨t614, A47, H⟩ := bm H
                 (try dsimp -simprocs only at H)
                 by_cases c48 : x15_1.length < 17592186044416
                 ·rw [if_pos c48] at H
                  have LMc48 := am c48
                  clear c48
                  obtain ⟨y615, hy615⟩ : ∃ y_ : List Int, y_ = (x15_1 ++ [t614]) := ⟨_, rfl⟩
                  replace H : (spec_l2Up.l0 kj25 a0 a1 l2 l3 x4_25 y593 y615 (wrap64 (x16_1 + 2))) = some (r1, r2, r3, r4) := by first | (rw [hy615]; exact H) | exact H
                  have Ny615 := am hy615
                  clear hy615
                  have H' := am H
                  clear H
                  have p608 : 0 ≤ (t591 : Int) := of_decide_eq_true asm
                  have q608 : t591 < (l3.length : Int) := of_decide_eq_true asm
                  obtain ⟨ad608, e608, hx608_0⟩ := Kd.at_int HR3.out t591 p608 q608
                  cases e608
                  replace hx608_0 := (HB.out.cell (World.block_lt_of_cell? w _ hx608_0)).trans hx608_0
                  replace p608 := eq_true p608
                  replace q608 := eq_true q608
                  go_wp2_with (first | ((with_reducible refine gate_callee (f := 135) rfl ?_); refine goesL_ (some 101) rfl rfl Try.func135 (by kernel_rfl) rfl #[.int .i64 a0, .int .i64 (rd l3 t591), .int .i64 x19_25] rfl av ?_; (with_reducible refine (spec_NodeOf.calls kj25 a0 (rd l3 t591) x19_25 t614 _ A47.out).mono ?_); rintro e w49 ⟨rfl, hb⟩; refine ⟨_, rfl, ?_⟩; replace HO_4 := am (Kd.V_below (mv HO_4.out) hb); replace HO_14 := am (Kd.R_below (mv HO_14.out) hb); replace HO_15 := am (Kd.R_below (mv HO_15.out) hb); replace HB := am (below_step (bt) hb); (try clear hb); (try clear hb2); (try clear hk); (try clear hi)) | ((with_reducible refine gate_builtin (b := .append) (xs := #[.tmp 97, .tmp 102]) rfl ?_); at_builtin; refine Kd.R_append (Kd.int .i64) (w0 := w) w.heap.size rfl (.tmp 97) (.tmp 102) 29 3 (.int .i64 0) 8 rfl Try.underlying29 info3 rfl (by decide) (by omega) u15 x15_1 t614 [.int .i64 t614] (fun k_ => (w.heap.size ≤ k_) ∧ nb k_ v594) (fun _ => False) rfl rfl ?aP (fun _ hk => hk.elim) ?aF ?aO ?aB ?aS ?aL ?_; (case aP => exact rfl); (case aB => exact (bt)); (case aF => exact (fun k_ hk => ⟨(Nat.le_trans (below_size (bt)) hk), Kd.fresh' (Kd.R_lt (mv HO_14.out)) k_ hk⟩)); (case aO => exact (mv HO_15.out)); (case aS => exact (below_size (bt))); (case aL => have := LMc48.out; omega); intro v616 w50 ho hb hg hat; rw [← Ny615.out] at ho; replace HO_4 := am (Kd.V_afterv (ok := (fun k_ => (P4_ k_ ∨ w.heap.size ≤ k_) ∧ nb k_ v594)) (rV (h := by exact Kd.V_mono HO_4.out (fun _ hk => ⟨⟨hk.1, hk.2.1⟩, hk.2.2⟩))) hg hat); replace HO_14 := am (Kd.R_after (ok := (fun k_ => (w.heap.size ≤ k_))) (mv HO_14.out) hg hat); replace HB := am (hb); have HO617 := am (ho); clear HO_15; clear ho hb hg hat))
                  go_roundg kj25
                  case measure => have := HK1.out; have := HJ12.out; have := HJ22.out; have := HJ25.out; omega
                  case rel => exact ⟨(x4_25), (y593), (y615), (wrap64 (x16_1 + 2)), e0, H', ⟨by have := HK1.out; have := HJ12.out; have := HJ22.out; have := HJ25.out; omega⟩, ⟨rV (h := by exact Kd.V_mono HO_4.out (fun _ hk => ⟨hk.1.1, ⟨hk.1.2, hk.2⟩⟩))⟩, ⟨mv HO_14.out⟩, ⟨mv HO617.out⟩, ⟨bt⟩⟩
                 ·exact nh c48 H
               ·exact nh c39 H
              ·exact nh c38 H
             ·rw [if_neg c37] at H
              have c37b0 : decide (0 ≤ t591) = false := decide_eq_false c37
              clear c37
              by_cases c51 : t592 ≥ 0
              ·rw [if_pos c51] at H
               have c51b0 : decide (0 ≤ t592) = true := decide_eq_true c51
               clear c51
               by_cases c52 : 0 ≤ t592
               ·rw [if_pos c52] at H
                have c52b0 : decide (0 ≤ t592) = true := decide_eq_true c52
                clear c52
                by_cases c53 : t592 < (l3.length : Int)
                ·rw [if_pos c53] at H
                 have c53b0 : decide (t592 < (l3.length : Int)) = true := decide_eq_true c53
                 clear c53
                 obtain ⟨t619, A54, H⟩ := bm H
                 (try dsimp -simprocs only at H)
                 by_cases c55 : x15_1.length < 17592186044416
                 ·rw [if_pos c55] at H
                  have LMc55 := am c55
                  clear c55
                  obtain ⟨y620, hy620⟩ : ∃ y_ : List Int, y_ = (x15_1 ++ [t619]) := ⟨_, rfl⟩
                  replace H : (spec_l2Up.l0 kj25 a0 a1 l2 l3 x4_25 y593 y620 (wrap64 (x16_1 + 2))) = some (r1, r2, r3, r4) := by first | (rw [hy620]; exact H) | exact H
                  have Ny620 := am hy620
                  clear hy620
                  have H' := am H
                  clear H
                  have p618 : 0 ≤ (t592 : Int) := of_decide_eq_true asm
                  have q618 : t592 < (l3.length : Int) := of_decide_eq_true asm
                  obtain ⟨ad618, e618, hx618_0⟩ := Kd.at_int HR3.out t592 p618 q618
                  cases e618
                  replace hx618_0 := (HB.out.cell (World.block_lt_of_cell? w _ hx618_0)).trans hx618_0
                  replace p618 := eq_true p618
                  replace q618 := eq_true q618
                  go_wp2_with (first | ((with_reducible refine gate_callee (f := 135) rfl ?_); refine goesL_ (some 101) rfl rfl Try.func135 (by kernel_rfl) rfl #[.int .i64 a0, .int .i64 x19_25, .int .i64 (rd l3 t592)] rfl av ?_; (with_reducible refine (spec_NodeOf.calls kj25 a0 x19_25 (rd l3 t592) t619 _ A54.out).mono ?_); rintro e w56 ⟨rfl, hb⟩; refine ⟨_, rfl, ?_⟩; replace HO_4 := am (Kd.V_below (mv HO_4.out) hb); replace HO_14 := am (Kd.R_below (mv HO_14.out) hb); replace HO_15 := am (Kd.R_below (mv HO_15.out) hb); replace HB := am (below_step (bt) hb); (try clear hb); (try clear hb2); (try clear hk); (try clear hi)) | ((with_reducible refine gate_builtin (b := .append) (xs := #[.tmp 97, .tmp 102]) rfl ?_); at_builtin; refine Kd.R_append (Kd.int .i64) (w0 := w) w.heap.size rfl (.tmp 97) (.tmp 102) 29 3 (.int .i64 0) 8 rfl Try.underlying29 info3 rfl (by decide) (by omega) u15 x15_1 t619 [.int .i64 t619] (fun k_ => (w.heap.size ≤ k_) ∧ nb k_ v594) (fun _ => False) rfl rfl ?aP (fun _ hk => hk.elim) ?aF ?aO ?aB ?aS ?aL ?_; (case aP => exact rfl); (case aB => exact (bt)); (case aF => exact (fun k_ hk => ⟨(Nat.le_trans (below_size (bt)) hk), Kd.fresh' (Kd.R_lt (mv HO_14.out)) k_ hk⟩)); (case aO => exact (mv HO_15.out)); (case aS => exact (below_size (bt))); (case aL => have := LMc55.out; omega); intro v621 w57 ho hb hg hat; rw [← Ny620.out] at ho; replace HO_4 := am (Kd.V_afterv (ok := (fun k_ => (P4_ k_ ∨ w.heap.size ≤ k_) ∧ nb k_ v594)) (rV (h := by exact Kd.V_mono HO_4.out (fun _ hk => ⟨⟨hk.1, hk.2.1⟩, hk.2.2⟩))) hg hat); replace HO_14 := am (Kd.R_after (ok := (fun k_ => (w.heap.size ≤ k_))) (mv HO_14.out) hg hat); replace HB := am (hb); have HO622 := am (ho); clear HO_15; clear ho hb hg hat))
                  go_roundg kj25
                  case measure => have := HK1.out; have := HJ12.out; have := HJ22.out; have := HJ25.out; omega
                  case rel => exact ⟨(x4_25), (y593), (y620), (wrap64 (x16_1 + 2)), e0, H', ⟨by have := HK1.out; have := HJ12.out; have := HJ22.out; have := HJ25.out; omega⟩, ⟨rV (h := by exact Kd.V_mono HO_4.out (fun _ hk => ⟨hk.1.1, ⟨hk.1.2, hk.2⟩⟩))⟩, ⟨mv HO_14.out⟩, ⟨mv HO622.out⟩, ⟨bt⟩⟩
                 ·exact nh c55 H
                ·exact nh c53 H
               ·exact nh c52 H
              ·rw [if_neg c51] at H
               have c51b0 : decide (0 ≤ t592) = false := decide_eq_false c51
               clear c51
               obtain ⟨t623, A58, H⟩ := bm H
               (try dsimp -simprocs only at H)
               by_cases c59 : x15_1.length < 17592186044416
               ·rw [if_pos c59] at H
                have LMc59 := am c59
                clear c59
                obtain ⟨y624, hy624⟩ : ∃ y_ : List Int, y_ = (x15_1 ++ [t623]) := ⟨_, rfl⟩
                replace H : (spec_l2Up.l0 kj25 a0 a1 l2 l3 x4_25 y593 y624 (wrap64 (x16_1 + 2))) = some (r1, r2, r3, r4) := by first | (rw [hy624]; exact H) | exact H
                have Ny624 := am hy624
                clear hy624
                have H' := am H
                clear H
                go_wp2_with (first | ((with_reducible refine gate_callee (f := 135) rfl ?_); refine goesL_ (some 101) rfl rfl Try.func135 (by kernel_rfl) rfl #[.int .i64 a0, .int .i64 x19_25, .int .i64 x19_25] rfl av ?_; (with_reducible refine (spec_NodeOf.calls kj25 a0 x19_25 x19_25 t623 _ A58.out).mono ?_); rintro e w60 ⟨rfl, hb⟩; refine ⟨_, rfl, ?_⟩; replace HO_4 := am (Kd.V_below (mv HO_4.out) hb); replace HO_14 := am (Kd.R_below (mv HO_14.out) hb); replace HO_15 := am (Kd.R_below (mv HO_15.out) hb); replace HB := am (below_step (bt) hb); (try clear hb); (try clear hb2); (try clear hk); (try clear hi)) | ((with_reducible refine gate_builtin (b := .append) (xs := #[.tmp 97, .tmp 102]) rfl ?_); at_builtin; refine Kd.R_append (Kd.int .i64) (w0 := w) w.heap.size rfl (.tmp 97) (.tmp 102) 29 3 (.int .i64 0) 8 rfl Try.underlying29 info3 rfl (by decide) (by omega) u15 x15_1 t623 [.int .i64 t623] (fun k_ => (w.heap.size ≤ k_) ∧ nb k_ v594) (fun _ => False) rfl rfl ?aP (fun _ hk => hk.elim) ?aF ?aO ?aB ?aS ?aL ?_; (case aP => exact rfl); (case aB => exact (bt)); (case aF => exact (fun k_ hk => ⟨(Nat.le_trans (below_size (bt)) hk), Kd.fresh' (Kd.R_lt (mv HO_14.out)) k_ hk⟩)); (case aO => exact (mv HO_15.out)); (case aS => exact (below_size (bt))); (case aL => have := LMc59.out; omega); intro v625 w61 ho hb hg hat; rw [← Ny624.out] at ho; replace HO_4 := am (Kd.V_afterv (ok := (fun k_ => (P4_ k_ ∨ w.heap.size ≤ k_) ∧ nb k_ v594)) (rV (h := by exact Kd.V_mono HO_4.out (fun _ hk => ⟨⟨hk.1, hk.2.1⟩, hk.2.2⟩))) hg hat); replace HO_14 := am (Kd.R_after (ok := (fun k_ => (w.heap.size ≤ k_))) (mv HO_14.out) hg hat); replace HB := am (hb); have HO626 := am (ho); clear HO_15; clear ho hb hg hat))
                go_roundg kj25
                case measure => have := HK1.out; have := HJ12.out; have := HJ22.out; have := HJ25.out; omega
                case rel => exact ⟨(x4_25), (y593), (y624), (wrap64 (x16_1 + 2)), e0, H', ⟨by have := HK1.out; have := HJ12.out; have := HJ22.out; have := HJ25.out; omega⟩, ⟨rV (h := by exact Kd.V_mono HO_4.out (fun _ hk => ⟨hk.1.1, ⟨hk.1.2, hk.2⟩⟩))⟩, ⟨mv HO_14.out⟩, ⟨mv HO626.out⟩, ⟨bt⟩⟩
               ·exact nh c59 H
       ·exact nh c16 H
   ·rw [if_neg c10] at H
    have c10b0 : decide (x16_1 < a1) = false := decide_eq_false c10
    clear c10
    simp only [Option.some.injEq, Prod.mk.injEq] at H
    obtain ⟨rfl, rfl, rfl, rfl⟩ := H
    go_wp2
    refine bodyPost_ret (results_list (rs := [.tmp 10, .tmp 11, .tmp 12, .tmp 13]) rfl (by simp) (.tmp (.tmp (.tmp (.tmp .nil))))) rfl ?_
    exact ⟨_, _, _, by first | rfl | (simp [errW_none, errW_some] <;> rfl) | (simp [*, errW_none, errW_some] <;> rfl), rR (h := by exact HO_14.out), rR (h := by exact HO_15.out), rV (h := by exact HO_4.out), bt⟩

end Go.Proofs.Ytchjajbkaiefdaa.PFnMany
