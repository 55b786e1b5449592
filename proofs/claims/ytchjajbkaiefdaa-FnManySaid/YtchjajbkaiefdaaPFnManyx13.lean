-- Written by a program of this workplace (wip/mp.py) out of the translation.
import Derived.Test.YtchjajbkaiefdaaPFnManyx0
import Derived.Test.YtchjajbkaiefdaaPFnManyx8
import Derived.Test.YtchjajbkaiefdaaPFnManyx11
import Derived.Test.YtchjajbkaiefdaaPFnManyx12
namespace Go.Proofs.Ytchjajbkaiefdaa.PFnMany
open Go.RowKit Go.Proofs.YtchjajbkaiefdaaW.PrintWords Go.Proofs.YtchjajbkaiefdaaW.PrintLast Go.Proofs.YtchjajbkaiefdaaW.PrintMore Go.Proofs.Ytchjajbkaiefdaa.Slim
attribute [local go_sem] max2_int min2_int max_two min_two max_three min_three max_four min_four   -- for this text's walks alone
set_option linter.unusedVariables false
set_option linter.unusedSimpArgs false

/-! ### spec_ManyPath: function 96 -/
mutual
def spec_ManyPath.j0 : Nat → Int → List (List Int) → List Int → List Int → Bool → Option (List Int × Bool)
 | 0, _, _, _, _, _ => none
 | k + 1, x0, x1, x2, x8, x26 => if x26 = true then (some (x8, false)) else ((spec_l2Levels.f k x0 x1).bind fun t557 => (spec_ManyPath.l0 k x2 x8 t557 0))
def spec_ManyPath.l0 : Nat → List Int → List Int → List (List Int) → Int → Option (List Int × Bool)
 | 0, _, _, _, _ => none
 | k + 1, x2, x8, x9, x10 => if (wrap64 (x10 + 1)) < (x9.length : Int) then (spec_ManyPath.l1 k x2 x8 x9 x10 (([] : List Int)) 0) else (some (x8, true))
def spec_ManyPath.l1 : Nat → List Int → List Int → List (List Int) → Int → List Int → Int → Option (List Int × Bool)
 | 0, _, _, _, _, _, _ => none
 | k + 1, x2, x8, x9, x10, x11, x12 => if 0 ≤ x10 then (if x10 < (x9.length : Int) then (if x12 < ((rd_L3 x9 x10).length : Int) then ((spec_l2Has.f k x2 x12).bind fun t564 => ((spec_l2Has.f k x2 (wrap64 (x12 + 1))).bind fun t565 => (if t564 ≥ 0 then (spec_ManyPath.j3 k x2 x8 x9 x10 x11 x12 (decide (t564 ≥ 0)) (decide (t565 ≥ 0)) true) else (spec_ManyPath.j3 k x2 x8 x9 x10 x11 x12 (decide (t564 ≥ 0)) (decide (t565 ≥ 0)) (decide (t565 ≥ 0)))))) else (spec_ManyPath.l0 k x11 x8 x9 (wrap64 (x10 + 1)))) else (none)) else (none)
def spec_ManyPath.j3 : Nat → List Int → List Int → List (List Int) → Int → List Int → Int → Bool → Bool → Bool → Option (List Int × Bool)
 | 0, _, _, _, _, _, _, _, _, _ => none
 | k + 1, x2, x8, x9, x10, x11, x12, x13, x14, x60 => if x60 = true then (if x11.length < 17592186044416 then (spec_ManyPath.j4 k x2 x8 x9 x10 (x11 ++ [wrap64 (Int.tdiv x12 2)]) x12 x13 x14) else (none)) else (spec_ManyPath.j4 k x2 x8 x9 x10 x11 x12 x13 x14)
def spec_ManyPath.j4 : Nat → List Int → List Int → List (List Int) → Int → List Int → Int → Bool → Bool → Option (List Int × Bool)
 | 0, _, _, _, _, _, _, _, _ => none
 | k + 1, x2, x8, x9, x10, x11, x12, x13, x14 => if x13 = true then (if x14 = true then (spec_ManyPath.j5 k x2 x8 x9 x10 x11 x12 x13 x14 false) else (if 0 ≤ x10 then (if x10 < (x9.length : Int) then (spec_ManyPath.j5 k x2 x8 x9 x10 x11 x12 x13 x14 (decide ((wrap64 (x12 + 1)) < ((rd_L3 x9 x10).length : Int)))) else (none)) else (none))) else (spec_ManyPath.j5 k x2 x8 x9 x10 x11 x12 x13 x14 false)
def spec_ManyPath.j5 : Nat → List Int → List Int → List (List Int) → Int → List Int → Int → Bool → Bool → Bool → Option (List Int × Bool)
 | 0, _, _, _, _, _, _, _, _, _ => none
 | k + 1, x2, x8, x9, x10, x11, x12, x13, x14, x80 => if x80 = true then (if 0 ≤ x10 then (if x10 < (x9.length : Int) then (if 0 ≤ (wrap64 (x12 + 1)) then (if (wrap64 (x12 + 1)) < ((rd_L3 x9 x10).length : Int) then (if x8.length < 17592186044416 then ((some (x8 ++ [rd (rd_L3 x9 x10) (wrap64 (x12 + 1))] : List Int)).bind fun y572 => (if x14 = true then (if x13 = true then (spec_ManyPath.l1 k x2 y572 x9 x10 x11 (wrap64 (x12 + 2))) else (if 0 ≤ x12 then (if x12 < ((rd_L3 x9 x10).length : Int) then (if y572.length < 17592186044416 then (spec_ManyPath.l1 k x2 (y572 ++ [rd (rd_L3 x9 x10) x12]) x9 x10 x11 (wrap64 (x12 + 2))) else (none)) else (none)) else (none))) else (spec_ManyPath.l1 k x2 y572 x9 x10 x11 (wrap64 (x12 + 2))))) else (none)) else (none)) else (none)) else (none)) else (none)) else (if x14 = true then (if x13 = true then (spec_ManyPath.l1 k x2 x8 x9 x10 x11 (wrap64 (x12 + 2))) else (if 0 ≤ x10 then (if x10 < (x9.length : Int) then (if 0 ≤ x12 then (if x12 < ((rd_L3 x9 x10).length : Int) then (if x8.length < 17592186044416 then (spec_ManyPath.l1 k x2 (x8 ++ [rd (rd_L3 x9 x10) x12]) x9 x10 x11 (wrap64 (x12 + 2))) else (none)) else (none)) else (none)) else (none)) else (none))) else (spec_ManyPath.l1 k x2 x8 x9 x10 x11 (wrap64 (x12 + 2))))
end
def spec_ManyPath.f (k : Nat) (a0 : Int) (l1 : List (List Int)) (l2 : List Int) : Option (List Int × Bool) := (some (([] : List Int) : List Int)).bind fun y552 => ((spec_l2Leaves.f k a0 l1).bind fun t555 => (if t555 = true then ((spec_l2Places.f k (l1.length : Int) l2).bind fun t556 => (spec_ManyPath.j0 k a0 l1 l2 y552 (!t556))) else (spec_ManyPath.j0 k a0 l1 l2 y552 true)))
set_option maxHeartbeats 8000000 in
set_option maxRecDepth 100000 in
theorem spec_ManyPath.calls (k : Nat) (a0 : Int) (A1 : Option Addr) (c1 : Nat) (l1 : List (List Int)) (P2_ : Nat → Prop) (A2 : Option Addr) (c2 : Nat) (l2 : List Int) (r1 : List Int) (r2 : Bool) (w : World) (hr1 : Kd.C (Kd.slice 5 (Kd.int .u8)) w A1 l1.length l1) (hc1 : l1.length ≤ c1) (hs2 : Kd.V (Kd.int .i64) 3 w w.heap.size (fun k_ => P2_ k_) (.slice A2 l2.length c2) l2) (h : spec_ManyPath.f k a0 l1 l2 = some (r1, r2)) :
  Calls Try.prog 96 #[.int .i64 a0, .slice A1 l1.length c1, .slice A2 l2.length c2] w fun e w' => ∃ v0_ : Value, e = .returned (.tuple #[v0_, .bool r2]) ∧ Kd.R (Kd.int .i64) 3 w' w.heap.size (fun k_ => (w.heap.size ≤ k_)) v0_ r1 ∧ Below w.heap.size w w' := by
 have HR1 := am hr1
 have HC1 := am hc1
 clear hr1 hc1
 have HO2 := am (show Kd.V (Kd.int .i64) 3 w w.heap.size (fun k_ => (P2_ k_ ∨ w.heap.size ≤ k_)) (.slice A2 l2.length c2) l2 from Kd.V_mono hs2 (fun k_ hk => .inl hk))
 have HB := am (Below.refl w.heap.size w)
 have H : ((some (([] : List Int) : List Int)).bind fun y552 => ((spec_l2Leaves.f k a0 l1).bind fun t555 => (if t555 = true then ((spec_l2Places.f k (l1.length : Int) l2).bind fun t556 => (spec_ManyPath.j0 k a0 l1 l2 y552 (!t556))) else (spec_ManyPath.j0 k a0 l1 l2 y552 true)))) = some (r1, r2) := h
 clear h
 obtain ⟨y552, hy552⟩ : ∃ y_ : List Int, y_ = (([] : List Int)) := ⟨_, rfl⟩
 replace H : ((spec_l2Leaves.f k a0 l1).bind fun t555 => (if t555 = true then ((spec_l2Places.f k (l1.length : Int) l2).bind fun t556 => (spec_ManyPath.j0 k a0 l1 l2 y552 (!t556))) else (spec_ManyPath.j0 k a0 l1 l2 y552 true))) = some (r1, r2) := by first | (rw [hy552]; exact H) | exact H
 have Ny552 := am hy552
 clear hy552
 have HC4 := am H
 clear H
 go_enter Try.func96, Try.ntmps96
 go_upto_region 2 with (first | ((with_reducible refine gate_dst (N := 15) rfl ?_); (try (refine gate_guard (by rfl) ?_; dsimp only)); refine Kd.R_lit (Kd.int .i64) _ 3 ?hg (N := 15) ?hd (xs := ([] : List Int)) (inner := []) (ok := fun _ => True) (okp := fun _ => True) ?hr ?hp (fun _ hk => hk) trivial (Below.refl _ _) (Nat.le_refl _) (by simp) ?_; (case hd => rfl); (case hg => rfl); (case hr => first | (go_simp; done) | (go_simp; rfl)); (case hp => exact (Reps.none _ _)); intro v553 w5 ho6 hb hg_ hnew_; clear hg_ hnew_; (first | rw [← Ny552.out] at ho6 | (simp only [Int.reduceToNat] at ho6; rw [← Ny552.out] at ho6)); replace HO2 := am (Kd.V_elder' (mv HO2.out) (Kd.R_base ho6) hb); have HO554 := am (Kd.R_lower (Kd.R_newM (M := fun k_ => (w.heap.size ≤ k_)) ho6 (below_size (bt)) (fun k_ h_ => h_)) (below_size (bt))); replace HB := am (below_step (bt) hb); clear hb ho6))
 (try simp only [Act.put, List.setIfInBounds_toArray, List.set_cons_zero, List.set_cons_succ])
 go_cut [26] (fun v26 wc => ∃ (kq : Nat) (x26_3 : Bool), v26 = .bool x26_3 ∧ Aside0 (spec_ManyPath.j0 kq a0 l1 l2 y552 x26_3 = some (r1, r2)) ∧ Aside0 (kq ≤ k) ∧ Aside0 (Kd.V (Kd.int .i64) 3 wc w.heap.size (fun k_ => (P2_ k_ ∨ w.heap.size ≤ k_) ∧ nb k_ v553) (.slice A2 l2.length c2) l2) ∧ Aside0 (Kd.R (Kd.int .i64) 3 wc w.heap.size (fun k_ => (w.heap.size ≤ k_)) v553 y552) ∧ Aside0 (Below w.heap.size w wc))
 case first =>
  have H := HC4.out
  clear HC4
  obtain ⟨t555, A7, H⟩ := bm H
  (try dsimp -simprocs only at H)
  by_cases c8 : t555 = true
  ·subst c8
   rw [if_pos rfl] at H
   obtain ⟨t556, A9, H⟩ := bm H
   (try dsimp -simprocs only at H)
   have H' := am H
   clear H
   go_wp2_with (first | ((with_reducible refine gate_callee (f := 110) rfl ?_); refine goesL_ (some 18) rfl rfl Try.func110 (by kernel_rfl) rfl #[.int .i64 a0, .slice A1 l1.length c1] rfl av ?_; (with_reducible refine (spec_l2Leaves.calls k a0 _ _ l1 true _ ?side1 ?side2 A7.out).mono ?_); (case side1 => exact cv ((Kd.C_below HR1.out HB.out))); (case side2 => exact HC1.out); rintro e w' ⟨rfl, ⟨nd, rfl⟩⟩; refine ⟨_, rfl, ?_⟩) | (go_at_call 123; (with_reducible refine (spec_l2Places.calls k (l1.length : Int) _ _ l2 t556 _ ?side1 ?side2 A9.out).mono ?_); (case side1 => exact cv ((Kd.V_reads' HO2.out).2.2)); (case side2 => exact (Kd.V_reads' HO2.out).2.1); rintro e w' ⟨rfl, ⟨nd, rfl⟩⟩))
   go_meet
   case rel => exact ⟨_, (!t556), e0, H', ⟨by first | omega | exact Nat.le_refl _⟩, ⟨mv HO2.out⟩, ⟨rR (h := by exact Kd.R_mono HO554.out (fun _ hk => hk.1))⟩, ⟨bt⟩⟩
  ·replace c8 := Bool.eq_false_iff.mpr c8
   subst c8
   rw [if_neg nft] at H
   have H' := am H
   clear H
   go_wp2_with (first | ((with_reducible refine gate_callee (f := 110) rfl ?_); refine goesL_ (some 18) rfl rfl Try.func110 (by kernel_rfl) rfl #[.int .i64 a0, .slice A1 l1.length c1] rfl av ?_; (with_reducible refine (spec_l2Leaves.calls k a0 _ _ l1 false _ ?side1 ?side2 A7.out).mono ?_); (case side1 => exact cv ((Kd.C_below HR1.out HB.out))); (case side2 => exact HC1.out); rintro e w' ⟨rfl, ⟨nd, rfl⟩⟩; refine ⟨_, rfl, ?_⟩))
   go_meet
   case rel => exact ⟨_, (true), e0, H', ⟨by first | omega | exact Nat.le_refl _⟩, ⟨mv HO2.out⟩, ⟨rR (h := by exact Kd.R_mono HO554.out (fun _ hk => hk.1))⟩, ⟨bt⟩⟩
 case rest =>
  clear HC4
  obtain ⟨kq, x26_3, rfl, HA, HJ3, HO_2, HO_8, HB⟩ := hcut
  cases kq with
  | zero => exact absurd HA.out (by simp [spec_ManyPath.j0])
  | succ kj3 =>
   have H := HA.out
   clear HA
   simp only [spec_ManyPath.j0] at H
   by_cases c10 : x26_3 = true
   ·subst c10
    rw [if_pos rfl] at H
    simp only [Option.some.injEq, Prod.mk.injEq] at H
    obtain ⟨rfl, rfl⟩ := H
    go_wp2
    go_ret2
    exact ⟨_, by first | rfl | (simp [errW_none, errW_some] <;> rfl) | (simp [*, errW_none, errW_some] <;> rfl), rR (h := by exact HO_8.out), bt⟩
   ·replace c10 := Bool.eq_false_iff.mpr c10
    subst c10
    rw [if_neg nft] at H
    obtain ⟨t557, A11, H⟩ := bm H
    (try dsimp -simprocs only at H)
    have H' := am H
    clear H
    go_wp2_with (first | ((with_reducible refine gate_callee (f := 111) rfl ?_); refine goesL_ (some 30) rfl rfl Try.func111 (by kernel_rfl) rfl #[.int .i64 a0, .slice A1 l1.length c1] rfl av ?_; (with_reducible refine (spec_l2Levels.calls kj3 a0 _ _ l1 t557 _ ?side1 ?side2 A11.out).mono ?_); (case side1 => exact cv ((Kd.C_below HR1.out HB.out))); (case side2 => exact HC1.out); rintro e w12 ⟨v558, rfl, ho0, hb⟩; refine ⟨_, rfl, ?_⟩; replace HO_2 := am (Kd.V_elder' (mv HO_2.out) (by first | exact Kd.N_base ho0 | exact Kd.S_base ho0) hb); have HO559 := am (Kd.N_lower (Kd.N_mono (ok' := fun k_ => (P2_ k_ ∨ w.heap.size ≤ k_) ∧ nb k_ v553) ho0 (fun k_ hk_ => ⟨(.inr (Nat.le_trans (below_size (bt)) hk_)), (Kd.fresh' (Kd.R_lt (mv HO_8.out)) k_ hk_)⟩)) (below_size (bt))); replace HO_8 := am (Kd.R_below (mv HO_8.out) hb); replace HB := am (below_step (bt) hb); (try clear hb); (try clear hb2); (try clear hk); (try clear hi); (try clear ho0)))
    go_loopg [2, 8, 10] kj3 (fun kq v2 v8 v10 w' => ∃ (x2_2 : List Int) (x8_2 : List Int) (x10_2 : Int), v10 = .int .i64 x10_2 ∧ Aside0 (spec_ManyPath.l0 kq x2_2 x8_2 t557 x10_2 = some (r1, r2)) ∧ Aside0 (kq ≤ kj3) ∧ Aside0 (Kd.V (Kd.int .i64) 3 w' w.heap.size (fun k_ => (P2_ k_ ∨ w.heap.size ≤ k_) ∧ nb k_ v8 ∧ nb k_ v558) v2 x2_2) ∧ Aside0 (Kd.R (Kd.int .i64) 3 w' w.heap.size (fun k_ => (w.heap.size ≤ k_)) v8 x8_2) ∧ Aside0 (Kd.N (Kd.slice 3 (Kd.int .i64)) 29 w' w.heap.size (fun k_ => (P2_ k_ ∨ w.heap.size ≤ k_) ∧ nb k_ v8) v558 t557) ∧ Aside0 (Below w.heap.size w w'))
    case atStart => exact ⟨(l2), (y552), (0), e0, H', ⟨Nat.le_refl _⟩, ⟨rV (h := by exact Kd.V_mono HO_2.out (fun _ hk => ⟨hk.1.1, ⟨hk.1.2, hk.2⟩⟩))⟩, ⟨mv HO_8.out⟩, ⟨mv HO559.out⟩, ⟨bt⟩⟩
    case round =>
     clear H'
     obtain ⟨x2_2, x8_2, x10_2, rfl, HA, HK2, HO_2, HO_8, HO_9, HB⟩ := hrel
     cases gk with
     | zero => exact absurd HA.out (by simp [spec_ManyPath.l0])
     | succ k2 =>
      have H := HA.out
      clear HA
      simp only [spec_ManyPath.l0] at H
      by_cases c13 : (wrap64 (x10_2 + 1)) < (t557.length : Int)
      ·rw [if_pos c13] at H
       have c13b0 : decide ((wrap64 (x10_2 + 1)) < (t557.length : Int)) = true := decide_eq_true c13
       clear c13
       obtain ⟨y560, hy560⟩ : ∃ y_ : List Int, y_ = (([] : List Int)) := ⟨_, rfl⟩
       replace H : (spec_ManyPath.l1 k2 x2_2 x8_2 t557 x10_2 y560 0) = some (r1, r2) := by first | (rw [hy560]; exact H) | exact H
       have Ny560 := am hy560
       clear hy560
       have H' := am H
       clear H
       obtain ⟨Ao14, co14, eo14⟩ := Kd.N_slice HO_9.out
       subst eo14
       go_wp2_with (first | ((with_reducible refine gate_dst (N := 38) rfl ?_); (try (refine gate_guard (by rfl) ?_; dsimp only)); refine Kd.R_lit (Kd.int .i64) _ 3 ?hg (N := 38) ?hd (xs := ([] : List Int)) (inner := []) (ok := fun _ => True) (okp := fun _ => True) ?hr ?hp (fun _ hk => hk) trivial (Below.refl _ _) (Nat.le_refl _) (by simp) ?_; (case hd => rfl); (case hg => rfl); (case hr => first | (go_simp; done) | (go_simp; rfl)); (case hp => exact (Reps.none _ _)); intro v561 w15 ho16 hb hg_ hnew_; clear hg_ hnew_; (first | rw [← Ny560.out] at ho16 | (simp only [Int.reduceToNat] at ho16; rw [← Ny560.out] at ho16)); replace HO_2 := am (Kd.V_elder' (mv HO_2.out) (Kd.R_base ho16) hb); replace HO_9 := am (Kd.N_elder' (mv HO_9.out) (Kd.R_base ho16) hb); have HO562 := am (Kd.R_lower (Kd.R_new' (Kd.R_newM (M := fun k_ => (w.heap.size ≤ k_)) ho16 (below_size (bt)) (fun k_ h_ => h_)) (Kd.R_lt (mv HO_8.out))) (below_size (bt))); replace HO_8 := am (Kd.R_elder' (mv HO_8.out) (Kd.R_base ho16) hb); replace HB := am (below_step (bt) hb); clear hb ho16))
       go_loopg [8, 11, 12] k2 (fun kq v8 v11 v12 w' => ∃ (x8_3 : List Int) (x11_3 : List Int) (x12_3 : Int), v12 = .int .i64 x12_3 ∧ Aside0 (spec_ManyPath.l1 kq x2_2 x8_3 t557 x10_2 x11_3 x12_3 = some (r1, r2)) ∧ Aside0 (kq ≤ k2) ∧ Aside0 (Kd.V (Kd.int .i64) 3 w' w.heap.size (fun k_ => (P2_ k_ ∨ w.heap.size ≤ k_) ∧ nb k_ v8 ∧ nb k_ (.slice Ao14 t557.length co14) ∧ nb k_ v11) u2 x2_2) ∧ Aside0 (Kd.R (Kd.int .i64) 3 w' w.heap.size (fun k_ => (w.heap.size ≤ k_) ∧ nb k_ v11) v8 x8_3) ∧ Aside0 (Kd.N (Kd.slice 3 (Kd.int .i64)) 29 w' w.heap.size (fun k_ => (P2_ k_ ∨ w.heap.size ≤ k_) ∧ nb k_ v8 ∧ nb k_ v11) (.slice Ao14 t557.length co14) t557) ∧ Aside0 (Kd.R (Kd.int .i64) 3 w' w.heap.size (fun k_ => (w.heap.size ≤ k_) ∧ nb k_ v8) v11 x11_3) ∧ Aside0 (Below w.heap.size w w'))
       case atStart => exact ⟨(x8_2), (y560), (0), e0, H', ⟨Nat.le_refl _⟩, ⟨rV (h := by exact Kd.V_mono HO_2.out (fun _ hk => ⟨hk.1.1, ⟨hk.1.2.1, ⟨hk.1.2.2, hk.2⟩⟩⟩))⟩, ⟨mv HO_8.out⟩, ⟨rN (h := by exact Kd.N_mono HO_9.out (fun _ hk => ⟨hk.1.1, ⟨hk.1.2, hk.2⟩⟩))⟩, ⟨rR (h := by exact Kd.R_mono HO562.out (fun _ hk => ⟨hk.1.1, hk.2⟩))⟩, ⟨bt⟩⟩
       case round =>
        clear H'
        obtain ⟨x8_3, x11_3, x12_3, rfl, HA, HK3, HO_2, HO_8, HO_9, HO_11, HB⟩ := hrel
        cases gk with
        | zero => exact absurd HA.out (by simp [spec_ManyPath.l1])
        | succ k3 =>
         have H := HA.out
         clear HA
         simp only [spec_ManyPath.l1] at H
         by_cases c17 : 0 ≤ x10_2
         ·rw [if_pos c17] at H
          have c17b0 : decide (0 ≤ x10_2) = true := decide_eq_true c17
          clear c17
          by_cases c18 : x10_2 < (t557.length : Int)
          ·rw [if_pos c18] at H
           have c18b0 : decide (x10_2 < (t557.length : Int)) = true := decide_eq_true c18
           clear c18
           by_cases c19 : x12_3 < ((rd_L3 t557 x10_2).length : Int)
           ·rw [if_pos c19] at H
            have c19b0 : decide (x12_3 < ((rd_L3 t557 x10_2).length : Int)) = true := decide_eq_true c19
            clear c19
            obtain ⟨t564, A20, H⟩ := bm H
            (try dsimp -simprocs only at H)
            obtain ⟨t565, A21, H⟩ := bm H
            (try dsimp -simprocs only at H)
            have HC22 := am H
            clear H
            have p563 : 0 ≤ (x10_2 : Int) := of_decide_eq_true asm
            have q563 : x10_2 < (t557.length : Int) := of_decide_eq_true asm
            obtain ⟨ad563, A563_0, c563_0, e563, hx563_0, hl563_0, hi563_0⟩ := at_L3 (Kd.N_reads' HO_9.out).2.2 x10_2 p563 q563
            cases e563
            obtain ⟨ce563, hce563, hMe563, hcc563⟩ := Kd.N_get HO_9.out [] x10_2 p563 (by first | exact q563 | exact of_decide_eq_true asm | (have e_ := (Kd.N_reads' HO_9.out).1; omega))
            obtain ⟨ua563_0, uc563_0, rfl, ul563_0, ge563_0⟩ := Kd.FK_slice_open hMe563
            have hv563_0 := hcc563 0 _ rfl
            rw [Nat.add_zero, show ((Kd.slice 3 (Kd.int .i64))).sz = 1 from rfl, Nat.mul_one] at hv563_0
            replace hv563_0 := Option.some.inj (hv563_0.symm.trans hx563_0)
            injection hv563_0 with hva_ hvn_ hvc_
            rw [hva_] at ge563_0
            rw [hvc_] at ul563_0
            have HL563_0 := am (show Kd.V (Kd.int .i64) 3 _ w.heap.size _ _ (rd_L3 t557 x10_2) from Kd.V_mk ul563_0 ge563_0)
            clear hva_ hvn_ hvc_ ge563_0 ul563_0
            clear hcc563 hce563
            have HR563_0 := am hi563_0
            have HC563_0 := am hl563_0
            clear hi563_0 hl563_0
            replace p563 := eq_true p563
            replace q563 := eq_true q563
            obtain ⟨Ao23, co23, eo23⟩ := Kd.V_slice HO_2.out
            subst eo23
            go_upto_region 13 with (first | ((with_reducible refine gate_callee (f := 124) rfl ?_); refine goesL_ (some 50) rfl rfl Try.func124 (by kernel_rfl) rfl #[.slice Ao23 x2_2.length co23, .int .i64 x12_3] rfl av ?_; (with_reducible refine (spec_l2Has.calls k3 _ _ x2_2 x12_3 t564 _ ?side1 ?side2 A20.out).mono ?_); (case side1 => exact cv ((Kd.V_reads' HO_2.out).2.2)); (case side2 => exact (Kd.V_reads' HO_2.out).2.1); rintro e w' ⟨rfl, ⟨nd, rfl⟩⟩; refine ⟨_, rfl, ?_⟩) | ((with_reducible refine gate_callee (f := 124) rfl ?_); refine goesL_ (some 55) rfl rfl Try.func124 (by kernel_rfl) rfl #[.slice Ao23 x2_2.length co23, .int .i64 (wrap64 (x12_3 + 1))] rfl av ?_; (with_reducible refine (spec_l2Has.calls k3 _ _ x2_2 (wrap64 (x12_3 + 1)) t565 _ ?side1 ?side2 A21.out).mono ?_); (case side1 => exact cv ((Kd.V_reads' HO_2.out).2.2)); (case side2 => exact (Kd.V_reads' HO_2.out).2.1); rintro e w' ⟨rfl, ⟨nd, rfl⟩⟩; refine ⟨_, rfl, ?_⟩))
            (try simp only [Act.put, List.setIfInBounds_toArray, List.set_cons_zero, List.set_cons_succ])
            generalize hq206 : decide (0 ≤ t564) = q206 at HC22 ⊢
            generalize hq207 : decide (0 ≤ t565) = q207 at HC22 ⊢
            go_cut [60] (fun v60 wc => ∃ (kq : Nat) (x60_21 : Bool), v60 = .bool x60_21 ∧ Aside0 (spec_ManyPath.j3 kq x2_2 x8_3 t557 x10_2 x11_3 x12_3 q206 q207 x60_21 = some (r1, r2)) ∧ Aside0 (kq ≤ k3) ∧ Aside0 (Kd.V (Kd.int .i64) 3 wc w.heap.size (fun k_ => (P2_ k_ ∨ w.heap.size ≤ k_) ∧ nb k_ u8 ∧ nb k_ (.slice (some ad563) t557.length co14) ∧ nb k_ u11) (.slice Ao23 x2_2.length co23) x2_2) ∧ Aside0 (Kd.R (Kd.int .i64) 3 wc w.heap.size (fun k_ => (w.heap.size ≤ k_) ∧ nb k_ u11) u8 x8_3) ∧ Aside0 (Kd.N (Kd.slice 3 (Kd.int .i64)) 29 wc w.heap.size (fun k_ => (P2_ k_ ∨ w.heap.size ≤ k_) ∧ nb k_ u8 ∧ nb k_ u11) (.slice (some ad563) t557.length co14) t557) ∧ Aside0 (Kd.R (Kd.int .i64) 3 wc w.heap.size (fun k_ => (w.heap.size ≤ k_) ∧ nb k_ u8) u11 x11_3) ∧ Aside0 (Kd.C (Kd.int .i64) wc A563_0 (rd_L3 t557 x10_2).length (rd_L3 t557 x10_2)) ∧ Aside0 (Below w.heap.size w wc))
            case first =>
             have H := HC22.out
             clear HC22
             by_cases c24 : t564 ≥ 0
             ·rw [if_pos c24] at H
              obtain rfl : q206 = true := hq206.symm.trans (decide_eq_true c24)
              clear c24
              skip
              have H' := am H
              clear H
              go_wp2
              go_meet
              case rel => exact ⟨_, (true), e0, H', ⟨by have := HJ3.out; have := HK2.out; have := HK3.out; first | omega | exact Nat.le_refl _⟩, ⟨mv HO_2.out⟩, ⟨mv HO_8.out⟩, ⟨mv HO_9.out⟩, ⟨mv HO_11.out⟩, ⟨by repeat (first | (with_reducible exact HR563_0.out) | (with_reducible refine Kd.C_alloc ?_ _) | (with_reducible refine Kd.C_drewN ?_ _) | (with_reducible refine Kd.C_drew ?_) | exact HR563_0.out)⟩, ⟨bt⟩⟩
             ·rw [if_neg c24] at H
              obtain rfl : q206 = false := hq206.symm.trans (decide_eq_false c24)
              clear c24
              skip
              have H' := am H
              clear H
              go_wp2
              go_meet
              case rel => exact ⟨_, q207, e0, H', ⟨by have := HJ3.out; have := HK2.out; have := HK3.out; first | omega | exact Nat.le_refl _⟩, ⟨mv HO_2.out⟩, ⟨mv HO_8.out⟩, ⟨mv HO_9.out⟩, ⟨mv HO_11.out⟩, ⟨by repeat (first | (with_reducible exact HR563_0.out) | (with_reducible refine Kd.C_alloc ?_ _) | (with_reducible refine Kd.C_drewN ?_ _) | (with_reducible refine Kd.C_drew ?_) | exact HR563_0.out)⟩, ⟨bt⟩⟩
            case rest =>
             clear HC22
             obtain ⟨kq, x60_21, rfl, HA, HJ21, HO_2, HO_8, HO_9, HO_11, HR563_0, HB⟩ := hcut
             cases kq with
             | zero => exact absurd HA.out (by simp [spec_ManyPath.j3])
             | succ kj21 =>
              have H := HA.out
              clear HA
              simp only [spec_ManyPath.j3] at H
              have HC25 := am H
              clear H
              go_upto_if 60 with (fail)
              go_cut [11] (fun v11 wc => ∃ (kq : Nat) (x11_24 : List Int), Aside0 (spec_ManyPath.j4 kq x2_2 x8_3 t557 x10_2 x11_24 x12_3 q206 q207 = some (r1, r2)) ∧ Aside0 (kq ≤ kj21) ∧ Aside0 (Kd.V (Kd.int .i64) 3 wc w.heap.size (fun k_ => (P2_ k_ ∨ w.heap.size ≤ k_) ∧ nb k_ u8 ∧ nb k_ (.slice (some ad563) t557.length co14) ∧ nb k_ v11) (.slice Ao23 x2_2.length co23) x2_2) ∧ Aside0 (Kd.R (Kd.int .i64) 3 wc w.heap.size (fun k_ => (w.heap.size ≤ k_) ∧ nb k_ v11) u8 x8_3) ∧ Aside0 (Kd.N (Kd.slice 3 (Kd.int .i64)) 29 wc w.heap.size (fun k_ => (P2_ k_ ∨ w.heap.size ≤ k_) ∧ nb k_ u8 ∧ nb k_ v11) (.slice (some ad563) t557.length co14) t557) ∧ Aside0 (Kd.R (Kd.int .i64) 3 wc w.heap.size (fun k_ => (w.heap.size ≤ k_) ∧ nb k_ u8) v11 x11_24) ∧ Aside0 (Below w.heap.size w wc))
              case first =>
               have H := HC25.out
               clear HC25
               by_cases c26 : x60_21 = true
               ·subst c26
                rw [if_pos rfl] at H
                by_cases c27 : x11_3.length < 17592186044416
                ·rw [if_pos c27] at H
                 have LMc27 := am c27
                 clear c27
                 obtain ⟨y566, hy566⟩ : ∃ y_ : List Int, y_ = (x11_3 ++ [wrap64 (Int.tdiv x12_3 2)]) := ⟨_, rfl⟩
                 replace H : (spec_ManyPath.j4 kj21 x2_2 x8_3 t557 x10_2 y566 x12_3 q206 q207) = some (r1, r2) := by first | (rw [hy566]; exact H) | exact H
                 have Ny566 := am hy566
                 clear hy566
                 have H' := am H
                 clear H
                 go_wp2_with (first | ((with_reducible refine gate_builtin (b := .append) (xs := #[.tmp 61, .tmp 64]) rfl ?_); (try (refine gate_guard (by rfl) ?_; dsimp only)); at_builtin; refine Kd.R_append (Kd.int .i64) (w0 := w) w.heap.size rfl (.tmp 61) (.tmp 64) 29 3 (.int .i64 0) 8 rfl Try.underlying29 info3 rfl (by decide) (by omega) u11 x11_3 (wrap64 (Int.tdiv x12_3 2)) [.int .i64 (wrap64 (Int.tdiv x12_3 2))] (fun k_ => (w.heap.size ≤ k_) ∧ nb k_ u8) (fun _ => False) rfl rfl ?aP (fun _ hk => hk.elim) ?aF ?aO ?aB ?aS ?aL ?_; (case aP => exact rfl); (case aB => exact (bt)); (case aF => exact (fun k_ hk => ⟨(Nat.le_trans (below_size (bt)) hk), Kd.fresh' (Kd.R_lt (mv HO_8.out)) k_ hk⟩)); (case aO => exact (mv HO_11.out)); (case aS => exact (below_size (bt))); (case aL => have := LMc27.out; omega); intro v567 w28 ho hb hg hat; rw [← Ny566.out] at ho; replace HO_2 := am (Kd.V_afterv (ok := (fun k_ => (P2_ k_ ∨ w.heap.size ≤ k_) ∧ nb k_ u8 ∧ nb k_ (.slice (some ad563) t557.length co14))) (rV (h := by exact Kd.V_mono HO_2.out (fun _ hk => ⟨⟨hk.1, ⟨hk.2.1, hk.2.2.1⟩⟩, hk.2.2.2⟩))) hg hat); replace HO_8 := am (Kd.R_after (ok := (fun k_ => (w.heap.size ≤ k_))) (mv HO_8.out) hg hat); replace HO_9 := am (Kd.N_afterv (ok := (fun k_ => (P2_ k_ ∨ w.heap.size ≤ k_) ∧ nb k_ u8)) (rN (h := by exact Kd.N_mono HO_9.out (fun _ hk => ⟨⟨hk.1, hk.2.1⟩, hk.2.2⟩))) hg hat); replace HB := am (hb); have HO568 := am (ho); clear HO_11; clear ho hb hg hat))
                 go_meet
                 case rel => exact ⟨_, (y566), H', ⟨by have := HJ3.out; have := HK2.out; have := HK3.out; have := HJ21.out; first | omega | exact Nat.le_refl _⟩, ⟨rV (h := by exact Kd.V_mono HO_2.out (fun _ hk => ⟨hk.1.1, ⟨hk.1.2.1, ⟨hk.1.2.2, hk.2⟩⟩⟩))⟩, ⟨mv HO_8.out⟩, ⟨rN (h := by exact Kd.N_mono HO_9.out (fun _ hk => ⟨hk.1.1, ⟨hk.1.2, hk.2⟩⟩))⟩, ⟨mv HO568.out⟩, ⟨bt⟩⟩
                ·exact nh c27 H
               ·replace c26 := Bool.eq_false_iff.mpr c26
                subst c26
                rw [if_neg nft] at H
                have H' := am H
                clear H
                go_wp2
                go_meet
                case rel => exact ⟨_, (x11_3), H', ⟨by have := HJ3.out; have := HK2.out; have := HK3.out; have := HJ21.out; first | omega | exact Nat.le_refl _⟩, ⟨mv HO_2.out⟩, ⟨mv HO_8.out⟩, ⟨mv HO_9.out⟩, ⟨mv HO_11.out⟩, ⟨bt⟩⟩
              case rest =>
               clear HC25
               obtain ⟨kq, x11_24, HA, HJ24, HO_2, HO_8, HO_9, HO_11, HB⟩ := hcut
               cases kq with
               | zero => exact absurd HA.out (by simp [spec_ManyPath.j4])
               | succ kj24 =>
                have H := HA.out
                clear HA
                simp only [spec_ManyPath.j4] at H
                have HC29 := am H
                clear H
                go_upto_region 15 with (fail)
                go_cut [80] (fun v80 wc => ∃ (kq : Nat) (x80_28 : Bool), v80 = .bool x80_28 ∧ Aside0 (spec_ManyPath.j5 kq x2_2 x8_3 t557 x10_2 x11_24 x12_3 q206 q207 x80_28 = some (r1, r2)) ∧ Aside0 (kq ≤ kj24) ∧ Aside0 (Kd.V (Kd.int .i64) 3 wc w.heap.size (fun k_ => (P2_ k_ ∨ w.heap.size ≤ k_) ∧ nb k_ u8 ∧ nb k_ (.slice (some ad563) t557.length co14) ∧ nb k_ u11) (.slice Ao23 x2_2.length co23) x2_2) ∧ Aside0 (Kd.R (Kd.int .i64) 3 wc w.heap.size (fun k_ => (w.heap.size ≤ k_) ∧ nb k_ u11) u8 x8_3) ∧ Aside0 (Kd.N (Kd.slice 3 (Kd.int .i64)) 29 wc w.heap.size (fun k_ => (P2_ k_ ∨ w.heap.size ≤ k_) ∧ nb k_ u8 ∧ nb k_ u11) (.slice (some ad563) t557.length co14) t557) ∧ Aside0 (Kd.R (Kd.int .i64) 3 wc w.heap.size (fun k_ => (w.heap.size ≤ k_) ∧ nb k_ u8) u11 x11_24) ∧ Aside0 (Below w.heap.size w wc))
                case first =>
                 have H := HC29.out
                 clear HC29
                 by_cases c30 : q206 = true
                 ·rw [if_pos c30] at H
                  subst c30
                  skip
                  skip
                  by_cases c31 : q207 = true
                  ·rw [if_pos c31] at H
                   subst c31
                   skip
                   have H' := am H
                   clear H
                   go_wp2
                   go_meet
                   case rel => exact ⟨_, (false), e0, H', ⟨by have := HJ3.out; have := HK2.out; have := HK3.out; have := HJ21.out; have := HJ24.out; first | omega | exact Nat.le_refl _⟩, ⟨mv HO_2.out⟩, ⟨mv HO_8.out⟩, ⟨mv HO_9.out⟩, ⟨mv HO_11.out⟩, ⟨bt⟩⟩
                  ·rw [if_neg c31] at H
                   replace c31 := Bool.eq_false_iff.mpr c31
                   subst c31
                   by_cases c32 : 0 ≤ x10_2
                   ·rw [if_pos c32] at H
                    have c32b0 : decide (0 ≤ x10_2) = true := decide_eq_true c32
                    clear c32
                    by_cases c33 : x10_2 < (t557.length : Int)
                    ·rw [if_pos c33] at H
                     have c33b0 : decide (x10_2 < (t557.length : Int)) = true := decide_eq_true c33
                     clear c33
                     have H' := am H
                     clear H
                     have p569 : 0 ≤ (x10_2 : Int) := of_decide_eq_true asm
                     have q569 : x10_2 < (t557.length : Int) := of_decide_eq_true asm
                     obtain ⟨ad569, A569_0, c569_0, e569, hx569_0, hl569_0, hi569_0⟩ := at_L3 (Kd.N_reads' HO_9.out).2.2 x10_2 p569 q569
                     obtain rfl : ad563 = ad569 := (by injection e569)
                     obtain ⟨ce569, hce569, hMe569, hcc569⟩ := Kd.N_get HO_9.out [] x10_2 p569 (by first | exact q569 | exact of_decide_eq_true asm | (have e_ := (Kd.N_reads' HO_9.out).1; omega))
                     obtain ⟨ua569_0, uc569_0, rfl, ul569_0, ge569_0⟩ := Kd.FK_slice_open hMe569
                     have hv569_0 := hcc569 0 _ rfl
                     rw [Nat.add_zero, show ((Kd.slice 3 (Kd.int .i64))).sz = 1 from rfl, Nat.mul_one] at hv569_0
                     replace hv569_0 := Option.some.inj (hv569_0.symm.trans hx569_0)
                     injection hv569_0 with hva_ hvn_ hvc_
                     rw [hva_] at ge569_0
                     rw [hvc_] at ul569_0
                     have HL569_0 := am (show Kd.V (Kd.int .i64) 3 _ w.heap.size _ _ (rd_L3 t557 x10_2) from Kd.V_mk ul569_0 ge569_0)
                     clear hva_ hvn_ hvc_ ge569_0 ul569_0
                     clear hcc569 hce569
                     have HR569_0 := am hi569_0
                     have HC569_0 := am hl569_0
                     clear hi569_0 hl569_0
                     replace p569 := eq_true p569
                     replace q569 := eq_true q569
                     go_wp2
                     go_meet
                     case rel => exact ⟨_, (decide ((wrap64 (x12_3 + 1)) < ((rd_L3 t557 x10_2).length : Int))), e0, H', ⟨by have := HJ3.out; have := HK2.out; have := HK3.out; have := HJ21.out; have := HJ24.out; first | omega | exact Nat.le_refl _⟩, ⟨mv HO_2.out⟩, ⟨mv HO_8.out⟩, ⟨mv HO_9.out⟩, ⟨mv HO_11.out⟩, ⟨bt⟩⟩
                    ·exact nh c33 H
                   ·exact nh c32 H
                 ·rw [if_neg c30] at H
                  replace c30 := Bool.eq_false_iff.mpr c30
                  subst c30
                  skip
                  have H' := am H
                  clear H
                  go_wp2
                  go_meet
                  case rel => exact ⟨_, (false), e0, H', ⟨by have := HJ3.out; have := HK2.out; have := HK3.out; have := HJ21.out; have := HJ24.out; first | omega | exact Nat.le_refl _⟩, ⟨mv HO_2.out⟩, ⟨mv HO_8.out⟩, ⟨mv HO_9.out⟩, ⟨mv HO_11.out⟩, ⟨bt⟩⟩
                case rest =>
                 clear HC29
                 obtain ⟨kq, x80_28, rfl, HA, HJ28, HO_2, HO_8, HO_9, HO_11, HB⟩ := hcut
                 cases kq with
                 | zero => exact absurd HA.out (by simp [spec_ManyPath.j5])
                 | succ kj28 =>
                  have H := HA.out
                  clear HA
                  simp only [spec_ManyPath.j5] at H
                  by_cases c34 : x80_28 = true
                  ·subst c34
                   rw [if_pos rfl] at H
                   by_cases c35 : 0 ≤ x10_2
                   ·rw [if_pos c35] at H
                    have c35b0 : decide (0 ≤ x10_2) = true := decide_eq_true c35
                    clear c35
                    by_cases c36 : x10_2 < (t557.length : Int)
                    ·rw [if_pos c36] at H
                     have c36b0 : decide (x10_2 < (t557.length : Int)) = true := decide_eq_true c36
                     clear c36
                     obtain ⟨ji37, hji37⟩ : ∃ j_ : Int, (wrap64 (x12_3 + 1)) = j_ := ⟨_, rfl⟩
                     replace H : (if 0 ≤ (ji37) then (if (ji37) < ((rd_L3 t557 x10_2).length : Int) then (if x8_3.length < 17592186044416 then ((some (x8_3 ++ [rd (rd_L3 t557 x10_2) (ji37)] : List Int)).bind fun y572 => (if q207 = true then (if q206 = true then (spec_ManyPath.l1 kj28 x2_2 y572 t557 x10_2 x11_24 (wrap64 (x12_3 + 2))) else (if 0 ≤ x12_3 then (if x12_3 < ((rd_L3 t557 x10_2).length : Int) then (if y572.length < 17592186044416 then (spec_ManyPath.l1 kj28 x2_2 (y572 ++ [rd (rd_L3 t557 x10_2) x12_3]) t557 x10_2 x11_24 (wrap64 (x12_3 + 2))) else (none)) else (none)) else (none))) else (spec_ManyPath.l1 kj28 x2_2 y572 t557 x10_2 x11_24 (wrap64 (x12_3 + 2))))) else (none)) else (none)) else (none)) = some (r1, r2) := by first | (rw [hji37] at H; exact H) | (simp only [hji37] at H ⊢; exact H)
                     have hji37w : (IntKind.i64.wrap (x12_3 + 1)) = ji37 := (i64_w _).trans hji37
                     by_cases c38 : 0 ≤ (ji37)
                     ·rw [if_pos c38] at H
                      have c38b0 : decide (0 ≤ (ji37)) = true := decide_eq_true c38
                      clear c38
                      by_cases c39 : (ji37) < ((rd_L3 t557 x10_2).length : Int)
                      ·rw [if_pos c39] at H
                       have c39b0 : decide ((ji37) < ((rd_L3 t557 x10_2).length : Int)) = true := decide_eq_true c39
                       clear c39
                       by_cases c40 : x8_3.length < 17592186044416
                       ·rw [if_pos c40] at H
                        have LMc40 := am c40
                        clear c40
                        obtain ⟨y572, hy572⟩ : ∃ y_ : List Int, y_ = (x8_3 ++ [rd (rd_L3 t557 x10_2) (ji37)]) := ⟨_, rfl⟩
                        replace H : (if q207 = true then (if q206 = true then (spec_ManyPath.l1 kj28 x2_2 y572 t557 x10_2 x11_24 (wrap64 (x12_3 + 2))) else (if 0 ≤ x12_3 then (if x12_3 < ((rd_L3 t557 x10_2).length : Int) then (if y572.length < 17592186044416 then (spec_ManyPath.l1 kj28 x2_2 (y572 ++ [rd (rd_L3 t557 x10_2) x12_3]) t557 x10_2 x11_24 (wrap64 (x12_3 + 2))) else (none)) else (none)) else (none))) else (spec_ManyPath.l1 kj28 x2_2 y572 t557 x10_2 x11_24 (wrap64 (x12_3 + 2)))) = some (r1, r2) := by first | (rw [hy572]; exact H) | exact H
                        have Ny572 := am hy572
                        clear hy572
                        by_cases c41 : q207 = true
                        ·rw [if_pos c41] at H
                         subst c41
                         skip
                         by_cases c42 : q206 = true
                         ·rw [if_pos c42] at H
                          subst c42
                          skip
                          have H' := am H
                          clear H
                          have p570 : 0 ≤ (x10_2 : Int) := of_decide_eq_true asm
                          have q570 : x10_2 < (t557.length : Int) := of_decide_eq_true asm
                          obtain ⟨ad570, A570_0, c570_0, e570, hx570_0, hl570_0, hi570_0⟩ := at_L3 (Kd.N_reads' HO_9.out).2.2 x10_2 p570 q570
                          obtain rfl : ad563 = ad570 := (by injection e570)
                          obtain ⟨ce570, hce570, hMe570, hcc570⟩ := Kd.N_get HO_9.out [] x10_2 p570 (by first | exact q570 | exact of_decide_eq_true asm | (have e_ := (Kd.N_reads' HO_9.out).1; omega))
                          obtain ⟨ua570_0, uc570_0, rfl, ul570_0, ge570_0⟩ := Kd.FK_slice_open hMe570
                          have hv570_0 := hcc570 0 _ rfl
                          rw [Nat.add_zero, show ((Kd.slice 3 (Kd.int .i64))).sz = 1 from rfl, Nat.mul_one] at hv570_0
                          replace hv570_0 := Option.some.inj (hv570_0.symm.trans hx570_0)
                          injection hv570_0 with hva_ hvn_ hvc_
                          rw [hva_] at ge570_0
                          rw [hvc_] at ul570_0
                          have HL570_0 := am (show Kd.V (Kd.int .i64) 3 _ w.heap.size _ _ (rd_L3 t557 x10_2) from Kd.V_mk ul570_0 ge570_0)
                          clear hva_ hvn_ hvc_ ge570_0 ul570_0
                          clear hcc570 hce570
                          have HR570_0 := am hi570_0
                          have HC570_0 := am hl570_0
                          clear hi570_0 hl570_0
                          replace p570 := eq_true p570
                          replace q570 := eq_true q570
                          have p571 : 0 ≤ ((ji37) : Int) := of_decide_eq_true asm
                          have q571 : (ji37) < ((rd_L3 t557 x10_2).length : Int) := of_decide_eq_true asm
                          obtain ⟨ad571, e571, hx571_0⟩ := Kd.at_int (cv HR570_0.out) (ji37) p571 q571
                          cases e571
                          replace p571 := eq_true p571
                          replace q571 := eq_true q571
                          go_wp2_with (first | ((with_reducible refine gate_builtin (b := .append) (xs := #[.tmp 81, .tmp 90]) rfl ?_); (try (refine gate_guard (by rfl) ?_; dsimp only)); at_builtin; refine Kd.R_append (Kd.int .i64) (w0 := w) w.heap.size rfl (.tmp 81) (.tmp 90) 29 3 (.int .i64 0) 8 rfl Try.underlying29 info3 rfl (by decide) (by omega) u8 x8_3 (rd (rd_L3 t557 x10_2) (ji37)) [.int .i64 (rd (rd_L3 t557 x10_2) (ji37))] (fun k_ => (w.heap.size ≤ k_) ∧ nb k_ u11) (fun _ => False) rfl rfl ?aP (fun _ hk => hk.elim) ?aF ?aO ?aB ?aS ?aL ?_; (case aP => exact rfl); (case aB => exact (bt)); (case aF => exact (fun k_ hk => ⟨(Nat.le_trans (below_size (bt)) hk), Kd.fresh' (Kd.R_lt (mv HO_11.out)) k_ hk⟩)); (case aO => exact (mv HO_8.out)); (case aS => exact (below_size (bt))); (case aL => have := LMc40.out; omega); intro v573 w43 ho hb hg hat; rw [← Ny572.out] at ho; replace HO_2 := am (Kd.V_afterv (ok := (fun k_ => (P2_ k_ ∨ w.heap.size ≤ k_) ∧ nb k_ (.slice (some ad563) t557.length co14) ∧ nb k_ u11)) (rV (h := by exact Kd.V_mono HO_2.out (fun _ hk => ⟨⟨hk.1, ⟨hk.2.2.1, hk.2.2.2⟩⟩, hk.2.1⟩))) hg hat); replace HO_9 := am (Kd.N_afterv (ok := (fun k_ => (P2_ k_ ∨ w.heap.size ≤ k_) ∧ nb k_ u11)) (rN (h := by exact Kd.N_mono HO_9.out (fun _ hk => ⟨⟨hk.1, hk.2.2⟩, hk.2.1⟩))) hg hat); replace HO_11 := am (Kd.R_after (ok := (fun k_ => (w.heap.size ≤ k_))) (mv HO_11.out) hg hat); replace HL570_0 := am (Kd.V_afterv (ok := (fun k_ => (P2_ k_ ∨ w.heap.size ≤ k_) ∧ nb k_ (.slice (some ad563) t557.length co14) ∧ nb k_ u11)) (rV (h := by exact Kd.V_mono HL570_0.out (fun _ hk => ⟨⟨hk.1.1, ⟨hk.2, hk.1.2.2⟩⟩, hk.1.2.1⟩))) hg hat); replace HB := am (hb); have HO574 := am (ho); clear HO_8; clear ho hb hg hat))
                          go_roundg kj28
                          case measure => have := HJ3.out; have := HK2.out; have := HK3.out; have := HJ21.out; have := HJ24.out; have := HJ28.out; omega
                          case rel => exact ⟨(y572), (x11_24), (wrap64 (x12_3 + 2)), e0, H', ⟨by have := HJ3.out; have := HK2.out; have := HK3.out; have := HJ21.out; have := HJ24.out; have := HJ28.out; omega⟩, ⟨rV (h := by exact Kd.V_mono HO_2.out (fun _ hk => ⟨hk.1.1, ⟨hk.2, ⟨hk.1.2.1, hk.1.2.2⟩⟩⟩))⟩, ⟨mv HO574.out⟩, ⟨rN (h := by exact Kd.N_mono HO_9.out (fun _ hk => ⟨hk.1.1, ⟨hk.2, hk.1.2⟩⟩))⟩, ⟨mv HO_11.out⟩, ⟨bt⟩⟩
                         ·rw [if_neg c42] at H
                          replace c42 := Bool.eq_false_iff.mpr c42
                          subst c42
                          by_cases c44 : 0 ≤ x12_3
                          ·rw [if_pos c44] at H
                           have c44b0 : decide (0 ≤ x12_3) = true := decide_eq_true c44
                           clear c44
                           by_cases c45 : x12_3 < ((rd_L3 t557 x10_2).length : Int)
                           ·rw [if_pos c45] at H
                            have c45b0 : decide (x12_3 < ((rd_L3 t557 x10_2).length : Int)) = true := decide_eq_true c45
                            clear c45
                            by_cases c46 : y572.length < 17592186044416
                            ·rw [if_pos c46] at H
                             have LMc46 := am c46
                             clear c46
                             obtain ⟨y577, hy577⟩ : ∃ y_ : List Int, y_ = (y572 ++ [rd (rd_L3 t557 x10_2) x12_3]) := ⟨_, rfl⟩
                             replace H : (spec_ManyPath.l1 kj28 x2_2 y577 t557 x10_2 x11_24 (wrap64 (x12_3 + 2))) = some (r1, r2) := by first | (rw [hy577]; exact H) | exact H
                             have Ny577 := am hy577
                             clear hy577
                             have H' := am H
                             clear H
                             have p570 : 0 ≤ (x10_2 : Int) := of_decide_eq_true asm
                             have q570 : x10_2 < (t557.length : Int) := of_decide_eq_true asm
                             obtain ⟨ad570, A570_0, c570_0, e570, hx570_0, hl570_0, hi570_0⟩ := at_L3 (Kd.N_reads' HO_9.out).2.2 x10_2 p570 q570
                             obtain rfl : ad563 = ad570 := (by injection e570)
                             obtain ⟨ce570, hce570, hMe570, hcc570⟩ := Kd.N_get HO_9.out [] x10_2 p570 (by first | exact q570 | exact of_decide_eq_true asm | (have e_ := (Kd.N_reads' HO_9.out).1; omega))
                             obtain ⟨ua570_0, uc570_0, rfl, ul570_0, ge570_0⟩ := Kd.FK_slice_open hMe570
                             have hv570_0 := hcc570 0 _ rfl
                             rw [Nat.add_zero, show ((Kd.slice 3 (Kd.int .i64))).sz = 1 from rfl, Nat.mul_one] at hv570_0
                             replace hv570_0 := Option.some.inj (hv570_0.symm.trans hx570_0)
                             injection hv570_0 with hva_ hvn_ hvc_
                             rw [hva_] at ge570_0
                             rw [hvc_] at ul570_0
                             have HL570_0 := am (show Kd.V (Kd.int .i64) 3 _ w.heap.size _ _ (rd_L3 t557 x10_2) from Kd.V_mk ul570_0 ge570_0)
                             clear hva_ hvn_ hvc_ ge570_0 ul570_0
                             clear hcc570 hce570
                             have HR570_0 := am hi570_0
                             have HC570_0 := am hl570_0
                             clear hi570_0 hl570_0
                             replace p570 := eq_true p570
                             replace q570 := eq_true q570
                             have p571 : 0 ≤ ((ji37) : Int) := of_decide_eq_true asm
                             have q571 : (ji37) < ((rd_L3 t557 x10_2).length : Int) := of_decide_eq_true asm
                             obtain ⟨ad571, e571, hx571_0⟩ := Kd.at_int (cv HR570_0.out) (ji37) p571 q571
                             cases e571
                             replace p571 := eq_true p571
                             replace q571 := eq_true q571
                             go_wp2_with (first | ((with_reducible refine gate_builtin (b := .append) (xs := #[.tmp 81, .tmp 90]) rfl ?_); (try (refine gate_guard (by rfl) ?_; dsimp only)); at_builtin; refine Kd.R_append (Kd.int .i64) (w0 := w) w.heap.size rfl (.tmp 81) (.tmp 90) 29 3 (.int .i64 0) 8 rfl Try.underlying29 info3 rfl (by decide) (by omega) u8 x8_3 (rd (rd_L3 t557 x10_2) (ji37)) [.int .i64 (rd (rd_L3 t557 x10_2) (ji37))] (fun k_ => (w.heap.size ≤ k_) ∧ nb k_ u11) (fun _ => False) rfl rfl ?aP (fun _ hk => hk.elim) ?aF ?aO ?aB ?aS ?aL ?_; (case aP => exact rfl); (case aB => exact (bt)); (case aF => exact (fun k_ hk => ⟨(Nat.le_trans (below_size (bt)) hk), Kd.fresh' (Kd.R_lt (mv HO_11.out)) k_ hk⟩)); (case aO => exact (mv HO_8.out)); (case aS => exact (below_size (bt))); (case aL => have := LMc40.out; omega); intro v573 w47 ho hb hg hat; rw [← Ny572.out] at ho; replace HO_2 := am (Kd.V_afterv (ok := (fun k_ => (P2_ k_ ∨ w.heap.size ≤ k_) ∧ nb k_ (.slice (some ad563) t557.length co14) ∧ nb k_ u11)) (rV (h := by exact Kd.V_mono HO_2.out (fun _ hk => ⟨⟨hk.1, ⟨hk.2.2.1, hk.2.2.2⟩⟩, hk.2.1⟩))) hg hat); replace HO_9 := am (Kd.N_afterv (ok := (fun k_ => (P2_ k_ ∨ w.heap.size ≤ k_) ∧ nb k_ u11)) (rN (h := by exact Kd.N_mono HO_9.out (fun _ hk => ⟨⟨hk.1, hk.2.2⟩, hk.2.1⟩))) hg hat); replace HO_11 := am (Kd.R_after (ok := (fun k_ => (w.heap.size ≤ k_))) (mv HO_11.out) hg hat); replace HL570_0 := am (Kd.V_afterv (ok := (fun k_ => (P2_ k_ ∨ w.heap.size ≤ k_) ∧ nb k_ (.slice (some ad563) t557.length co14) ∧ nb k_ u11)) (rV (h := by exact Kd.V_mono HL570_0.out (fun _ hk => ⟨⟨hk.1.1, ⟨hk.2, hk.1.2.2⟩⟩, hk.1.2.1⟩))) hg hat); replace HB := am (hb); have HO574 := am (ho); clear HO_8; clear ho hb hg hat; have p575 : 0 ≤ (x10_2 : Int) := of_decide_eq_true asm; have q575 : x10_2 < (t557.length : Int) := of_decide_eq_true asm; obtain ⟨ad575, A575_0, c575_0, e575, hx575_0, hl575_0, hi575_0⟩ := at_L3 (Kd.N_reads' HO_9.out).2.2 x10_2 p575 q575; obtain rfl : ad563 = ad575 := (by injection e575); obtain ⟨ce575, hce575, hMe575, hcc575⟩ := Kd.N_get HO_9.out [] x10_2 p575 (by first | exact q575 | exact of_decide_eq_true asm | (have e_ := (Kd.N_reads' HO_9.out).1; omega)); obtain ⟨ua575_0, uc575_0, rfl, ul575_0, ge575_0⟩ := Kd.FK_slice_open hMe575; have hv575_0 := hcc575 0 _ rfl; rw [Nat.add_zero, show ((Kd.slice 3 (Kd.int .i64))).sz = 1 from rfl, Nat.mul_one] at hv575_0; replace hv575_0 := Option.some.inj (hv575_0.symm.trans hx575_0); injection hv575_0 with hva_ hvn_ hvc_; rw [hva_] at ge575_0; rw [hvc_] at ul575_0; have HL575_0 := am (show Kd.V (Kd.int .i64) 3 _ w.heap.size _ _ (rd_L3 t557 x10_2) from Kd.V_mk ul575_0 ge575_0); clear hva_ hvn_ hvc_ ge575_0 ul575_0; clear hcc575 hce575; have HR575_0 := am hi575_0; have HC575_0 := am hl575_0; clear hi575_0 hl575_0; replace p575 := eq_true p575; replace q575 := eq_true q575; have p576 : 0 ≤ (x12_3 : Int) := of_decide_eq_true asm; have q576 : x12_3 < ((rd_L3 t557 x10_2).length : Int) := of_decide_eq_true asm; obtain ⟨ad576, e576, hx576_0⟩ := Kd.at_int (cv HR575_0.out) x12_3 p576 q576; cases e576; replace p576 := eq_true p576; replace q576 := eq_true q576) | ((with_reducible refine gate_builtin (b := .append) (xs := #[.tmp 97, .tmp 105]) rfl ?_); (try (refine gate_guard (by rfl) ?_; dsimp only)); at_builtin; refine Kd.R_append (Kd.int .i64) (w0 := w) w.heap.size rfl (.tmp 97) (.tmp 105) 29 3 (.int .i64 0) 8 rfl Try.underlying29 info3 rfl (by decide) (by omega) v573 y572 (rd (rd_L3 t557 x10_2) x12_3) [.int .i64 (rd (rd_L3 t557 x10_2) x12_3)] (fun k_ => (w.heap.size ≤ k_) ∧ nb k_ u11) (fun _ => False) rfl rfl ?aP (fun _ hk => hk.elim) ?aF ?aO ?aB ?aS ?aL ?_; (case aP => exact rfl); (case aB => exact (bt)); (case aF => exact (fun k_ hk => ⟨(Nat.le_trans (below_size (bt)) hk), Kd.fresh' (Kd.R_lt (mv HO_11.out)) k_ hk⟩)); (case aO => exact (mv HO574.out)); (case aS => exact (below_size (bt))); (case aL => have := LMc46.out; omega); intro v578 w48 ho hb hg hat; rw [← Ny577.out] at ho; replace HO_2 := am (Kd.V_afterv (ok := (fun k_ => (P2_ k_ ∨ w.heap.size ≤ k_) ∧ nb k_ (.slice (some ad563) t557.length co14) ∧ nb k_ u11)) (mv HO_2.out) hg hat); replace HO_9 := am (Kd.N_afterv (ok := (fun k_ => (P2_ k_ ∨ w.heap.size ≤ k_) ∧ nb k_ u11)) (mv HO_9.out) hg hat); replace HO_11 := am (Kd.R_after (ok := (fun k_ => (w.heap.size ≤ k_))) (mv HO_11.out) hg hat); replace HL570_0 := am (Kd.V_afterv (ok := (fun k_ => (P2_ k_ ∨ w.heap.size ≤ k_) ∧ nb k_ (.slice (some ad563) t557.length co14) ∧ nb k_ u11)) (mv HL570_0.out) hg hat); replace HL575_0 := am (Kd.V_afterv (ok := (fun k_ => (P2_ k_ ∨ w.heap.size ≤ k_) ∧ nb k_ (.slice (some ad563) t557.length co14) ∧ nb k_ u11)) (rV (h := by exact Kd.V_mono HL575_0.out (fun _ hk => ⟨⟨hk.1.1.1, ⟨hk.2, hk.1.1.2⟩⟩, hk.1.2⟩))) hg hat); replace HB := am (hb); have HO579 := am (ho); clear HO574; clear ho hb hg hat))
                             go_roundg kj28
                             case measure => have := HJ3.out; have := HK2.out; have := HK3.out; have := HJ21.out; have := HJ24.out; have := HJ28.out; omega
                             case rel => exact ⟨(y577), (x11_24), (wrap64 (x12_3 + 2)), e0, H', ⟨by have := HJ3.out; have := HK2.out; have := HK3.out; have := HJ21.out; have := HJ24.out; have := HJ28.out; omega⟩, ⟨rV (h := by exact Kd.V_mono HO_2.out (fun _ hk => ⟨hk.1.1, ⟨hk.2, ⟨hk.1.2.1, hk.1.2.2⟩⟩⟩))⟩, ⟨mv HO579.out⟩, ⟨rN (h := by exact Kd.N_mono HO_9.out (fun _ hk => ⟨hk.1.1, ⟨hk.2, hk.1.2⟩⟩))⟩, ⟨mv HO_11.out⟩, ⟨bt⟩⟩
                            ·exact nh c46 H
                           ·exact nh c45 H
                          ·exact nh c44 H
                        ·rw [if_neg c41] at H
                         replace c41 := Bool.eq_false_iff.mpr c41
                         subst c41
                         have H' := am H
                         clear H
                         have p570 : 0 ≤ (x10_2 : Int) := of_decide_eq_true asm
                         have q570 : x10_2 < (t557.length : Int) := of_decide_eq_true asm
                         obtain ⟨ad570, A570_0, c570_0, e570, hx570_0, hl570_0, hi570_0⟩ := at_L3 (Kd.N_reads' HO_9.out).2.2 x10_2 p570 q570
                         obtain rfl : ad563 = ad570 := (by injection e570)
                         obtain ⟨ce570, hce570, hMe570, hcc570⟩ := Kd.N_get HO_9.out [] x10_2 p570 (by first | exact q570 | exact of_decide_eq_true asm | (have e_ := (Kd.N_reads' HO_9.out).1; omega))
                         obtain ⟨ua570_0, uc570_0, rfl, ul570_0, ge570_0⟩ := Kd.FK_slice_open hMe570
                         have hv570_0 := hcc570 0 _ rfl
                         rw [Nat.add_zero, show ((Kd.slice 3 (Kd.int .i64))).sz = 1 from rfl, Nat.mul_one] at hv570_0
                         replace hv570_0 := Option.some.inj (hv570_0.symm.trans hx570_0)
                         injection hv570_0 with hva_ hvn_ hvc_
                         rw [hva_] at ge570_0
                         rw [hvc_] at ul570_0
                         have HL570_0 := am (show Kd.V (Kd.int .i64) 3 _ w.heap.size _ _ (rd_L3 t557 x10_2) from Kd.V_mk ul570_0 ge570_0)
                         clear hva_ hvn_ hvc_ ge570_0 ul570_0
                         clear hcc570 hce570
                         have HR570_0 := am hi570_0
                         have HC570_0 := am hl570_0
                         clear hi570_0 hl570_0
                         replace p570 := eq_true p570
                         replace q570 := eq_true q570
                         have p571 : 0 ≤ ((ji37) : Int) := of_decide_eq_true asm
                         have q571 : (ji37) < ((rd_L3 t557 x10_2).length : Int) := of_decide_eq_true asm
                         obtain ⟨ad571, e571, hx571_0⟩ := Kd.at_int (cv HR570_0.out) (ji37) p571 q571
                         cases e571
                         replace p571 := eq_true p571
                         replace q571 := eq_true q571
                         go_wp2_with (first | ((with_reducible refine gate_builtin (b := .append) (xs := #[.tmp 81, .tmp 90]) rfl ?_); (try (refine gate_guard (by rfl) ?_; dsimp only)); at_builtin; refine Kd.R_append (Kd.int .i64) (w0 := w) w.heap.size rfl (.tmp 81) (.tmp 90) 29 3 (.int .i64 0) 8 rfl Try.underlying29 info3 rfl (by decide) (by omega) u8 x8_3 (rd (rd_L3 t557 x10_2) (ji37)) [.int .i64 (rd (rd_L3 t557 x10_2) (ji37))] (fun k_ => (w.heap.size ≤ k_) ∧ nb k_ u11) (fun _ => False) rfl rfl ?aP (fun _ hk => hk.elim) ?aF ?aO ?aB ?aS ?aL ?_; (case aP => exact rfl); (case aB => exact (bt)); (case aF => exact (fun k_ hk => ⟨(Nat.le_trans (below_size (bt)) hk), Kd.fresh' (Kd.R_lt (mv HO_11.out)) k_ hk⟩)); (case aO => exact (mv HO_8.out)); (case aS => exact (below_size (bt))); (case aL => have := LMc40.out; omega); intro v573 w49 ho hb hg hat; rw [← Ny572.out] at ho; replace HO_2 := am (Kd.V_afterv (ok := (fun k_ => (P2_ k_ ∨ w.heap.size ≤ k_) ∧ nb k_ (.slice (some ad563) t557.length co14) ∧ nb k_ u11)) (rV (h := by exact Kd.V_mono HO_2.out (fun _ hk => ⟨⟨hk.1, ⟨hk.2.2.1, hk.2.2.2⟩⟩, hk.2.1⟩))) hg hat); replace HO_9 := am (Kd.N_afterv (ok := (fun k_ => (P2_ k_ ∨ w.heap.size ≤ k_) ∧ nb k_ u11)) (rN (h := by exact Kd.N_mono HO_9.out (fun _ hk => ⟨⟨hk.1, hk.2.2⟩, hk.2.1⟩))) hg hat); replace HO_11 := am (Kd.R_after (ok := (fun k_ => (w.heap.size ≤ k_))) (mv HO_11.out) hg hat); replace HL570_0 := am (Kd.V_afterv (ok := (fun k_ => (P2_ k_ ∨ w.heap.size ≤ k_) ∧ nb k_ (.slice (some ad563) t557.length co14) ∧ nb k_ u11)) (rV (h := by exact Kd.V_mono HL570_0.out (fun _ hk => ⟨⟨hk.1.1, ⟨hk.2, hk.1.2.2⟩⟩, hk.1.2.1⟩))) hg hat); replace HB := am (hb); have HO574 := am (ho); clear HO_8; clear ho hb hg hat))
                         go_roundg kj28
                         case measure => have := HJ3.out; have := HK2.out; have := HK3.out; have := HJ21.out; have := HJ24.out; have := HJ28.out; omega
                         case rel => exact ⟨(y572), (x11_24), (wrap64 (x12_3 + 2)), e0, H', ⟨by have := HJ3.out; have := HK2.out; have := HK3.out; have := HJ21.out; have := HJ24.out; have := HJ28.out; omega⟩, ⟨rV (h := by exact Kd.V_mono HO_2.out (fun _ hk => ⟨hk.1.1, ⟨hk.2, ⟨hk.1.2.1, hk.1.2.2⟩⟩⟩))⟩, ⟨mv HO574.out⟩, ⟨rN (h := by exact Kd.N_mono HO_9.out (fun _ hk => ⟨hk.1.1, ⟨hk.2, hk.1.2⟩⟩))⟩, ⟨mv HO_11.out⟩, ⟨bt⟩⟩
                       ·exact nh c40 H
                      ·exact nh c39 H
                     ·exact nh c38 H
                    ·exact nh c36 H
                   ·exact nh c35 H
                  ·replace c34 := Bool.eq_false_iff.mpr c34
                   subst c34
                   rw [if_neg nft] at H
                   by_cases c50 : q207 = true
                   ·rw [if_pos c50] at H
                    subst c50
                    skip
                    by_cases c51 : q206 = true
                    ·rw [if_pos c51] at H
                     subst c51
                     skip
                     have H' := am H
                     clear H
                     go_wp2
                     go_roundg kj28
                     case measure => have := HJ3.out; have := HK2.out; have := HK3.out; have := HJ21.out; have := HJ24.out; have := HJ28.out; omega
                     case rel => exact ⟨(x8_3), (x11_24), (wrap64 (x12_3 + 2)), e0, H', ⟨by have := HJ3.out; have := HK2.out; have := HK3.out; have := HJ21.out; have := HJ24.out; have := HJ28.out; omega⟩, ⟨mv HO_2.out⟩, ⟨mv HO_8.out⟩, ⟨mv HO_9.out⟩, ⟨mv HO_11.out⟩, ⟨bt⟩⟩
                    ·rw [if_neg c51] at H
                     replace c51 := Bool.eq_false_iff.mpr c51
                     subst c51
                     by_cases c52 : 0 ≤ x10_2
                     ·rw [if_pos c52] at H
                      have c52b0 : decide (0 ≤ x10_2) = true := decide_eq_true c52
                      clear c52
                      by_cases c53 : x10_2 < (t557.length : Int)
                      ·rw [if_pos c53] at H
                       have c53b0 : decide (x10_2 < (t557.length : Int)) = true := decide_eq_true c53
                       clear c53
                       by_cases c54 : 0 ≤ x12_3
                       ·rw [if_pos c54] at H
                        have c54b0 : decide (0 ≤ x12_3) = true := decide_eq_true c54
                        clear c54
                        by_cases c55 : x12_3 < ((rd_L3 t557 x10_2).length : Int)
                        ·rw [if_pos c55] at H
                         have c55b0 : decide (x12_3 < ((rd_L3 t557 x10_2).length : Int)) = true := decide_eq_true c55
                         clear c55
                         by_cases c56 : x8_3.length < 17592186044416
                         ·rw [if_pos c56] at H
                          have LMc56 := am c56
                          clear c56
                          obtain ⟨y582, hy582⟩ : ∃ y_ : List Int, y_ = (x8_3 ++ [rd (rd_L3 t557 x10_2) x12_3]) := ⟨_, rfl⟩
                          replace H : (spec_ManyPath.l1 kj28 x2_2 y582 t557 x10_2 x11_24 (wrap64 (x12_3 + 2))) = some (r1, r2) := by first | (rw [hy582]; exact H) | exact H
                          have Ny582 := am hy582
                          clear hy582
                          have H' := am H
                          clear H
                          have p580 : 0 ≤ (x10_2 : Int) := of_decide_eq_true asm
                          have q580 : x10_2 < (t557.length : Int) := of_decide_eq_true asm
                          obtain ⟨ad580, A580_0, c580_0, e580, hx580_0, hl580_0, hi580_0⟩ := at_L3 (Kd.N_reads' HO_9.out).2.2 x10_2 p580 q580
                          obtain rfl : ad563 = ad580 := (by injection e580)
                          obtain ⟨ce580, hce580, hMe580, hcc580⟩ := Kd.N_get HO_9.out [] x10_2 p580 (by first | exact q580 | exact of_decide_eq_true asm | (have e_ := (Kd.N_reads' HO_9.out).1; omega))
                          obtain ⟨ua580_0, uc580_0, rfl, ul580_0, ge580_0⟩ := Kd.FK_slice_open hMe580
                          have hv580_0 := hcc580 0 _ rfl
                          rw [Nat.add_zero, show ((Kd.slice 3 (Kd.int .i64))).sz = 1 from rfl, Nat.mul_one] at hv580_0
                          replace hv580_0 := Option.some.inj (hv580_0.symm.trans hx580_0)
                          injection hv580_0 with hva_ hvn_ hvc_
                          rw [hva_] at ge580_0
                          rw [hvc_] at ul580_0
                          have HL580_0 := am (show Kd.V (Kd.int .i64) 3 _ w.heap.size _ _ (rd_L3 t557 x10_2) from Kd.V_mk ul580_0 ge580_0)
                          clear hva_ hvn_ hvc_ ge580_0 ul580_0
                          clear hcc580 hce580
                          have HR580_0 := am hi580_0
                          have HC580_0 := am hl580_0
                          clear hi580_0 hl580_0
                          replace p580 := eq_true p580
                          replace q580 := eq_true q580
                          have p581 : 0 ≤ (x12_3 : Int) := of_decide_eq_true asm
                          have q581 : x12_3 < ((rd_L3 t557 x10_2).length : Int) := of_decide_eq_true asm
                          obtain ⟨ad581, e581, hx581_0⟩ := Kd.at_int (cv HR580_0.out) x12_3 p581 q581
                          cases e581
                          replace p581 := eq_true p581
                          replace q581 := eq_true q581
                          go_wp2_with (first | ((with_reducible refine gate_builtin (b := .append) (xs := #[.tmp 97, .tmp 105]) rfl ?_); (try (refine gate_guard (by rfl) ?_; dsimp only)); at_builtin; refine Kd.R_append (Kd.int .i64) (w0 := w) w.heap.size rfl (.tmp 97) (.tmp 105) 29 3 (.int .i64 0) 8 rfl Try.underlying29 info3 rfl (by decide) (by omega) u8 x8_3 (rd (rd_L3 t557 x10_2) x12_3) [.int .i64 (rd (rd_L3 t557 x10_2) x12_3)] (fun k_ => (w.heap.size ≤ k_) ∧ nb k_ u11) (fun _ => False) rfl rfl ?aP (fun _ hk => hk.elim) ?aF ?aO ?aB ?aS ?aL ?_; (case aP => exact rfl); (case aB => exact (bt)); (case aF => exact (fun k_ hk => ⟨(Nat.le_trans (below_size (bt)) hk), Kd.fresh' (Kd.R_lt (mv HO_11.out)) k_ hk⟩)); (case aO => exact (mv HO_8.out)); (case aS => exact (below_size (bt))); (case aL => have := LMc56.out; omega); intro v583 w57 ho hb hg hat; rw [← Ny582.out] at ho; replace HO_2 := am (Kd.V_afterv (ok := (fun k_ => (P2_ k_ ∨ w.heap.size ≤ k_) ∧ nb k_ (.slice (some ad563) t557.length co14) ∧ nb k_ u11)) (rV (h := by exact Kd.V_mono HO_2.out (fun _ hk => ⟨⟨hk.1, ⟨hk.2.2.1, hk.2.2.2⟩⟩, hk.2.1⟩))) hg hat); replace HO_9 := am (Kd.N_afterv (ok := (fun k_ => (P2_ k_ ∨ w.heap.size ≤ k_) ∧ nb k_ u11)) (rN (h := by exact Kd.N_mono HO_9.out (fun _ hk => ⟨⟨hk.1, hk.2.2⟩, hk.2.1⟩))) hg hat); replace HO_11 := am (Kd.R_after (ok := (fun k_ => (w.heap.size ≤ k_))) (mv HO_11.out) hg hat); replace HL580_0 := am (Kd.V_afterv (ok := (fun k_ => (P2_ k_ ∨ w.heap.size ≤ k_) ∧ nb k_ (.slice (some ad563) t557.length co14) ∧ nb k_ u11)) (rV (h := by exact Kd.V_mono HL580_0.out (fun _ hk => ⟨⟨hk.1.1, ⟨hk.2, hk.1.2.2⟩⟩, hk.1.2.1⟩))) hg hat); replace HB := am (hb); have HO584 := am (ho); clear HO_8; clear ho hb hg hat))
                          go_roundg kj28
                          case measure => have := HJ3.out; have := HK2.out; have := HK3.out; have := HJ21.out; have := HJ24.out; have := HJ28.out; omega
                          case rel => exact ⟨(y582), (x11_24), (wrap64 (x12_3 + 2)), e0, H', ⟨by have := HJ3.out; have := HK2.out; have := HK3.out; have := HJ21.out; have := HJ24.out; have := HJ28.out; omega⟩, ⟨rV (h := by exact Kd.V_mono HO_2.out (fun _ hk => ⟨hk.1.1, ⟨hk.2, ⟨hk.1.2.1, hk.1.2.2⟩⟩⟩))⟩, ⟨mv HO584.out⟩, ⟨rN (h := by exact Kd.N_mono HO_9.out (fun _ hk => ⟨hk.1.1, ⟨hk.2, hk.1.2⟩⟩))⟩, ⟨mv HO_11.out⟩, ⟨bt⟩⟩
                         ·exact nh c56 H
                        ·exact nh c55 H
                       ·exact nh c54 H
                      ·exact nh c53 H
                     ·exact nh c52 H
                   ·rw [if_neg c50] at H
                    replace c50 := Bool.eq_false_iff.mpr c50
                    subst c50
                    have H' := am H
                    clear H
                    go_wp2
                    go_roundg kj28
                    case measure => have := HJ3.out; have := HK2.out; have := HK3.out; have := HJ21.out; have := HJ24.out; have := HJ28.out; omega
                    case rel => exact ⟨(x8_3), (x11_24), (wrap64 (x12_3 + 2)), e0, H', ⟨by have := HJ3.out; have := HK2.out; have := HK3.out; have := HJ21.out; have := HJ24.out; have := HJ28.out; omega⟩, ⟨mv HO_2.out⟩, ⟨mv HO_8.out⟩, ⟨mv HO_9.out⟩, ⟨mv HO_11.out⟩, ⟨bt⟩⟩
           ·rw [if_neg c19] at H
            have c19b0 : decide (x12_3 < ((rd_L3 t557 x10_2).length : Int)) = false := decide_eq_false c19
            clear c19
            have H' := am H
            clear H
            have p563 : 0 ≤ (x10_2 : Int) := of_decide_eq_true asm
            have q563 : x10_2 < (t557.length : Int) := of_decide_eq_true asm
            obtain ⟨ad563, A563_0, c563_0, e563, hx563_0, hl563_0, hi563_0⟩ := at_L3 (Kd.N_reads' HO_9.out).2.2 x10_2 p563 q563
            cases e563
            obtain ⟨ce563, hce563, hMe563, hcc563⟩ := Kd.N_get HO_9.out [] x10_2 p563 (by first | exact q563 | exact of_decide_eq_true asm | (have e_ := (Kd.N_reads' HO_9.out).1; omega))
            obtain ⟨ua563_0, uc563_0, rfl, ul563_0, ge563_0⟩ := Kd.FK_slice_open hMe563
            have hv563_0 := hcc563 0 _ rfl
            rw [Nat.add_zero, show ((Kd.slice 3 (Kd.int .i64))).sz = 1 from rfl, Nat.mul_one] at hv563_0
            replace hv563_0 := Option.some.inj (hv563_0.symm.trans hx563_0)
            injection hv563_0 with hva_ hvn_ hvc_
            rw [hva_] at ge563_0
            rw [hvc_] at ul563_0
            have HL563_0 := am (show Kd.V (Kd.int .i64) 3 _ w.heap.size _ _ (rd_L3 t557 x10_2) from Kd.V_mk ul563_0 ge563_0)
            clear hva_ hvn_ hvc_ ge563_0 ul563_0
            clear hcc563 hce563
            have HR563_0 := am hi563_0
            have HC563_0 := am hl563_0
            clear hi563_0 hl563_0
            replace p563 := eq_true p563
            replace q563 := eq_true q563
            go_wp2
            go_roundg k3
            case measure => have := HJ3.out; have := HK2.out; have := HK3.out; omega
            case rel => exact ⟨(x11_3), (x8_3), (wrap64 (x10_2 + 1)), e0, H', ⟨by have := HJ3.out; have := HK2.out; have := HK3.out; omega⟩, ⟨by have hR_ := Kd.R_apart' HO_11.out (Kd.N_typed HO_9.out) (by decide); exact Kd.V_mono (Kd.R_V hR_) (fun k_ hk => ⟨.inr hk.1.1, hk.1.2, hk.2⟩)⟩, ⟨rR (h := by exact Kd.R_mono HO_8.out (fun _ hk => hk.1))⟩, ⟨rN (h := by exact Kd.N_mono HO_9.out (fun _ hk => ⟨hk.1, hk.2.1⟩))⟩, ⟨bt⟩⟩
          ·exact nh c18 H
         ·exact nh c17 H
      ·rw [if_neg c13] at H
       have c13b0 : decide ((wrap64 (x10_2 + 1)) < (t557.length : Int)) = false := decide_eq_false c13
       clear c13
       simp only [Option.some.injEq, Prod.mk.injEq] at H
       obtain ⟨rfl, rfl⟩ := H
       obtain ⟨Ao58, co58, eo58⟩ := Kd.N_slice HO_9.out
       subst eo58
       go_wp2
       go_ret2
       exact ⟨_, by first | rfl | (simp [errW_none, errW_some] <;> rfl) | (simp [*, errW_none, errW_some] <;> rfl), rR (h := by exact HO_8.out), bt⟩

end Go.Proofs.Ytchjajbkaiefdaa.PFnMany
