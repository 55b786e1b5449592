-- Written by a program of this workplace (wip/mp.py) out of the translation.
import Derived.Test.YtaacidhgnappdaaPFnExactManyPathx0
import Derived.Test.YtaacidhgnappdaaPFnExactManyPathx1
import Derived.Test.YtaacidhgnappdaaPFnExactManyPathx3
namespace Go.Proofs.Ytaacidhgnappdaa.PFnExactManyPath
open Go.RowKit Go.Proofs.YtaacidhgnappdaaW.PrintWords Go.Proofs.YtaacidhgnappdaaW.PrintLast Go.Proofs.YtaacidhgnappdaaW.PrintMore Go.Proofs.Ytaacidhgnappdaa.Slim
attribute [local go_sem] max2_int min2_int max_two min_two max_three min_three max_four min_four   -- for this text's walks alone
set_option linter.unusedVariables false
set_option linter.unusedSimpArgs false

/-! ### spec_ManyPath: function 54 -/
mutual
def spec_ManyPath.j0 : Nat → Int → List (List Int) → List Int → List Int → Bool → Option (List Int × Bool)
 | 0, _, _, _, _, _ => none
 | k + 1, x0, x1, x2, x8, x26 => if x26 = true then (some (x8, false)) else ((spec_l2Levels.f k x0 x1).bind fun t199 => (spec_ManyPath.l0 k x2 x8 t199 0))
def spec_ManyPath.l0 : Nat → List Int → List Int → List (List Int) → Int → Option (List Int × Bool)
 | 0, _, _, _, _ => none
 | k + 1, x2, x8, x9, x10 => if (wrap64 (x10 + 1)) < (x9.length : Int) then (spec_ManyPath.l1 k x2 x8 x9 x10 (([] : List Int)) 0) else (some (x8, true))
def spec_ManyPath.l1 : Nat → List Int → List Int → List (List Int) → Int → List Int → Int → Option (List Int × Bool)
 | 0, _, _, _, _, _, _ => none
 | k + 1, x2, x8, x9, x10, x11, x12 => if 0 ≤ x10 then (if x10 < (x9.length : Int) then (if x12 < ((rd_L3 x9 x10).length : Int) then ((spec_l2Has.f k x2 x12).bind fun t206 => ((spec_l2Has.f k x2 (wrap64 (x12 + 1))).bind fun t207 => (if t206 ≥ 0 then (spec_ManyPath.j3 k x2 x8 x9 x10 x11 x12 (decide (t206 ≥ 0)) (decide (t207 ≥ 0)) true) else (spec_ManyPath.j3 k x2 x8 x9 x10 x11 x12 (decide (t206 ≥ 0)) (decide (t207 ≥ 0)) (decide (t207 ≥ 0)))))) else (spec_ManyPath.l0 k x11 x8 x9 (wrap64 (x10 + 1)))) else (none)) else (none)
def spec_ManyPath.j3 : Nat → List Int → List Int → List (List Int) → Int → List Int → Int → Bool → Bool → Bool → Option (List Int × Bool)
 | 0, _, _, _, _, _, _, _, _, _ => none
 | k + 1, x2, x8, x9, x10, x11, x12, x13, x14, x60 => if x60 = true then (if x11.length < 17592186044416 then (spec_ManyPath.j4 k x2 x8 x9 x10 (x11 ++ [wrap64 (Int.tdiv x12 2)]) x12 x13 x14) else (none)) else (spec_ManyPath.j4 k x2 x8 x9 x10 x11 x12 x13 x14)
def spec_ManyPath.j4 : Nat → List Int → List Int → List (List Int) → Int → List Int → Int → Bool → Bool → Option (List Int × Bool)
 | 0, _, _, _, _, _, _, _, _ => none
 | k + 1, x2, x8, x9, x10, x11, x12, x13, x14 => if x13 = true then (if x14 = true then (spec_ManyPath.j5 k x2 x8 x9 x10 x11 x12 x13 x14 false) else (if 0 ≤ x10 then (if x10 < (x9.length : Int) then (spec_ManyPath.j5 k x2 x8 x9 x10 x11 x12 x13 x14 (decide ((wrap64 (x12 + 1)) < ((rd_L3 x9 x10).length : Int)))) else (none)) else (none))) else (spec_ManyPath.j5 k x2 x8 x9 x10 x11 x12 x13 x14 false)
def spec_ManyPath.j5 : Nat → List Int → List Int → List (List Int) → Int → List Int → Int → Bool → Bool → Bool → Option (List Int × Bool)
 | 0, _, _, _, _, _, _, _, _, _ => none
 | k + 1, x2, x8, x9, x10, x11, x12, x13, x14, x80 => if x80 = true then (if 0 ≤ x10 then (if x10 < (x9.length : Int) then (if 0 ≤ (wrap64 (x12 + 1)) then (if (wrap64 (x12 + 1)) < ((rd_L3 x9 x10).length : Int) then (if x8.length < 17592186044416 then ((some (x8 ++ [rd (rd_L3 x9 x10) (wrap64 (x12 + 1))] : List Int)).bind fun y214 => (if x14 = true then (if x13 = true then (spec_ManyPath.l1 k x2 y214 x9 x10 x11 (wrap64 (x12 + 2))) else (if 0 ≤ x12 then (if x12 < ((rd_L3 x9 x10).length : Int) then (if y214.length < 17592186044416 then (spec_ManyPath.l1 k x2 (y214 ++ [rd (rd_L3 x9 x10) x12]) x9 x10 x11 (wrap64 (x12 + 2))) else (none)) else (none)) else (none))) else (spec_ManyPath.l1 k x2 y214 x9 x10 x11 (wrap64 (x12 + 2))))) else (none)) else (none)) else (none)) else (none)) else (none)) else (if x14 = true then (if x13 = true then (spec_ManyPath.l1 k x2 x8 x9 x10 x11 (wrap64 (x12 + 2))) else (if 0 ≤ x10 then (if x10 < (x9.length : Int) then (if 0 ≤ x12 then (if x12 < ((rd_L3 x9 x10).length : Int) then (if x8.length < 17592186044416 then (spec_ManyPath.l1 k x2 (x8 ++ [rd (rd_L3 x9 x10) x12]) x9 x10 x11 (wrap64 (x12 + 2))) else (none)) else (none)) else (none)) else (none)) else (none))) else (spec_ManyPath.l1 k x2 x8 x9 x10 x11 (wrap64 (x12 + 2))))
end
def spec_ManyPath.f (k : Nat) (a0 : Int) (l1 : List (List Int)) (l2 : List Int) : Option (List Int × Bool) := (some (([] : List Int) : List Int)).bind fun y194 => ((spec_l2Leaves.f k a0 l1).bind fun t197 => (if t197 = true then ((spec_l2Places.f k (l1.length : Int) l2).bind fun t198 => (spec_ManyPath.j0 k a0 l1 l2 y194 (!t198))) else (spec_ManyPath.j0 k a0 l1 l2 y194 true)))
set_option maxHeartbeats 8000000 in
set_option maxRecDepth 100000 in
theorem spec_ManyPath.calls (k : Nat) (a0 : Int) (A1 : Option Addr) (c1 : Nat) (l1 : List (List Int)) (P2_ : Nat → Prop) (A2 : Option Addr) (c2 : Nat) (l2 : List Int) (r1 : List Int) (r2 : Bool) (w : World) (hr1 : Kd.C (Kd.slice 5 (Kd.int .u8)) w A1 l1.length l1) (hc1 : l1.length ≤ c1) (hs2 : Kd.V (Kd.int .i64) 3 w w.heap.size (fun k_ => P2_ k_) (.slice A2 l2.length c2) l2) (h : spec_ManyPath.f k a0 l1 l2 = some (r1, r2)) :
  Calls Try.prog 54 #[.int .i64 a0, .slice A1 l1.length c1, .slice A2 l2.length c2] w fun e w' => ∃ v0_ : Value, e = .returned (.tuple #[v0_, .bool r2]) ∧ Kd.R (Kd.int .i64) 3 w' w.heap.size (fun k_ => (w.heap.size ≤ k_)) v0_ r1 ∧ Below w.heap.size w w' := by
 have HR1 := Aside0.mk hr1
 have HC1 := Aside0.mk hc1
 clear hr1 hc1
 have HO2 := Aside0.mk (show Kd.V (Kd.int .i64) 3 w w.heap.size (fun k_ => (P2_ k_ ∨ w.heap.size ≤ k_)) (.slice A2 l2.length c2) l2 from Kd.V_mono hs2 (fun k_ hk => .inl hk))
 have HB := Aside0.mk (Below.refl w.heap.size w)
 have H : ((some (([] : List Int) : List Int)).bind fun y194 => ((spec_l2Leaves.f k a0 l1).bind fun t197 => (if t197 = true then ((spec_l2Places.f k (l1.length : Int) l2).bind fun t198 => (spec_ManyPath.j0 k a0 l1 l2 y194 (!t198))) else (spec_ManyPath.j0 k a0 l1 l2 y194 true)))) = some (r1, r2) := h
 clear h
 obtain ⟨y194, hy194⟩ : ∃ y_ : List Int, y_ = (([] : List Int)) := ⟨_, rfl⟩
 replace H : ((spec_l2Leaves.f k a0 l1).bind fun t197 => (if t197 = true then ((spec_l2Places.f k (l1.length : Int) l2).bind fun t198 => (spec_ManyPath.j0 k a0 l1 l2 y194 (!t198))) else (spec_ManyPath.j0 k a0 l1 l2 y194 true))) = some (r1, r2) := by first | (rw [hy194]; exact H) | exact H
 have Ny194 := Aside0.mk hy194
 clear hy194
 have HC4 := Aside0.mk H
 clear H
 go_enter Try.func54, Try.ntmps54
 go_upto_region 2 with (first | ((with_reducible refine gate_dst (N := 15) rfl ?_); (try (refine gate_guard (by rfl) ?_; dsimp only)); refine Kd.R_lit (Kd.int .i64) _ 3 ?hg (N := 15) ?hd (xs := ([] : List Int)) (inner := []) (ok := fun _ => True) (okp := fun _ => True) ?hr ?hp (fun _ hk => hk) trivial (Below.refl _ _) (Nat.le_refl _) (by simp) ?_; (case hd => rfl); (case hg => rfl); (case hr => first | (go_simp; done) | (go_simp; rfl)); (case hp => exact (Reps.none _ _)); intro v195 w5 ho6 hb hg_ hnew_; clear hg_ hnew_; (first | rw [← Ny194.out] at ho6 | (simp only [Int.reduceToNat] at ho6; rw [← Ny194.out] at ho6)); replace HO2 := Aside0.mk (Kd.V_elder' (mv HO2.out) (Kd.R_base ho6) hb); have HO196 := Aside0.mk (Kd.R_lower (Kd.R_newM (M := fun k_ => (w.heap.size ≤ k_)) ho6 (below_size (bt)) (fun k_ h_ => h_)) (below_size (bt))); replace HB := Aside0.mk (below_step (bt) hb); clear hb ho6))
 (try simp only [Act.put, List.setIfInBounds_toArray, List.set_cons_zero, List.set_cons_succ])
 go_cut [26] (fun v26 wc => ∃ (kq : Nat) (x26_3 : Bool), v26 = .bool x26_3 ∧ Aside0 (spec_ManyPath.j0 kq a0 l1 l2 y194 x26_3 = some (r1, r2)) ∧ Aside0 (kq ≤ k) ∧ Aside0 (Kd.V (Kd.int .i64) 3 wc w.heap.size (fun k_ => (P2_ k_ ∨ w.heap.size ≤ k_) ∧ some k_ ≠ (v195 : Value).ownBlock) (.slice A2 l2.length c2) l2) ∧ Aside0 (Kd.R (Kd.int .i64) 3 wc w.heap.size (fun k_ => (w.heap.size ≤ k_)) v195 y194) ∧ Aside0 (Below w.heap.size w wc))
 case first =>
  have H := HC4.out
  clear HC4
  replace H := Option.bind_eq_some_iff.mp H
  obtain ⟨t197, A70, H⟩ := H
  (try dsimp -simprocs only at H)
  have A7 := Aside0.mk A70
  clear A70
  by_cases c8 : t197 = true
  ·subst c8
   rw [if_pos rfl] at H
   replace H := Option.bind_eq_some_iff.mp H
   obtain ⟨t198, A90, H⟩ := H
   (try dsimp -simprocs only at H)
   have A9 := Aside0.mk A90
   clear A90
   have H' := Aside0.mk H
   clear H
   go_wp2_with (first | ((with_reducible refine gate_callee (f := 75) rfl ?_); refine goesL_ (some 18) rfl rfl Try.func75 (by kernel_rfl) rfl #[.int .i64 a0, .slice A1 l1.length c1] rfl av ?_; (with_reducible refine (spec_l2Leaves.calls k a0 _ _ l1 true _ ?side1 ?side2 A7.out).mono ?_); (case side1 => exact cv ((Kd.C_below HR1.out HB.out))); (case side2 => exact HC1.out); rintro e w' ⟨rfl, ⟨nd, rfl⟩⟩; refine ⟨_, rfl, ?_⟩) | (go_at_call 86; (with_reducible refine (spec_l2Places.calls k (l1.length : Int) _ _ l2 t198 _ ?side1 ?side2 A9.out).mono ?_); (case side1 => exact cv ((Kd.V_reads' HO2.out).2.2)); (case side2 => exact (Kd.V_reads' HO2.out).2.1); rintro e w' ⟨rfl, ⟨nd, rfl⟩⟩))
   go_meet
   case rel => exact ⟨_, (!t198), (by first | rfl | (simp; done) | (simp [*]; done)), H', ⟨by first | omega | exact Nat.le_refl _⟩, ⟨mv HO2.out⟩, ⟨by (with_reducible repeat (first | apply Kd.R_alloc | apply Kd.R_drewN | apply Kd.R_drew)); exact Kd.R_mono HO196.out (fun _ hk => hk.1)⟩, ⟨bt⟩⟩
  ·replace c8 := Bool.eq_false_iff.mpr c8
   subst c8
   rw [if_neg (show ¬ (false = true) by decide)] at H
   have H' := Aside0.mk H
   clear H
   go_wp2_with (first | ((with_reducible refine gate_callee (f := 75) rfl ?_); refine goesL_ (some 18) rfl rfl Try.func75 (by kernel_rfl) rfl #[.int .i64 a0, .slice A1 l1.length c1] rfl av ?_; (with_reducible refine (spec_l2Leaves.calls k a0 _ _ l1 false _ ?side1 ?side2 A7.out).mono ?_); (case side1 => exact cv ((Kd.C_below HR1.out HB.out))); (case side2 => exact HC1.out); rintro e w' ⟨rfl, ⟨nd, rfl⟩⟩; refine ⟨_, rfl, ?_⟩))
   go_meet
   case rel => exact ⟨_, (true), (by first | rfl | (simp; done) | (simp [*]; done)), H', ⟨by first | omega | exact Nat.le_refl _⟩, ⟨mv HO2.out⟩, ⟨by (with_reducible repeat (first | apply Kd.R_alloc | apply Kd.R_drewN | apply Kd.R_drew)); exact Kd.R_mono HO196.out (fun _ hk => hk.1)⟩, ⟨bt⟩⟩
 case rest =>
  clear HC4
  try clear c1
  try clear c2
  try clear p2
  try clear c5
  try clear c7
  try clear c8
  obtain ⟨kq, x26_3, rfl, HA, HJ3, HO_2, HO_8, HB⟩ := hcut
  cases kq with
  | zero => exact absurd HA.out (by simp [spec_ManyPath.j0])
  | succ kj3 =>
   have H := HA.out
   clear HA
   simp only [spec_ManyPath.j0] at H
   by_cases c10 : x26_3 = true
   ·subst c10
    rw [if_pos rfl] at H
    simp only [Option.some.injEq, Prod.mk.injEq] at H
    obtain ⟨rfl, rfl⟩ := H
    go_wp2
    go_ret2
    exact ⟨_, by first | rfl | (simp [errW_none, errW_some] <;> rfl) | (simp [*, errW_none, errW_some] <;> rfl), by (with_reducible repeat (first | apply Kd.R_alloc | apply Kd.R_drewN | apply Kd.R_drew)); exact HO_8.out, bt⟩
   ·replace c10 := Bool.eq_false_iff.mpr c10
    subst c10
    rw [if_neg (show ¬ (false = true) by decide)] at H
    replace H := Option.bind_eq_some_iff.mp H
    obtain ⟨t199, A110, H⟩ := H
    (try dsimp -simprocs only at H)
    have A11 := Aside0.mk A110
    clear A110
    have H' := Aside0.mk H
    clear H
    go_wp2_with (first | ((with_reducible refine gate_callee (f := 76) rfl ?_); refine goesL_ (some 30) rfl rfl Try.func76 (by kernel_rfl) rfl #[.int .i64 a0, .slice A1 l1.length c1] rfl av ?_; (with_reducible refine (spec_l2Levels.calls kj3 a0 _ _ l1 t199 _ ?side1 ?side2 A11.out).mono ?_); (case side1 => exact cv ((Kd.C_below HR1.out HB.out))); (case side2 => exact HC1.out); rintro e w12 ⟨v200, rfl, ho0, hb⟩; refine ⟨_, rfl, ?_⟩; replace HO_2 := Aside0.mk (Kd.V_elder' (mv HO_2.out) (by first | exact Kd.N_base ho0 | exact Kd.S_base ho0) hb); have HO201 := Aside0.mk (Kd.N_lower (Kd.N_mono (ok' := fun k_ => (P2_ k_ ∨ w.heap.size ≤ k_) ∧ some k_ ≠ (v195 : Value).ownBlock) ho0 (fun k_ hk_ => ⟨(.inr (Nat.le_trans (below_size (bt)) hk_)), (Kd.fresh' (Kd.R_lt (mv HO_8.out)) k_ hk_)⟩)) (below_size (bt))); replace HO_8 := Aside0.mk (Kd.R_below (mv HO_8.out) hb); replace HB := Aside0.mk (below_step (bt) hb); (try clear hb); (try clear hb2); (try clear hk); (try clear hi); (try clear ho0)))
    go_loopg [2, 8, 10] kj3 (fun kq v2 v8 v10 w' => ∃ (x2_2 : List Int) (x8_2 : List Int) (x10_2 : Int), v10 = .int .i64 x10_2 ∧ Aside0 (spec_ManyPath.l0 kq x2_2 x8_2 t199 x10_2 = some (r1, r2)) ∧ Aside0 (kq ≤ kj3) ∧ Aside0 (Kd.V (Kd.int .i64) 3 w' w.heap.size (fun k_ => (P2_ k_ ∨ w.heap.size ≤ k_) ∧ some k_ ≠ (v8 : Value).ownBlock ∧ some k_ ≠ (v200 : Value).ownBlock) v2 x2_2) ∧ Aside0 (Kd.R (Kd.int .i64) 3 w' w.heap.size (fun k_ => (w.heap.size ≤ k_)) v8 x8_2) ∧ Aside0 (Kd.N (Kd.slice 3 (Kd.int .i64)) 23 w' w.heap.size (fun k_ => (P2_ k_ ∨ w.heap.size ≤ k_) ∧ some k_ ≠ (v8 : Value).ownBlock) v200 t199) ∧ Aside0 (Below w.heap.size w w'))
    case atStart => exact ⟨(l2), (y194), (0), (by first | rfl | (simp; done) | (simp [*]; done)), H', ⟨Nat.le_refl _⟩, ⟨by (with_reducible repeat (first | apply Kd.V_alloc | apply Kd.V_drewN | apply Kd.V_drew)); exact Kd.V_mono HO_2.out (fun _ hk => ⟨hk.1.1, ⟨hk.1.2, hk.2⟩⟩)⟩, ⟨mv HO_8.out⟩, ⟨mv HO201.out⟩, ⟨bt⟩⟩
    case round =>
     clear H'
     try clear c1
     try clear c2
     try clear p2
     try clear c5
     try clear c7
     try clear c8
     try clear c10
     try clear p2
     obtain ⟨x2_2, x8_2, x10_2, rfl, HA, HK2, HO_2, HO_8, HO_9, HB⟩ := hrel
     cases gk with
     | zero => exact absurd HA.out (by simp [spec_ManyPath.l0])
     | succ k2 =>
      have H := HA.out
      clear HA
      simp only [spec_ManyPath.l0] at H
      by_cases c13 : (wrap64 (x10_2 + 1)) < (t199.length : Int)
      ·rw [if_pos c13] at H
       have c13b0 : decide ((wrap64 (x10_2 + 1)) < (t199.length : Int)) = true := decide_eq_true c13
       clear c13
       obtain ⟨y202, hy202⟩ : ∃ y_ : List Int, y_ = (([] : List Int)) := ⟨_, rfl⟩
       replace H : (spec_ManyPath.l1 k2 x2_2 x8_2 t199 x10_2 y202 0) = some (r1, r2) := by first | (rw [hy202]; exact H) | exact H
       have Ny202 := Aside0.mk hy202
       clear hy202
       have H' := Aside0.mk H
       clear H
       obtain ⟨Ao14, co14, eo14⟩ := Kd.N_slice HO_9.out
       subst eo14
       go_wp2_with (first | ((with_reducible refine gate_dst (N := 38) rfl ?_); (try (refine gate_guard (by rfl) ?_; dsimp only)); refine Kd.R_lit (Kd.int .i64) _ 3 ?hg (N := 38) ?hd (xs := ([] : List Int)) (inner := []) (ok := fun _ => True) (okp := fun _ => True) ?hr ?hp (fun _ hk => hk) trivial (Below.refl _ _) (Nat.le_refl _) (by simp) ?_; (case hd => rfl); (case hg => rfl); (case hr => first | (go_simp; done) | (go_simp; rfl)); (case hp => exact (Reps.none _ _)); intro v203 w15 ho16 hb hg_ hnew_; clear hg_ hnew_; (first | rw [← Ny202.out] at ho16 | (simp only [Int.reduceToNat] at ho16; rw [← Ny202.out] at ho16)); replace HO_2 := Aside0.mk (Kd.V_elder' (mv HO_2.out) (Kd.R_base ho16) hb); replace HO_9 := Aside0.mk (Kd.N_elder' (mv HO_9.out) (Kd.R_base ho16) hb); have HO204 := Aside0.mk (Kd.R_lower (Kd.R_new' (Kd.R_newM (M := fun k_ => (w.heap.size ≤ k_)) ho16 (below_size (bt)) (fun k_ h_ => h_)) (Kd.R_lt (mv HO_8.out))) (below_size (bt))); replace HO_8 := Aside0.mk (Kd.R_elder' (mv HO_8.out) (Kd.R_base ho16) hb); replace HB := Aside0.mk (below_step (bt) hb); clear hb ho16))
       go_loopg [8, 11, 12] k2 (fun kq v8 v11 v12 w' => ∃ (x8_3 : List Int) (x11_3 : List Int) (x12_3 : Int), v12 = .int .i64 x12_3 ∧ Aside0 (spec_ManyPath.l1 kq x2_2 x8_3 t199 x10_2 x11_3 x12_3 = some (r1, r2)) ∧ Aside0 (kq ≤ k2) ∧ Aside0 (Kd.V (Kd.int .i64) 3 w' w.heap.size (fun k_ => (P2_ k_ ∨ w.heap.size ≤ k_) ∧ some k_ ≠ (v8 : Value).ownBlock ∧ some k_ ≠ ((.slice Ao14 t199.length co14) : Value).ownBlock ∧ some k_ ≠ (v11 : Value).ownBlock) u2 x2_2) ∧ Aside0 (Kd.R (Kd.int .i64) 3 w' w.heap.size (fun k_ => (w.heap.size ≤ k_) ∧ some k_ ≠ (v11 : Value).ownBlock) v8 x8_3) ∧ Aside0 (Kd.N (Kd.slice 3 (Kd.int .i64)) 23 w' w.heap.size (fun k_ => (P2_ k_ ∨ w.heap.size ≤ k_) ∧ some k_ ≠ (v8 : Value).ownBlock ∧ some k_ ≠ (v11 : Value).ownBlock) (.slice Ao14 t199.length co14) t199) ∧ Aside0 (Kd.R (Kd.int .i64) 3 w' w.heap.size (fun k_ => (w.heap.size ≤ k_) ∧ some k_ ≠ (v8 : Value).ownBlock) v11 x11_3) ∧ Aside0 (Below w.heap.size w w'))
       case atStart => exact ⟨(x8_2), (y202), (0), (by first | rfl | (simp; done) | (simp [*]; done)), H', ⟨Nat.le_refl _⟩, ⟨by (with_reducible repeat (first | apply Kd.V_alloc | apply Kd.V_drewN | apply Kd.V_drew)); exact Kd.V_mono HO_2.out (fun _ hk => ⟨hk.1.1, ⟨hk.1.2.1, ⟨hk.1.2.2, hk.2⟩⟩⟩)⟩, ⟨mv HO_8.out⟩, ⟨by (with_reducible repeat (first | apply Kd.N_alloc | apply Kd.N_drewN | apply Kd.N_drew)); exact Kd.N_mono HO_9.out (fun _ hk => ⟨hk.1.1, ⟨hk.1.2, hk.2⟩⟩)⟩, ⟨by (with_reducible repeat (first | apply Kd.R_alloc | apply Kd.R_drewN | apply Kd.R_drew)); exact Kd.R_mono HO204.out (fun _ hk => ⟨hk.1.1, hk.2⟩)⟩, ⟨bt⟩⟩
       case round =>
        clear H'
        try clear c1
        try clear c2
        try clear p2
        try clear c5
        try clear p6
        try clear c7
        try clear c8
        try clear c10
        try clear c13
        try clear c13b0
        try clear p2
        obtain ⟨x8_3, x11_3, x12_3, rfl, HA, HK3, HO_2, HO_8, HO_9, HO_11, HB⟩ := hrel
        cases gk with
        | zero => exact absurd HA.out (by simp [spec_ManyPath.l1])
        | succ k3 =>
         have H := HA.out
         clear HA
         simp only [spec_ManyPath.l1] at H
         by_cases c17 : 0 ≤ x10_2
         ·rw [if_pos c17] at H
          have c17b0 : decide (0 ≤ x10_2) = true := decide_eq_true c17
          clear c17
          by_cases c18 : x10_2 < (t199.length : Int)
          ·rw [if_pos c18] at H
           have c18b0 : decide (x10_2 < (t199.length : Int)) = true := decide_eq_true c18
           clear c18
           by_cases c19 : x12_3 < ((rd_L3 t199 x10_2).length : Int)
           ·rw [if_pos c19] at H
            have c19b0 : decide (x12_3 < ((rd_L3 t199 x10_2).length : Int)) = true := decide_eq_true c19
            clear c19
            replace H := Option.bind_eq_some_iff.mp H
            obtain ⟨t206, A200, H⟩ := H
            (try dsimp -simprocs only at H)
            have A20 := Aside0.mk A200
            clear A200
            replace H := Option.bind_eq_some_iff.mp H
            obtain ⟨t207, A210, H⟩ := H
            (try dsimp -simprocs only at H)
            have A21 := Aside0.mk A210
            clear A210
            have HC22 := Aside0.mk H
            clear H
            have p205 : 0 ≤ (x10_2 : Int) := of_decide_eq_true asm
            have q205 : x10_2 < (t199.length : Int) := of_decide_eq_true asm
            obtain ⟨ad205, A205_0, c205_0, e205, hx205_0, hl205_0, hi205_0⟩ := at_L3 (Kd.N_reads' HO_9.out).2.2 x10_2 p205 q205
            cases e205
            obtain ⟨ce205, hce205, hMe205, hcc205⟩ := Kd.N_get HO_9.out [] x10_2 p205 (by first | exact q205 | exact of_decide_eq_true asm | (have e_ := (Kd.N_reads' HO_9.out).1; omega))
            obtain ⟨ua205_0, uc205_0, rfl, ul205_0, ge205_0⟩ := Kd.FK_slice_open hMe205
            have hv205_0 := hcc205 0 _ rfl
            rw [Nat.add_zero, show ((Kd.slice 3 (Kd.int .i64))).sz = 1 from rfl, Nat.mul_one] at hv205_0
            replace hv205_0 := Option.some.inj (hv205_0.symm.trans hx205_0)
            injection hv205_0 with hva_ hvn_ hvc_
            rw [hva_] at ge205_0
            rw [hvc_] at ul205_0
            have HL205_0 := Aside0.mk (show Kd.V (Kd.int .i64) 3 _ w.heap.size _ _ (rd_L3 t199 x10_2) from Kd.V_mk ul205_0 ge205_0)
            clear hva_ hvn_ hvc_ ge205_0 ul205_0
            clear hcc205 hce205
            have HR205_0 := Aside0.mk hi205_0
            have HC205_0 := Aside0.mk hl205_0
            clear hi205_0 hl205_0
            replace p205 := eq_true p205
            replace q205 := eq_true q205
            obtain ⟨Ao23, co23, eo23⟩ := Kd.V_slice HO_2.out
            subst eo23
            go_upto_region 13 with (first | ((with_reducible refine gate_callee (f := 92) rfl ?_); refine goesL_ (some 50) rfl rfl Try.func92 (by kernel_rfl) rfl #[.slice Ao23 x2_2.length co23, .int .i64 x12_3] rfl av ?_; (with_reducible refine (spec_l2Has.calls k3 _ _ x2_2 x12_3 t206 _ ?side1 ?side2 A20.out).mono ?_); (case side1 => exact cv ((Kd.V_reads' HO_2.out).2.2)); (case side2 => exact (Kd.V_reads' HO_2.out).2.1); rintro e w' ⟨rfl, ⟨nd, rfl⟩⟩; refine ⟨_, rfl, ?_⟩) | ((with_reducible refine gate_callee (f := 92) rfl ?_); refine goesL_ (some 55) rfl rfl Try.func92 (by kernel_rfl) rfl #[.slice Ao23 x2_2.length co23, .int .i64 (wrap64 (x12_3 + 1))] rfl av ?_; (with_reducible refine (spec_l2Has.calls k3 _ _ x2_2 (wrap64 (x12_3 + 1)) t207 _ ?side1 ?side2 A21.out).mono ?_); (case side1 => exact cv ((Kd.V_reads' HO_2.out).2.2)); (case side2 => exact (Kd.V_reads' HO_2.out).2.1); rintro e w' ⟨rfl, ⟨nd, rfl⟩⟩; refine ⟨_, rfl, ?_⟩))
            (try simp only [Act.put, List.setIfInBounds_toArray, List.set_cons_zero, List.set_cons_succ])
            generalize hq206 : decide (0 ≤ t206) = q206 at HC22 ⊢
            generalize hq207 : decide (0 ≤ t207) = q207 at HC22 ⊢
            go_cut [60] (fun v60 wc => ∃ (kq : Nat) (x60_21 : Bool), v60 = .bool x60_21 ∧ Aside0 (spec_ManyPath.j3 kq x2_2 x8_3 t199 x10_2 x11_3 x12_3 q206 q207 x60_21 = some (r1, r2)) ∧ Aside0 (kq ≤ k3) ∧ Aside0 (Kd.V (Kd.int .i64) 3 wc w.heap.size (fun k_ => (P2_ k_ ∨ w.heap.size ≤ k_) ∧ some k_ ≠ (u8 : Value).ownBlock ∧ some k_ ≠ ((.slice (some ad205) t199.length co14) : Value).ownBlock ∧ some k_ ≠ (u11 : Value).ownBlock) (.slice Ao23 x2_2.length co23) x2_2) ∧ Aside0 (Kd.R (Kd.int .i64) 3 wc w.heap.size (fun k_ => (w.heap.size ≤ k_) ∧ some k_ ≠ (u11 : Value).ownBlock) u8 x8_3) ∧ Aside0 (Kd.N (Kd.slice 3 (Kd.int .i64)) 23 wc w.heap.size (fun k_ => (P2_ k_ ∨ w.heap.size ≤ k_) ∧ some k_ ≠ (u8 : Value).ownBlock ∧ some k_ ≠ (u11 : Value).ownBlock) (.slice (some ad205) t199.length co14) t199) ∧ Aside0 (Kd.R (Kd.int .i64) 3 wc w.heap.size (fun k_ => (w.heap.size ≤ k_) ∧ some k_ ≠ (u8 : Value).ownBlock) u11 x11_3) ∧ Aside0 (Kd.C (Kd.int .i64) wc A205_0 (rd_L3 t199 x10_2).length (rd_L3 t199 x10_2)) ∧ Aside0 (Below w.heap.size w wc))
            case first =>
             have H := HC22.out
             clear HC22
             by_cases c24 : t206 ≥ 0
             ·rw [if_pos c24] at H
              obtain rfl : q206 = true := hq206.symm.trans (decide_eq_true c24)
              clear c24
              skip
              have H' := Aside0.mk H
              clear H
              go_wp2
              go_meet
              case rel => exact ⟨_, (true), (by first | rfl | (simp; done) | (simp [*]; done)), H', ⟨by have := HJ3.out; have := HK2.out; have := HK3.out; first | omega | exact Nat.le_refl _⟩, ⟨mv HO_2.out⟩, ⟨mv HO_8.out⟩, ⟨mv HO_9.out⟩, ⟨mv HO_11.out⟩, ⟨by repeat (first | (with_reducible exact HR205_0.out) | (with_reducible refine Kd.C_alloc ?_ _) | (with_reducible refine Kd.C_drewN ?_ _) | (with_reducible refine Kd.C_drew ?_) | exact HR205_0.out)⟩, ⟨bt⟩⟩
             ·rw [if_neg c24] at H
              obtain rfl : q206 = false := hq206.symm.trans (decide_eq_false c24)
              clear c24
              skip
              have H' := Aside0.mk H
              clear H
              go_wp2
              go_meet
              case rel => exact ⟨_, q207, (by first | rfl | (simp; done) | (simp [*]; done)), H', ⟨by have := HJ3.out; have := HK2.out; have := HK3.out; first | omega | exact Nat.le_refl _⟩, ⟨mv HO_2.out⟩, ⟨mv HO_8.out⟩, ⟨mv HO_9.out⟩, ⟨mv HO_11.out⟩, ⟨by repeat (first | (with_reducible exact HR205_0.out) | (with_reducible refine Kd.C_alloc ?_ _) | (with_reducible refine Kd.C_drewN ?_ _) | (with_reducible refine Kd.C_drew ?_) | exact HR205_0.out)⟩, ⟨bt⟩⟩
            case rest =>
             clear HC22
             try clear c1
             try clear c2
             try clear p2
             try clear q2
             try clear hx2
             try clear c5
             try clear p6
             try clear c7
             try clear c8
             try clear c9
             try clear c10
             try clear c13
             try clear c13b0
             try clear c17
             try clear c17b0
             try clear c18
             try clear c18b0
             try clear c19
             try clear c19b0
             try clear c20
             try clear p20
             try clear q20
             try clear hx20
             try clear c24
             try clear c24b0
             try clear hx205_0
             try clear p2
             try clear p205
             try clear p6
             try clear q205
             obtain ⟨kq, x60_21, rfl, HA, HJ21, HO_2, HO_8, HO_9, HO_11, HR205_0, HB⟩ := hcut
             cases kq with
             | zero => exact absurd HA.out (by simp [spec_ManyPath.j3])
             | succ kj21 =>
              have H := HA.out
              clear HA
              simp only [spec_ManyPath.j3] at H
              have HC25 := Aside0.mk H
              clear H
              go_upto_if 60 with (fail)
              go_cut [11] (fun v11 wc => ∃ (kq : Nat) (x11_24 : List Int), Aside0 (spec_ManyPath.j4 kq x2_2 x8_3 t199 x10_2 x11_24 x12_3 q206 q207 = some (r1, r2)) ∧ Aside0 (kq ≤ kj21) ∧ Aside0 (Kd.V (Kd.int .i64) 3 wc w.heap.size (fun k_ => (P2_ k_ ∨ w.heap.size ≤ k_) ∧ some k_ ≠ (u8 : Value).ownBlock ∧ some k_ ≠ ((.slice (some ad205) t199.length co14) : Value).ownBlock ∧ some k_ ≠ (v11 : Value).ownBlock) (.slice Ao23 x2_2.length co23) x2_2) ∧ Aside0 (Kd.R (Kd.int .i64) 3 wc w.heap.size (fun k_ => (w.heap.size ≤ k_) ∧ some k_ ≠ (v11 : Value).ownBlock) u8 x8_3) ∧ Aside0 (Kd.N (Kd.slice 3 (Kd.int .i64)) 23 wc w.heap.size (fun k_ => (P2_ k_ ∨ w.heap.size ≤ k_) ∧ some k_ ≠ (u8 : Value).ownBlock ∧ some k_ ≠ (v11 : Value).ownBlock) (.slice (some ad205) t199.length co14) t199) ∧ Aside0 (Kd.R (Kd.int .i64) 3 wc w.heap.size (fun k_ => (w.heap.size ≤ k_) ∧ some k_ ≠ (u8 : Value).ownBlock) v11 x11_24) ∧ Aside0 (Below w.heap.size w wc))
              case first =>
               have H := HC25.out
               clear HC25
               by_cases c26 : x60_21 = true
               ·subst c26
                rw [if_pos rfl] at H
                by_cases c27 : x11_3.length < 17592186044416
                ·rw [if_pos c27] at H
                 have LMc27 := Aside0.mk c27
                 clear c27
                 obtain ⟨y208, hy208⟩ : ∃ y_ : List Int, y_ = (x11_3 ++ [wrap64 (Int.tdiv x12_3 2)]) := ⟨_, rfl⟩
                 replace H : (spec_ManyPath.j4 kj21 x2_2 x8_3 t199 x10_2 y208 x12_3 q206 q207) = some (r1, r2) := by first | (rw [hy208]; exact H) | exact H
                 have Ny208 := Aside0.mk hy208
                 clear hy208
                 have H' := Aside0.mk H
                 clear H
                 go_wp2_with (first | ((with_reducible refine gate_builtin (b := .append) (xs := #[.tmp 61, .tmp 64]) rfl ?_); (try (refine gate_guard (by rfl) ?_; dsimp only)); at_builtin; refine Kd.R_append (Kd.int .i64) (w0 := w) w.heap.size rfl (.tmp 61) (.tmp 64) 23 3 (.int .i64 0) 8 rfl Try.underlying23 info3 rfl (by decide) (by omega) u11 x11_3 (wrap64 (Int.tdiv x12_3 2)) [.int .i64 (wrap64 (Int.tdiv x12_3 2))] (fun k_ => (w.heap.size ≤ k_) ∧ some k_ ≠ (u8 : Value).ownBlock) (fun _ => False) rfl rfl ?aP (fun _ hk => hk.elim) ?aF ?aO ?aB ?aS ?aL ?_; (case aP => exact rfl); (case aB => exact (bt)); (case aF => exact (fun k_ hk => ⟨(Nat.le_trans (below_size (bt)) hk), Kd.fresh' (Kd.R_lt (mv HO_8.out)) k_ hk⟩)); (case aO => exact (mv HO_11.out)); (case aS => exact (below_size (bt))); (case aL => have := LMc27.out; omega); intro v209 w28 ho hb hg hat; rw [← Ny208.out] at ho; replace HO_2 := Aside0.mk (Kd.V_afterv (ok := (fun k_ => (P2_ k_ ∨ w.heap.size ≤ k_) ∧ some k_ ≠ (u8 : Value).ownBlock ∧ some k_ ≠ (.slice (some ad205) t199.length co14 : Value).ownBlock)) (by (with_reducible repeat (first | apply Kd.V_alloc | apply Kd.V_drewN | apply Kd.V_drew)); exact Kd.V_mono HO_2.out (fun _ hk => ⟨⟨hk.1, ⟨hk.2.1, hk.2.2.1⟩⟩, hk.2.2.2⟩)) hg hat); replace HO_8 := Aside0.mk (Kd.R_after (ok := (fun k_ => (w.heap.size ≤ k_))) (mv HO_8.out) hg hat); replace HO_9 := Aside0.mk (Kd.N_afterv (ok := (fun k_ => (P2_ k_ ∨ w.heap.size ≤ k_) ∧ some k_ ≠ (u8 : Value).ownBlock)) (by (with_reducible repeat (first | apply Kd.N_alloc | apply Kd.N_drewN | apply Kd.N_drew)); exact Kd.N_mono HO_9.out (fun _ hk => ⟨⟨hk.1, hk.2.1⟩, hk.2.2⟩)) hg hat); replace HB := Aside0.mk (hb); have HO210 := Aside0.mk (ho); clear HO_11; clear ho hb hg hat))
                 go_meet
                 case rel => exact ⟨_, (y208), H', ⟨by have := HJ3.out; have := HK2.out; have := HK3.out; have := HJ21.out; first | omega | exact Nat.le_refl _⟩, ⟨by (with_reducible repeat (first | apply Kd.V_alloc | apply Kd.V_drewN | apply Kd.V_drew)); exact Kd.V_mono HO_2.out (fun _ hk => ⟨hk.1.1, ⟨hk.1.2.1, ⟨hk.1.2.2, hk.2⟩⟩⟩)⟩, ⟨mv HO_8.out⟩, ⟨by (with_reducible repeat (first | apply Kd.N_alloc | apply Kd.N_drewN | apply Kd.N_drew)); exact Kd.N_mono HO_9.out (fun _ hk => ⟨hk.1.1, ⟨hk.1.2, hk.2⟩⟩)⟩, ⟨mv HO210.out⟩, ⟨bt⟩⟩
                ·rw [if_neg c27] at H
                 exact absurd H (by simp)
               ·replace c26 := Bool.eq_false_iff.mpr c26
                subst c26
                rw [if_neg (show ¬ (false = true) by decide)] at H
                have H' := Aside0.mk H
                clear H
                go_wp2
                go_meet
                case rel => exact ⟨_, (x11_3), H', ⟨by have := HJ3.out; have := HK2.out; have := HK3.out; have := HJ21.out; first | omega | exact Nat.le_refl _⟩, ⟨mv HO_2.out⟩, ⟨mv HO_8.out⟩, ⟨mv HO_9.out⟩, ⟨mv HO_11.out⟩, ⟨bt⟩⟩
              case rest =>
               clear HC25
               try clear c1
               try clear c2
               try clear p2
               try clear q2
               try clear hx2
               try clear c5
               try clear p6
               try clear c7
               try clear c8
               try clear c9
               try clear c10
               try clear c13
               try clear c13b0
               try clear c17
               try clear c17b0
               try clear c18
               try clear c18b0
               try clear c19
               try clear c19b0
               try clear c20
               try clear p20
               try clear q20
               try clear hx20
               try clear c24
               try clear c24b0
               try clear c26
               try clear c27
               try clear hx205_0
               try clear p2
               try clear p20
               try clear p205
               try clear p6
               try clear q2
               try clear q20
               try clear q205
               obtain ⟨kq, x11_24, HA, HJ24, HO_2, HO_8, HO_9, HO_11, HB⟩ := hcut
               cases kq with
               | zero => exact absurd HA.out (by simp [spec_ManyPath.j4])
               | succ kj24 =>
                have H := HA.out
                clear HA
                simp only [spec_ManyPath.j4] at H
                have HC29 := Aside0.mk H
                clear H
                go_upto_region 15 with (fail)
                go_cut [80] (fun v80 wc => ∃ (kq : Nat) (x80_28 : Bool), v80 = .bool x80_28 ∧ Aside0 (spec_ManyPath.j5 kq x2_2 x8_3 t199 x10_2 x11_24 x12_3 q206 q207 x80_28 = some (r1, r2)) ∧ Aside0 (kq ≤ kj24) ∧ Aside0 (Kd.V (Kd.int .i64) 3 wc w.heap.size (fun k_ => (P2_ k_ ∨ w.heap.size ≤ k_) ∧ some k_ ≠ (u8 : Value).ownBlock ∧ some k_ ≠ ((.slice (some ad205) t199.length co14) : Value).ownBlock ∧ some k_ ≠ (u11 : Value).ownBlock) (.slice Ao23 x2_2.length co23) x2_2) ∧ Aside0 (Kd.R (Kd.int .i64) 3 wc w.heap.size (fun k_ => (w.heap.size ≤ k_) ∧ some k_ ≠ (u11 : Value).ownBlock) u8 x8_3) ∧ Aside0 (Kd.N (Kd.slice 3 (Kd.int .i64)) 23 wc w.heap.size (fun k_ => (P2_ k_ ∨ w.heap.size ≤ k_) ∧ some k_ ≠ (u8 : Value).ownBlock ∧ some k_ ≠ (u11 : Value).ownBlock) (.slice (some ad205) t199.length co14) t199) ∧ Aside0 (Kd.R (Kd.int .i64) 3 wc w.heap.size (fun k_ => (w.heap.size ≤ k_) ∧ some k_ ≠ (u8 : Value).ownBlock) u11 x11_24) ∧ Aside0 (Below w.heap.size w wc))
                case first =>
                 have H := HC29.out
                 clear HC29
                 by_cases c30 : q206 = true
                 ·rw [if_pos c30] at H
                  subst c30
                  skip
                  skip
                  by_cases c31 : q207 = true
                  ·rw [if_pos c31] at H
                   subst c31
                   skip
                   have H' := Aside0.mk H
                   clear H
                   go_wp2
                   go_meet
                   case rel => exact ⟨_, (false), (by first | rfl | (simp; done) | (simp [*]; done)), H', ⟨by have := HJ3.out; have := HK2.out; have := HK3.out; have := HJ21.out; have := HJ24.out; first | omega | exact Nat.le_refl _⟩, ⟨mv HO_2.out⟩, ⟨mv HO_8.out⟩, ⟨mv HO_9.out⟩, ⟨mv HO_11.out⟩, ⟨bt⟩⟩
                  ·rw [if_neg c31] at H
                   replace c31 := Bool.eq_false_iff.mpr c31
                   subst c31
                   by_cases c32 : 0 ≤ x10_2
                   ·rw [if_pos c32] at H
                    have c32b0 : decide (0 ≤ x10_2) = true := decide_eq_true c32
                    clear c32
                    by_cases c33 : x10_2 < (t199.length : Int)
                    ·rw [if_pos c33] at H
                     have c33b0 : decide (x10_2 < (t199.length : Int)) = true := decide_eq_true c33
                     clear c33
                     have H' := Aside0.mk H
                     clear H
                     have p211 : 0 ≤ (x10_2 : Int) := of_decide_eq_true asm
                     have q211 : x10_2 < (t199.length : Int) := of_decide_eq_true asm
                     obtain ⟨ad211, A211_0, c211_0, e211, hx211_0, hl211_0, hi211_0⟩ := at_L3 (Kd.N_reads' HO_9.out).2.2 x10_2 p211 q211
                     obtain rfl : ad205 = ad211 := (by injection e211)
                     obtain ⟨ce211, hce211, hMe211, hcc211⟩ := Kd.N_get HO_9.out [] x10_2 p211 (by first | exact q211 | exact of_decide_eq_true asm | (have e_ := (Kd.N_reads' HO_9.out).1; omega))
                     obtain ⟨ua211_0, uc211_0, rfl, ul211_0, ge211_0⟩ := Kd.FK_slice_open hMe211
                     have hv211_0 := hcc211 0 _ rfl
                     rw [Nat.add_zero, show ((Kd.slice 3 (Kd.int .i64))).sz = 1 from rfl, Nat.mul_one] at hv211_0
                     replace hv211_0 := Option.some.inj (hv211_0.symm.trans hx211_0)
                     injection hv211_0 with hva_ hvn_ hvc_
                     rw [hva_] at ge211_0
                     rw [hvc_] at ul211_0
                     have HL211_0 := Aside0.mk (show Kd.V (Kd.int .i64) 3 _ w.heap.size _ _ (rd_L3 t199 x10_2) from Kd.V_mk ul211_0 ge211_0)
                     clear hva_ hvn_ hvc_ ge211_0 ul211_0
                     clear hcc211 hce211
                     have HR211_0 := Aside0.mk hi211_0
                     have HC211_0 := Aside0.mk hl211_0
                     clear hi211_0 hl211_0
                     replace p211 := eq_true p211
                     replace q211 := eq_true q211
                     go_wp2
                     go_meet
                     case rel => exact ⟨_, (decide ((wrap64 (x12_3 + 1)) < ((rd_L3 t199 x10_2).length : Int))), (by first | rfl | (simp; done) | (simp [*]; done)), H', ⟨by have := HJ3.out; have := HK2.out; have := HK3.out; have := HJ21.out; have := HJ24.out; first | omega | exact Nat.le_refl _⟩, ⟨mv HO_2.out⟩, ⟨mv HO_8.out⟩, ⟨mv HO_9.out⟩, ⟨mv HO_11.out⟩, ⟨bt⟩⟩
                    ·rw [if_neg c33] at H
                     exact absurd H (by simp)
                   ·rw [if_neg c32] at H
                    exact absurd H (by simp)
                 ·rw [if_neg c30] at H
                  replace c30 := Bool.eq_false_iff.mpr c30
                  subst c30
                  skip
                  have H' := Aside0.mk H
                  clear H
                  go_wp2
                  go_meet
                  case rel => exact ⟨_, (false), (by first | rfl | (simp; done) | (simp [*]; done)), H', ⟨by have := HJ3.out; have := HK2.out; have := HK3.out; have := HJ21.out; have := HJ24.out; first | omega | exact Nat.le_refl _⟩, ⟨mv HO_2.out⟩, ⟨mv HO_8.out⟩, ⟨mv HO_9.out⟩, ⟨mv HO_11.out⟩, ⟨bt⟩⟩
                case rest =>
                 clear HC29
                 try clear c1
                 try clear c2
                 try clear p2
                 try clear q2
                 try clear hx2
                 try clear c3
                 try clear c5
                 try clear p6
                 try clear c7
                 try clear c8
                 try clear c9
                 try clear c10
                 try clear c13
                 try clear c13b0
                 try clear c17
                 try clear c17b0
                 try clear c18
                 try clear c18b0
                 try clear c19
                 try clear c19b0
                 try clear c20
                 try clear p20
                 try clear q20
                 try clear hx20
                 try clear c21
                 try clear p21
                 try clear q21
                 try clear hx21
                 try clear c24
                 try clear c24b0
                 try clear c26
                 try clear c27
                 try clear c30
                 try clear c30b0
                 try clear c31
                 try clear c31b0
                 try clear c32
                 try clear c32b0
                 try clear c33
                 try clear c33b0
                 try clear hx205_0
                 try clear hx211_0
                 try clear p2
                 try clear p20
                 try clear p205
                 try clear p211
                 try clear p6
                 try clear q2
                 try clear q20
                 try clear q205
                 try clear q211
                 obtain ⟨kq, x80_28, rfl, HA, HJ28, HO_2, HO_8, HO_9, HO_11, HB⟩ := hcut
                 cases kq with
                 | zero => exact absurd HA.out (by simp [spec_ManyPath.j5])
                 | succ kj28 =>
                  have H := HA.out
                  clear HA
                  simp only [spec_ManyPath.j5] at H
                  by_cases c34 : x80_28 = true
                  ·subst c34
                   rw [if_pos rfl] at H
                   by_cases c35 : 0 ≤ x10_2
                   ·rw [if_pos c35] at H
                    have c35b0 : decide (0 ≤ x10_2) = true := decide_eq_true c35
                    clear c35
                    by_cases c36 : x10_2 < (t199.length : Int)
                    ·rw [if_pos c36] at H
                     have c36b0 : decide (x10_2 < (t199.length : Int)) = true := decide_eq_true c36
                     clear c36
                     obtain ⟨ji37, hji37⟩ : ∃ j_ : Int, (wrap64 (x12_3 + 1)) = j_ := ⟨_, rfl⟩
                     replace H : (if 0 ≤ (ji37) then (if (ji37) < ((rd_L3 t199 x10_2).length : Int) then (if x8_3.length < 17592186044416 then ((some (x8_3 ++ [rd (rd_L3 t199 x10_2) (ji37)] : List Int)).bind fun y214 => (if q207 = true then (if q206 = true then (spec_ManyPath.l1 kj28 x2_2 y214 t199 x10_2 x11_24 (wrap64 (x12_3 + 2))) else (if 0 ≤ x12_3 then (if x12_3 < ((rd_L3 t199 x10_2).length : Int) then (if y214.length < 17592186044416 then (spec_ManyPath.l1 kj28 x2_2 (y214 ++ [rd (rd_L3 t199 x10_2) x12_3]) t199 x10_2 x11_24 (wrap64 (x12_3 + 2))) else (none)) else (none)) else (none))) else (spec_ManyPath.l1 kj28 x2_2 y214 t199 x10_2 x11_24 (wrap64 (x12_3 + 2))))) else (none)) else (none)) else (none)) = some (r1, r2) := by first | (rw [hji37] at H; exact H) | (simp only [hji37] at H ⊢; exact H)
                     have hji37w : (IntKind.i64.wrap (x12_3 + 1)) = ji37 := (i64_w _).trans hji37
                     by_cases c38 : 0 ≤ (ji37)
                     ·rw [if_pos c38] at H
                      have c38b0 : decide (0 ≤ (ji37)) = true := decide_eq_true c38
                      clear c38
                      by_cases c39 : (ji37) < ((rd_L3 t199 x10_2).length : Int)
                      ·rw [if_pos c39] at H
                       have c39b0 : decide ((ji37) < ((rd_L3 t199 x10_2).length : Int)) = true := decide_eq_true c39
                       clear c39
                       by_cases c40 : x8_3.length < 17592186044416
                       ·rw [if_pos c40] at H
                        have LMc40 := Aside0.mk c40
                        clear c40
                        obtain ⟨y214, hy214⟩ : ∃ y_ : List Int, y_ = (x8_3 ++ [rd (rd_L3 t199 x10_2) (ji37)]) := ⟨_, rfl⟩
                        replace H : (if q207 = true then (if q206 = true then (spec_ManyPath.l1 kj28 x2_2 y214 t199 x10_2 x11_24 (wrap64 (x12_3 + 2))) else (if 0 ≤ x12_3 then (if x12_3 < ((rd_L3 t199 x10_2).length : Int) then (if y214.length < 17592186044416 then (spec_ManyPath.l1 kj28 x2_2 (y214 ++ [rd (rd_L3 t199 x10_2) x12_3]) t199 x10_2 x11_24 (wrap64 (x12_3 + 2))) else (none)) else (none)) else (none))) else (spec_ManyPath.l1 kj28 x2_2 y214 t199 x10_2 x11_24 (wrap64 (x12_3 + 2)))) = some (r1, r2) := by first | (rw [hy214]; exact H) | exact H
                        have Ny214 := Aside0.mk hy214
                        clear hy214
                        by_cases c41 : q207 = true
                        ·rw [if_pos c41] at H
                         subst c41
                         skip
                         by_cases c42 : q206 = true
                         ·rw [if_pos c42] at H
                          subst c42
                          skip
                          have H' := Aside0.mk H
                          clear H
                          have p212 : 0 ≤ (x10_2 : Int) := of_decide_eq_true asm
                          have q212 : x10_2 < (t199.length : Int) := of_decide_eq_true asm
                          obtain ⟨ad212, A212_0, c212_0, e212, hx212_0, hl212_0, hi212_0⟩ := at_L3 (Kd.N_reads' HO_9.out).2.2 x10_2 p212 q212
                          obtain rfl : ad205 = ad212 := (by injection e212)
                          obtain ⟨ce212, hce212, hMe212, hcc212⟩ := Kd.N_get HO_9.out [] x10_2 p212 (by first | exact q212 | exact of_decide_eq_true asm | (have e_ := (Kd.N_reads' HO_9.out).1; omega))
                          obtain ⟨ua212_0, uc212_0, rfl, ul212_0, ge212_0⟩ := Kd.FK_slice_open hMe212
                          have hv212_0 := hcc212 0 _ rfl
                          rw [Nat.add_zero, show ((Kd.slice 3 (Kd.int .i64))).sz = 1 from rfl, Nat.mul_one] at hv212_0
                          replace hv212_0 := Option.some.inj (hv212_0.symm.trans hx212_0)
                          injection hv212_0 with hva_ hvn_ hvc_
                          rw [hva_] at ge212_0
                          rw [hvc_] at ul212_0
                          have HL212_0 := Aside0.mk (show Kd.V (Kd.int .i64) 3 _ w.heap.size _ _ (rd_L3 t199 x10_2) from Kd.V_mk ul212_0 ge212_0)
                          clear hva_ hvn_ hvc_ ge212_0 ul212_0
                          clear hcc212 hce212
                          have HR212_0 := Aside0.mk hi212_0
                          have HC212_0 := Aside0.mk hl212_0
                          clear hi212_0 hl212_0
                          replace p212 := eq_true p212
                          replace q212 := eq_true q212
                          have p213 : 0 ≤ ((ji37) : Int) := of_decide_eq_true asm
                          have q213 : (ji37) < ((rd_L3 t199 x10_2).length : Int) := of_decide_eq_true asm
                          obtain ⟨ad213, e213, hx213_0⟩ := Kd.at_int (by repeat (first | (with_reducible exact HR212_0.out) | (with_reducible refine Kd.C_alloc ?_ _) | (with_reducible refine Kd.C_drewN ?_ _) | (with_reducible refine Kd.C_drew ?_) | exact HR212_0.out)) (ji37) p213 q213
                          cases e213
                          replace p213 := eq_true p213
                          replace q213 := eq_true q213
                          go_wp2_with (first | ((with_reducible refine gate_builtin (b := .append) (xs := #[.tmp 81, .tmp 90]) rfl ?_); (try (refine gate_guard (by rfl) ?_; dsimp only)); at_builtin; refine Kd.R_append (Kd.int .i64) (w0 := w) w.heap.size rfl (.tmp 81) (.tmp 90) 23 3 (.int .i64 0) 8 rfl Try.underlying23 info3 rfl (by decide) (by omega) u8 x8_3 (rd (rd_L3 t199 x10_2) (ji37)) [.int .i64 (rd (rd_L3 t199 x10_2) (ji37))] (fun k_ => (w.heap.size ≤ k_) ∧ some k_ ≠ (u11 : Value).ownBlock) (fun _ => False) rfl rfl ?aP (fun _ hk => hk.elim) ?aF ?aO ?aB ?aS ?aL ?_; (case aP => exact rfl); (case aB => exact (bt)); (case aF => exact (fun k_ hk => ⟨(Nat.le_trans (below_size (bt)) hk), Kd.fresh' (Kd.R_lt (mv HO_11.out)) k_ hk⟩)); (case aO => exact (mv HO_8.out)); (case aS => exact (below_size (bt))); (case aL => have := LMc40.out; omega); intro v215 w43 ho hb hg hat; rw [← Ny214.out] at ho; replace HO_2 := Aside0.mk (Kd.V_afterv (ok := (fun k_ => (P2_ k_ ∨ w.heap.size ≤ k_) ∧ some k_ ≠ (.slice (some ad205) t199.length co14 : Value).ownBlock ∧ some k_ ≠ (u11 : Value).ownBlock)) (by (with_reducible repeat (first | apply Kd.V_alloc | apply Kd.V_drewN | apply Kd.V_drew)); exact Kd.V_mono HO_2.out (fun _ hk => ⟨⟨hk.1, ⟨hk.2.2.1, hk.2.2.2⟩⟩, hk.2.1⟩)) hg hat); replace HO_9 := Aside0.mk (Kd.N_afterv (ok := (fun k_ => (P2_ k_ ∨ w.heap.size ≤ k_) ∧ some k_ ≠ (u11 : Value).ownBlock)) (by (with_reducible repeat (first | apply Kd.N_alloc | apply Kd.N_drewN | apply Kd.N_drew)); exact Kd.N_mono HO_9.out (fun _ hk => ⟨⟨hk.1, hk.2.2⟩, hk.2.1⟩)) hg hat); replace HO_11 := Aside0.mk (Kd.R_after (ok := (fun k_ => (w.heap.size ≤ k_))) (mv HO_11.out) hg hat); replace HL212_0 := Aside0.mk (Kd.V_afterv (ok := (fun k_ => (P2_ k_ ∨ w.heap.size ≤ k_) ∧ some k_ ≠ (.slice (some ad205) t199.length co14 : Value).ownBlock ∧ some k_ ≠ (u11 : Value).ownBlock)) (by (with_reducible repeat (first | apply Kd.V_alloc | apply Kd.V_drewN | apply Kd.V_drew)); exact Kd.V_mono HL212_0.out (fun _ hk => ⟨⟨hk.1.1, ⟨hk.2, hk.1.2.2⟩⟩, hk.1.2.1⟩)) hg hat); replace HB := Aside0.mk (hb); have HO216 := Aside0.mk (ho); clear HO_8; clear ho hb hg hat))
                          go_roundg kj28
                          case measure => have := HJ3.out; have := HK2.out; have := HK3.out; have := HJ21.out; have := HJ24.out; have := HJ28.out; omega
                          case rel => exact ⟨(y214), (x11_24), (wrap64 (x12_3 + 2)), (by first | rfl | (simp; done) | (simp [*]; done)), H', ⟨by have := HJ3.out; have := HK2.out; have := HK3.out; have := HJ21.out; have := HJ24.out; have := HJ28.out; omega⟩, ⟨by (with_reducible repeat (first | apply Kd.V_alloc | apply Kd.V_drewN | apply Kd.V_drew)); exact Kd.V_mono HO_2.out (fun _ hk => ⟨hk.1.1, ⟨hk.2, ⟨hk.1.2.1, hk.1.2.2⟩⟩⟩)⟩, ⟨mv HO216.out⟩, ⟨by (with_reducible repeat (first | apply Kd.N_alloc | apply Kd.N_drewN | apply Kd.N_drew)); exact Kd.N_mono HO_9.out (fun _ hk => ⟨hk.1.1, ⟨hk.2, hk.1.2⟩⟩)⟩, ⟨mv HO_11.out⟩, ⟨bt⟩⟩
                         ·rw [if_neg c42] at H
                          replace c42 := Bool.eq_false_iff.mpr c42
                          subst c42
                          by_cases c44 : 0 ≤ x12_3
                          ·rw [if_pos c44] at H
                           have c44b0 : decide (0 ≤ x12_3) = true := decide_eq_true c44
                           clear c44
                           by_cases c45 : x12_3 < ((rd_L3 t199 x10_2).length : Int)
                           ·rw [if_pos c45] at H
                            have c45b0 : decide (x12_3 < ((rd_L3 t199 x10_2).length : Int)) = true := decide_eq_true c45
                            clear c45
                            by_cases c46 : y214.length < 17592186044416
                            ·rw [if_pos c46] at H
                             have LMc46 := Aside0.mk c46
                             clear c46
                             obtain ⟨y219, hy219⟩ : ∃ y_ : List Int, y_ = (y214 ++ [rd (rd_L3 t199 x10_2) x12_3]) := ⟨_, rfl⟩
                             replace H : (spec_ManyPath.l1 kj28 x2_2 y219 t199 x10_2 x11_24 (wrap64 (x12_3 + 2))) = some (r1, r2) := by first | (rw [hy219]; exact H) | exact H
                             have Ny219 := Aside0.mk hy219
                             clear hy219
                             have H' := Aside0.mk H
                             clear H
                             have p212 : 0 ≤ (x10_2 : Int) := of_decide_eq_true asm
                             have q212 : x10_2 < (t199.length : Int) := of_decide_eq_true asm
                             obtain ⟨ad212, A212_0, c212_0, e212, hx212_0, hl212_0, hi212_0⟩ := at_L3 (Kd.N_reads' HO_9.out).2.2 x10_2 p212 q212
                             obtain rfl : ad205 = ad212 := (by injection e212)
                             obtain ⟨ce212, hce212, hMe212, hcc212⟩ := Kd.N_get HO_9.out [] x10_2 p212 (by first | exact q212 | exact of_decide_eq_true asm | (have e_ := (Kd.N_reads' HO_9.out).1; omega))
                             obtain ⟨ua212_0, uc212_0, rfl, ul212_0, ge212_0⟩ := Kd.FK_slice_open hMe212
                             have hv212_0 := hcc212 0 _ rfl
                             rw [Nat.add_zero, show ((Kd.slice 3 (Kd.int .i64))).sz = 1 from rfl, Nat.mul_one] at hv212_0
                             replace hv212_0 := Option.some.inj (hv212_0.symm.trans hx212_0)
                             injection hv212_0 with hva_ hvn_ hvc_
                             rw [hva_] at ge212_0
                             rw [hvc_] at ul212_0
                             have HL212_0 := Aside0.mk (show Kd.V (Kd.int .i64) 3 _ w.heap.size _ _ (rd_L3 t199 x10_2) from Kd.V_mk ul212_0 ge212_0)
                             clear hva_ hvn_ hvc_ ge212_0 ul212_0
                             clear hcc212 hce212
                             have HR212_0 := Aside0.mk hi212_0
                             have HC212_0 := Aside0.mk hl212_0
                             clear hi212_0 hl212_0
                             replace p212 := eq_true p212
                             replace q212 := eq_true q212
                             have p213 : 0 ≤ ((ji37) : Int) := of_decide_eq_true asm
                             have q213 : (ji37) < ((rd_L3 t199 x10_2).length : Int) := of_decide_eq_true asm
                             obtain ⟨ad213, e213, hx213_0⟩ := Kd.at_int (by repeat (first | (with_reducible exact HR212_0.out) | (with_reducible refine Kd.C_alloc ?_ _) | (with_reducible refine Kd.C_drewN ?_ _) | (with_reducible refine Kd.C_drew ?_) | exact HR212_0.out)) (ji37) p213 q213
                             cases e213
                             replace p213 := eq_true p213
                             replace q213 := eq_true q213
                             go_wp2_with (first | ((with_reducible refine gate_builtin (b := .append) (xs := #[.tmp 81, .tmp 90]) rfl ?_); (try (refine gate_guard (by rfl) ?_; dsimp only)); at_builtin; refine Kd.R_append (Kd.int .i64) (w0 := w) w.heap.size rfl (.tmp 81) (.tmp 90) 23 3 (.int .i64 0) 8 rfl Try.underlying23 info3 rfl (by decide) (by omega) u8 x8_3 (rd (rd_L3 t199 x10_2) (ji37)) [.int .i64 (rd (rd_L3 t199 x10_2) (ji37))] (fun k_ => (w.heap.size ≤ k_) ∧ some k_ ≠ (u11 : Value).ownBlock) (fun _ => False) rfl rfl ?aP (fun _ hk => hk.elim) ?aF ?aO ?aB ?aS ?aL ?_; (case aP => exact rfl); (case aB => exact (bt)); (case aF => exact (fun k_ hk => ⟨(Nat.le_trans (below_size (bt)) hk), Kd.fresh' (Kd.R_lt (mv HO_11.out)) k_ hk⟩)); (case aO => exact (mv HO_8.out)); (case aS => exact (below_size (bt))); (case aL => have := LMc40.out; omega); intro v215 w47 ho hb hg hat; rw [← Ny214.out] at ho; replace HO_2 := Aside0.mk (Kd.V_afterv (ok := (fun k_ => (P2_ k_ ∨ w.heap.size ≤ k_) ∧ some k_ ≠ (.slice (some ad205) t199.length co14 : Value).ownBlock ∧ some k_ ≠ (u11 : Value).ownBlock)) (by (with_reducible repeat (first | apply Kd.V_alloc | apply Kd.V_drewN | apply Kd.V_drew)); exact Kd.V_mono HO_2.out (fun _ hk => ⟨⟨hk.1, ⟨hk.2.2.1, hk.2.2.2⟩⟩, hk.2.1⟩)) hg hat); replace HO_9 := Aside0.mk (Kd.N_afterv (ok := (fun k_ => (P2_ k_ ∨ w.heap.size ≤ k_) ∧ some k_ ≠ (u11 : Value).ownBlock)) (by (with_reducible repeat (first | apply Kd.N_alloc | apply Kd.N_drewN | apply Kd.N_drew)); exact Kd.N_mono HO_9.out (fun _ hk => ⟨⟨hk.1, hk.2.2⟩, hk.2.1⟩)) hg hat); replace HO_11 := Aside0.mk (Kd.R_after (ok := (fun k_ => (w.heap.size ≤ k_))) (mv HO_11.out) hg hat); replace HL212_0 := Aside0.mk (Kd.V_afterv (ok := (fun k_ => (P2_ k_ ∨ w.heap.size ≤ k_) ∧ some k_ ≠ (.slice (some ad205) t199.length co14 : Value).ownBlock ∧ some k_ ≠ (u11 : Value).ownBlock)) (by (with_reducible repeat (first | apply Kd.V_alloc | apply Kd.V_drewN | apply Kd.V_drew)); exact Kd.V_mono HL212_0.out (fun _ hk => ⟨⟨hk.1.1, ⟨hk.2, hk.1.2.2⟩⟩, hk.1.2.1⟩)) hg hat); replace HB := Aside0.mk (hb); have HO216 := Aside0.mk (ho); clear HO_8; clear ho hb hg hat; have p217 : 0 ≤ (x10_2 : Int) := of_decide_eq_true asm; have q217 : x10_2 < (t199.length : Int) := of_decide_eq_true asm; obtain ⟨ad217, A217_0, c217_0, e217, hx217_0, hl217_0, hi217_0⟩ := at_L3 (Kd.N_reads' HO_9.out).2.2 x10_2 p217 q217; obtain rfl : ad205 = ad217 := (by injection e217); obtain ⟨ce217, hce217, hMe217, hcc217⟩ := Kd.N_get HO_9.out [] x10_2 p217 (by first | exact q217 | exact of_decide_eq_true asm | (have e_ := (Kd.N_reads' HO_9.out).1; omega)); obtain ⟨ua217_0, uc217_0, rfl, ul217_0, ge217_0⟩ := Kd.FK_slice_open hMe217; have hv217_0 := hcc217 0 _ rfl; rw [Nat.add_zero, show ((Kd.slice 3 (Kd.int .i64))).sz = 1 from rfl, Nat.mul_one] at hv217_0; replace hv217_0 := Option.some.inj (hv217_0.symm.trans hx217_0); injection hv217_0 with hva_ hvn_ hvc_; rw [hva_] at ge217_0; rw [hvc_] at ul217_0; have HL217_0 := Aside0.mk (show Kd.V (Kd.int .i64) 3 _ w.heap.size _ _ (rd_L3 t199 x10_2) from Kd.V_mk ul217_0 ge217_0); clear hva_ hvn_ hvc_ ge217_0 ul217_0; clear hcc217 hce217; have HR217_0 := Aside0.mk hi217_0; have HC217_0 := Aside0.mk hl217_0; clear hi217_0 hl217_0; replace p217 := eq_true p217; replace q217 := eq_true q217; have p218 : 0 ≤ (x12_3 : Int) := of_decide_eq_true asm; have q218 : x12_3 < ((rd_L3 t199 x10_2).length : Int) := of_decide_eq_true asm; obtain ⟨ad218, e218, hx218_0⟩ := Kd.at_int (by repeat (first | (with_reducible exact HR217_0.out) | (with_reducible refine Kd.C_alloc ?_ _) | (with_reducible refine Kd.C_drewN ?_ _) | (with_reducible refine Kd.C_drew ?_) | exact HR217_0.out)) x12_3 p218 q218; cases e218; replace p218 := eq_true p218; replace q218 := eq_true q218) | ((with_reducible refine gate_builtin (b := .append) (xs := #[.tmp 97, .tmp 105]) rfl ?_); (try (refine gate_guard (by rfl) ?_; dsimp only)); at_builtin; refine Kd.R_append (Kd.int .i64) (w0 := w) w.heap.size rfl (.tmp 97) (.tmp 105) 23 3 (.int .i64 0) 8 rfl Try.underlying23 info3 rfl (by decide) (by omega) v215 y214 (rd (rd_L3 t199 x10_2) x12_3) [.int .i64 (rd (rd_L3 t199 x10_2) x12_3)] (fun k_ => (w.heap.size ≤ k_) ∧ some k_ ≠ (u11 : Value).ownBlock) (fun _ => False) rfl rfl ?aP (fun _ hk => hk.elim) ?aF ?aO ?aB ?aS ?aL ?_; (case aP => exact rfl); (case aB => exact (bt)); (case aF => exact (fun k_ hk => ⟨(Nat.le_trans (below_size (bt)) hk), Kd.fresh' (Kd.R_lt (mv HO_11.out)) k_ hk⟩)); (case aO => exact (mv HO216.out)); (case aS => exact (below_size (bt))); (case aL => have := LMc46.out; omega); intro v220 w48 ho hb hg hat; rw [← Ny219.out] at ho; replace HO_2 := Aside0.mk (Kd.V_afterv (ok := (fun k_ => (P2_ k_ ∨ w.heap.size ≤ k_) ∧ some k_ ≠ (.slice (some ad205) t199.length co14 : Value).ownBlock ∧ some k_ ≠ (u11 : Value).ownBlock)) (mv HO_2.out) hg hat); replace HO_9 := Aside0.mk (Kd.N_afterv (ok := (fun k_ => (P2_ k_ ∨ w.heap.size ≤ k_) ∧ some k_ ≠ (u11 : Value).ownBlock)) (mv HO_9.out) hg hat); replace HO_11 := Aside0.mk (Kd.R_after (ok := (fun k_ => (w.heap.size ≤ k_))) (mv HO_11.out) hg hat); replace HL212_0 := Aside0.mk (Kd.V_afterv (ok := (fun k_ => (P2_ k_ ∨ w.heap.size ≤ k_) ∧ some k_ ≠ (.slice (some ad205) t199.length co14 : Value).ownBlock ∧ some k_ ≠ (u11 : Value).ownBlock)) (mv HL212_0.out) hg hat); replace HL217_0 := Aside0.mk (Kd.V_afterv (ok := (fun k_ => (P2_ k_ ∨ w.heap.size ≤ k_) ∧ some k_ ≠ (.slice (some ad205) t199.length co14 : Value).ownBlock ∧ some k_ ≠ (u11 : Value).ownBlock)) (by (with_reducible repeat (first | apply Kd.V_alloc | apply Kd.V_drewN | apply Kd.V_drew)); exact Kd.V_mono HL217_0.out (fun _ hk => ⟨⟨hk.1.1.1, ⟨hk.2, hk.1.1.2⟩⟩, hk.1.2⟩)) hg hat); replace HB := Aside0.mk (hb); have HO221 := Aside0.mk (ho); clear HO216; clear ho hb hg hat))
                             go_roundg kj28
                             case measure => have := HJ3.out; have := HK2.out; have := HK3.out; have := HJ21.out; have := HJ24.out; have := HJ28.out; omega
                             case rel => exact ⟨(y219), (x11_24), (wrap64 (x12_3 + 2)), (by first | rfl | (simp; done) | (simp [*]; done)), H', ⟨by have := HJ3.out; have := HK2.out; have := HK3.out; have := HJ21.out; have := HJ24.out; have := HJ28.out; omega⟩, ⟨by (with_reducible repeat (first | apply Kd.V_alloc | apply Kd.V_drewN | apply Kd.V_drew)); exact Kd.V_mono HO_2.out (fun _ hk => ⟨hk.1.1, ⟨hk.2, ⟨hk.1.2.1, hk.1.2.2⟩⟩⟩)⟩, ⟨mv HO221.out⟩, ⟨by (with_reducible repeat (first | apply Kd.N_alloc | apply Kd.N_drewN | apply Kd.N_drew)); exact Kd.N_mono HO_9.out (fun _ hk => ⟨hk.1.1, ⟨hk.2, hk.1.2⟩⟩)⟩, ⟨mv HO_11.out⟩, ⟨bt⟩⟩
                            ·rw [if_neg c46] at H
                             exact absurd H (by simp)
                           ·rw [if_neg c45] at H
                            exact absurd H (by simp)
                          ·rw [if_neg c44] at H
                           exact absurd H (by simp)
                        ·rw [if_neg c41] at H
                         replace c41 := Bool.eq_false_iff.mpr c41
                         subst c41
                         have H' := Aside0.mk H
                         clear H
                         have p212 : 0 ≤ (x10_2 : Int) := of_decide_eq_true asm
                         have q212 : x10_2 < (t199.length : Int) := of_decide_eq_true asm
                         obtain ⟨ad212, A212_0, c212_0, e212, hx212_0, hl212_0, hi212_0⟩ := at_L3 (Kd.N_reads' HO_9.out).2.2 x10_2 p212 q212
                         obtain rfl : ad205 = ad212 := (by injection e212)
                         obtain ⟨ce212, hce212, hMe212, hcc212⟩ := Kd.N_get HO_9.out [] x10_2 p212 (by first | exact q212 | exact of_decide_eq_true asm | (have e_ := (Kd.N_reads' HO_9.out).1; omega))
                         obtain ⟨ua212_0, uc212_0, rfl, ul212_0, ge212_0⟩ := Kd.FK_slice_open hMe212
                         have hv212_0 := hcc212 0 _ rfl
                         rw [Nat.add_zero, show ((Kd.slice 3 (Kd.int .i64))).sz = 1 from rfl, Nat.mul_one] at hv212_0
                         replace hv212_0 := Option.some.inj (hv212_0.symm.trans hx212_0)
                         injection hv212_0 with hva_ hvn_ hvc_
                         rw [hva_] at ge212_0
                         rw [hvc_] at ul212_0
                         have HL212_0 := Aside0.mk (show Kd.V (Kd.int .i64) 3 _ w.heap.size _ _ (rd_L3 t199 x10_2) from Kd.V_mk ul212_0 ge212_0)
                         clear hva_ hvn_ hvc_ ge212_0 ul212_0
                         clear hcc212 hce212
                         have HR212_0 := Aside0.mk hi212_0
                         have HC212_0 := Aside0.mk hl212_0
                         clear hi212_0 hl212_0
                         replace p212 := eq_true p212
                         replace q212 := eq_true q212
                         have p213 : 0 ≤ ((ji37) : Int) := of_decide_eq_true asm
                         have q213 : (ji37) < ((rd_L3 t199 x10_2).length : Int) := of_decide_eq_true asm
                         obtain ⟨ad213, e213, hx213_0⟩ := Kd.at_int (by repeat (first | (with_reducible exact HR212_0.out) | (with_reducible refine Kd.C_alloc ?_ _) | (with_reducible refine Kd.C_drewN ?_ _) | (with_reducible refine Kd.C_drew ?_) | exact HR212_0.out)) (ji37) p213 q213
                         cases e213
                         replace p213 := eq_true p213
                         replace q213 := eq_true q213
                         go_wp2_with (first | ((with_reducible refine gate_builtin (b := .append) (xs := #[.tmp 81, .tmp 90]) rfl ?_); (try (refine gate_guard (by rfl) ?_; dsimp only)); at_builtin; refine Kd.R_append (Kd.int .i64) (w0 := w) w.heap.size rfl (.tmp 81) (.tmp 90) 23 3 (.int .i64 0) 8 rfl Try.underlying23 info3 rfl (by decide) (by omega) u8 x8_3 (rd (rd_L3 t199 x10_2) (ji37)) [.int .i64 (rd (rd_L3 t199 x10_2) (ji37))] (fun k_ => (w.heap.size ≤ k_) ∧ some k_ ≠ (u11 : Value).ownBlock) (fun _ => False) rfl rfl ?aP (fun _ hk => hk.elim) ?aF ?aO ?aB ?aS ?aL ?_; (case aP => exact rfl); (case aB => exact (bt)); (case aF => exact (fun k_ hk => ⟨(Nat.le_trans (below_size (bt)) hk), Kd.fresh' (Kd.R_lt (mv HO_11.out)) k_ hk⟩)); (case aO => exact (mv HO_8.out)); (case aS => exact (below_size (bt))); (case aL => have := LMc40.out; omega); intro v215 w49 ho hb hg hat; rw [← Ny214.out] at ho; replace HO_2 := Aside0.mk (Kd.V_afterv (ok := (fun k_ => (P2_ k_ ∨ w.heap.size ≤ k_) ∧ some k_ ≠ (.slice (some ad205) t199.length co14 : Value).ownBlock ∧ some k_ ≠ (u11 : Value).ownBlock)) (by (with_reducible repeat (first | apply Kd.V_alloc | apply Kd.V_drewN | apply Kd.V_drew)); exact Kd.V_mono HO_2.out (fun _ hk => ⟨⟨hk.1, ⟨hk.2.2.1, hk.2.2.2⟩⟩, hk.2.1⟩)) hg hat); replace HO_9 := Aside0.mk (Kd.N_afterv (ok := (fun k_ => (P2_ k_ ∨ w.heap.size ≤ k_) ∧ some k_ ≠ (u11 : Value).ownBlock)) (by (with_reducible repeat (first | apply Kd.N_alloc | apply Kd.N_drewN | apply Kd.N_drew)); exact Kd.N_mono HO_9.out (fun _ hk => ⟨⟨hk.1, hk.2.2⟩, hk.2.1⟩)) hg hat); replace HO_11 := Aside0.mk (Kd.R_after (ok := (fun k_ => (w.heap.size ≤ k_))) (mv HO_11.out) hg hat); replace HL212_0 := Aside0.mk (Kd.V_afterv (ok := (fun k_ => (P2_ k_ ∨ w.heap.size ≤ k_) ∧ some k_ ≠ (.slice (some ad205) t199.length co14 : Value).ownBlock ∧ some k_ ≠ (u11 : Value).ownBlock)) (by (with_reducible repeat (first | apply Kd.V_alloc | apply Kd.V_drewN | apply Kd.V_drew)); exact Kd.V_mono HL212_0.out (fun _ hk => ⟨⟨hk.1.1, ⟨hk.2, hk.1.2.2⟩⟩, hk.1.2.1⟩)) hg hat); replace HB := Aside0.mk (hb); have HO216 := Aside0.mk (ho); clear HO_8; clear ho hb hg hat))
                         go_roundg kj28
                         case measure => have := HJ3.out; have := HK2.out; have := HK3.out; have := HJ21.out; have := HJ24.out; have := HJ28.out; omega
                         case rel => exact ⟨(y214), (x11_24), (wrap64 (x12_3 + 2)), (by first | rfl | (simp; done) | (simp [*]; done)), H', ⟨by have := HJ3.out; have := HK2.out; have := HK3.out; have := HJ21.out; have := HJ24.out; have := HJ28.out; omega⟩, ⟨by (with_reducible repeat (first | apply Kd.V_alloc | apply Kd.V_drewN | apply Kd.V_drew)); exact Kd.V_mono HO_2.out (fun _ hk => ⟨hk.1.1, ⟨hk.2, ⟨hk.1.2.1, hk.1.2.2⟩⟩⟩)⟩, ⟨mv HO216.out⟩, ⟨by (with_reducible repeat (first | apply Kd.N_alloc | apply Kd.N_drewN | apply Kd.N_drew)); exact Kd.N_mono HO_9.out (fun _ hk => ⟨hk.1.1, ⟨hk.2, hk.1.2⟩⟩)⟩, ⟨mv HO_11.out⟩, ⟨bt⟩⟩
                       ·rw [if_neg c40] at H
                        exact absurd H (by simp)
                      ·rw [if_neg c39] at H
                       exact absurd H (by simp)
                     ·rw [if_neg c38] at H
                      exact absurd H (by simp)
                    ·rw [if_neg c36] at H
                     exact absurd H (by simp)
                   ·rw [if_neg c35] at H
                    exact absurd H (by simp)
                  ·replace c34 := Bool.eq_false_iff.mpr c34
                   subst c34
                   rw [if_neg (show ¬ (false = true) by decide)] at H
                   by_cases c50 : q207 = true
                   ·rw [if_pos c50] at H
                    subst c50
                    skip
                    by_cases c51 : q206 = true
                    ·rw [if_pos c51] at H
                     subst c51
                     skip
                     have H' := Aside0.mk H
                     clear H
                     go_wp2
                     go_roundg kj28
                     case measure => have := HJ3.out; have := HK2.out; have := HK3.out; have := HJ21.out; have := HJ24.out; have := HJ28.out; omega
                     case rel => exact ⟨(x8_3), (x11_24), (wrap64 (x12_3 + 2)), (by first | rfl | (simp; done) | (simp [*]; done)), H', ⟨by have := HJ3.out; have := HK2.out; have := HK3.out; have := HJ21.out; have := HJ24.out; have := HJ28.out; omega⟩, ⟨mv HO_2.out⟩, ⟨mv HO_8.out⟩, ⟨mv HO_9.out⟩, ⟨mv HO_11.out⟩, ⟨bt⟩⟩
                    ·rw [if_neg c51] at H
                     replace c51 := Bool.eq_false_iff.mpr c51
                     subst c51
                     by_cases c52 : 0 ≤ x10_2
                     ·rw [if_pos c52] at H
                      have c52b0 : decide (0 ≤ x10_2) = true := decide_eq_true c52
                      clear c52
                      by_cases c53 : x10_2 < (t199.length : Int)
                      ·rw [if_pos c53] at H
                       have c53b0 : decide (x10_2 < (t199.length : Int)) = true := decide_eq_true c53
                       clear c53
                       by_cases c54 : 0 ≤ x12_3
                       ·rw [if_pos c54] at H
                        have c54b0 : decide (0 ≤ x12_3) = true := decide_eq_true c54
                        clear c54
                        by_cases c55 : x12_3 < ((rd_L3 t199 x10_2).length : Int)
                        ·rw [if_pos c55] at H
                         have c55b0 : decide (x12_3 < ((rd_L3 t199 x10_2).length : Int)) = true := decide_eq_true c55
                         clear c55
                         by_cases c56 : x8_3.length < 17592186044416
                         ·rw [if_pos c56] at H
                          have LMc56 := Aside0.mk c56
                          clear c56
                          obtain ⟨y224, hy224⟩ : ∃ y_ : List Int, y_ = (x8_3 ++ [rd (rd_L3 t199 x10_2) x12_3]) := ⟨_, rfl⟩
                          replace H : (spec_ManyPath.l1 kj28 x2_2 y224 t199 x10_2 x11_24 (wrap64 (x12_3 + 2))) = some (r1, r2) := by first | (rw [hy224]; exact H) | exact H
                          have Ny224 := Aside0.mk hy224
                          clear hy224
                          have H' := Aside0.mk H
                          clear H
                          have p222 : 0 ≤ (x10_2 : Int) := of_decide_eq_true asm
                          have q222 : x10_2 < (t199.length : Int) := of_decide_eq_true asm
                          obtain ⟨ad222, A222_0, c222_0, e222, hx222_0, hl222_0, hi222_0⟩ := at_L3 (Kd.N_reads' HO_9.out).2.2 x10_2 p222 q222
                          obtain rfl : ad205 = ad222 := (by injection e222)
                          obtain ⟨ce222, hce222, hMe222, hcc222⟩ := Kd.N_get HO_9.out [] x10_2 p222 (by first | exact q222 | exact of_decide_eq_true asm | (have e_ := (Kd.N_reads' HO_9.out).1; omega))
                          obtain ⟨ua222_0, uc222_0, rfl, ul222_0, ge222_0⟩ := Kd.FK_slice_open hMe222
                          have hv222_0 := hcc222 0 _ rfl
                          rw [Nat.add_zero, show ((Kd.slice 3 (Kd.int .i64))).sz = 1 from rfl, Nat.mul_one] at hv222_0
                          replace hv222_0 := Option.some.inj (hv222_0.symm.trans hx222_0)
                          injection hv222_0 with hva_ hvn_ hvc_
                          rw [hva_] at ge222_0
                          rw [hvc_] at ul222_0
                          have HL222_0 := Aside0.mk (show Kd.V (Kd.int .i64) 3 _ w.heap.size _ _ (rd_L3 t199 x10_2) from Kd.V_mk ul222_0 ge222_0)
                          clear hva_ hvn_ hvc_ ge222_0 ul222_0
                          clear hcc222 hce222
                          have HR222_0 := Aside0.mk hi222_0
                          have HC222_0 := Aside0.mk hl222_0
                          clear hi222_0 hl222_0
                          replace p222 := eq_true p222
                          replace q222 := eq_true q222
                          have p223 : 0 ≤ (x12_3 : Int) := of_decide_eq_true asm
                          have q223 : x12_3 < ((rd_L3 t199 x10_2).length : Int) := of_decide_eq_true asm
                          obtain ⟨ad223, e223, hx223_0⟩ := Kd.at_int (by repeat (first | (with_reducible exact HR222_0.out) | (with_reducible refine Kd.C_alloc ?_ _) | (with_reducible refine Kd.C_drewN ?_ _) | (with_reducible refine Kd.C_drew ?_) | exact HR222_0.out)) x12_3 p223 q223
                          cases e223
                          replace p223 := eq_true p223
                          replace q223 := eq_true q223
                          go_wp2_with (first | ((with_reducible refine gate_builtin (b := .append) (xs := #[.tmp 97, .tmp 105]) rfl ?_); (try (refine gate_guard (by rfl) ?_; dsimp only)); at_builtin; refine Kd.R_append (Kd.int .i64) (w0 := w) w.heap.size rfl (.tmp 97) (.tmp 105) 23 3 (.int .i64 0) 8 rfl Try.underlying23 info3 rfl (by decide) (by omega) u8 x8_3 (rd (rd_L3 t199 x10_2) x12_3) [.int .i64 (rd (rd_L3 t199 x10_2) x12_3)] (fun k_ => (w.heap.size ≤ k_) ∧ some k_ ≠ (u11 : Value).ownBlock) (fun _ => False) rfl rfl ?aP (fun _ hk => hk.elim) ?aF ?aO ?aB ?aS ?aL ?_; (case aP => exact rfl); (case aB => exact (bt)); (case aF => exact (fun k_ hk => ⟨(Nat.le_trans (below_size (bt)) hk), Kd.fresh' (Kd.R_lt (mv HO_11.out)) k_ hk⟩)); (case aO => exact (mv HO_8.out)); (case aS => exact (below_size (bt))); (case aL => have := LMc56.out; omega); intro v225 w57 ho hb hg hat; rw [← Ny224.out] at ho; replace HO_2 := Aside0.mk (Kd.V_afterv (ok := (fun k_ => (P2_ k_ ∨ w.heap.size ≤ k_) ∧ some k_ ≠ (.slice (some ad205) t199.length co14 : Value).ownBlock ∧ some k_ ≠ (u11 : Value).ownBlock)) (by (with_reducible repeat (first | apply Kd.V_alloc | apply Kd.V_drewN | apply Kd.V_drew)); exact Kd.V_mono HO_2.out (fun _ hk => ⟨⟨hk.1, ⟨hk.2.2.1, hk.2.2.2⟩⟩, hk.2.1⟩)) hg hat); replace HO_9 := Aside0.mk (Kd.N_afterv (ok := (fun k_ => (P2_ k_ ∨ w.heap.size ≤ k_) ∧ some k_ ≠ (u11 : Value).ownBlock)) (by (with_reducible repeat (first | apply Kd.N_alloc | apply Kd.N_drewN | apply Kd.N_drew)); exact Kd.N_mono HO_9.out (fun _ hk => ⟨⟨hk.1, hk.2.2⟩, hk.2.1⟩)) hg hat); replace HO_11 := Aside0.mk (Kd.R_after (ok := (fun k_ => (w.heap.size ≤ k_))) (mv HO_11.out) hg hat); replace HL222_0 := Aside0.mk (Kd.V_afterv (ok := (fun k_ => (P2_ k_ ∨ w.heap.size ≤ k_) ∧ some k_ ≠ (.slice (some ad205) t199.length co14 : Value).ownBlock ∧ some k_ ≠ (u11 : Value).ownBlock)) (by (with_reducible repeat (first | apply Kd.V_alloc | apply Kd.V_drewN | apply Kd.V_drew)); exact Kd.V_mono HL222_0.out (fun _ hk => ⟨⟨hk.1.1, ⟨hk.2, hk.1.2.2⟩⟩, hk.1.2.1⟩)) hg hat); replace HB := Aside0.mk (hb); have HO226 := Aside0.mk (ho); clear HO_8; clear ho hb hg hat))
                          go_roundg kj28
                          case measure => have := HJ3.out; have := HK2.out; have := HK3.out; have := HJ21.out; have := HJ24.out; have := HJ28.out; omega
                          case rel => exact ⟨(y224), (x11_24), (wrap64 (x12_3 + 2)), (by first | rfl | (simp; done) | (simp [*]; done)), H', ⟨by have := HJ3.out; have := HK2.out; have := HK3.out; have := HJ21.out; have := HJ24.out; have := HJ28.out; omega⟩, ⟨by (with_reducible repeat (first | apply Kd.V_alloc | apply Kd.V_drewN | apply Kd.V_drew)); exact Kd.V_mono HO_2.out (fun _ hk => ⟨hk.1.1, ⟨hk.2, ⟨hk.1.2.1, hk.1.2.2⟩⟩⟩)⟩, ⟨mv HO226.out⟩, ⟨by (with_reducible repeat (first | apply Kd.N_alloc | apply Kd.N_drewN | apply Kd.N_drew)); exact Kd.N_mono HO_9.out (fun _ hk => ⟨hk.1.1, ⟨hk.2, hk.1.2⟩⟩)⟩, ⟨mv HO_11.out⟩, ⟨bt⟩⟩
                         ·rw [if_neg c56] at H
                          exact absurd H (by simp)
                        ·rw [if_neg c55] at H
                         exact absurd H (by simp)
                       ·rw [if_neg c54] at H
                        exact absurd H (by simp)
                      ·rw [if_neg c53] at H
                       exact absurd H (by simp)
                     ·rw [if_neg c52] at H
                      exact absurd H (by simp)
                   ·rw [if_neg c50] at H
                    replace c50 := Bool.eq_false_iff.mpr c50
                    subst c50
                    have H' := Aside0.mk H
                    clear H
                    go_wp2
                    go_roundg kj28
                    case measure => have := HJ3.out; have := HK2.out; have := HK3.out; have := HJ21.out; have := HJ24.out; have := HJ28.out; omega
                    case rel => exact ⟨(x8_3), (x11_24), (wrap64 (x12_3 + 2)), (by first | rfl | (simp; done) | (simp [*]; done)), H', ⟨by have := HJ3.out; have := HK2.out; have := HK3.out; have := HJ21.out; have := HJ24.out; have := HJ28.out; omega⟩, ⟨mv HO_2.out⟩, ⟨mv HO_8.out⟩, ⟨mv HO_9.out⟩, ⟨mv HO_11.out⟩, ⟨bt⟩⟩
           ·rw [if_neg c19] at H
            have c19b0 : decide (x12_3 < ((rd_L3 t199 x10_2).length : Int)) = false := decide_eq_false c19
            clear c19
            have H' := Aside0.mk H
            clear H
            have p205 : 0 ≤ (x10_2 : Int) := of_decide_eq_true asm
            have q205 : x10_2 < (t199.length : Int) := of_decide_eq_true asm
            obtain ⟨ad205, A205_0, c205_0, e205, hx205_0, hl205_0, hi205_0⟩ := at_L3 (Kd.N_reads' HO_9.out).2.2 x10_2 p205 q205
            cases e205
            obtain ⟨ce205, hce205, hMe205, hcc205⟩ := Kd.N_get HO_9.out [] x10_2 p205 (by first | exact q205 | exact of_decide_eq_true asm | (have e_ := (Kd.N_reads' HO_9.out).1; omega))
            obtain ⟨ua205_0, uc205_0, rfl, ul205_0, ge205_0⟩ := Kd.FK_slice_open hMe205
            have hv205_0 := hcc205 0 _ rfl
            rw [Nat.add_zero, show ((Kd.slice 3 (Kd.int .i64))).sz = 1 from rfl, Nat.mul_one] at hv205_0
            replace hv205_0 := Option.some.inj (hv205_0.symm.trans hx205_0)
            injection hv205_0 with hva_ hvn_ hvc_
            rw [hva_] at ge205_0
            rw [hvc_] at ul205_0
            have HL205_0 := Aside0.mk (show Kd.V (Kd.int .i64) 3 _ w.heap.size _ _ (rd_L3 t199 x10_2) from Kd.V_mk ul205_0 ge205_0)
            clear hva_ hvn_ hvc_ ge205_0 ul205_0
            clear hcc205 hce205
            have HR205_0 := Aside0.mk hi205_0
            have HC205_0 := Aside0.mk hl205_0
            clear hi205_0 hl205_0
            replace p205 := eq_true p205
            replace q205 := eq_true q205
            go_wp2
            go_roundg k3
            case measure => have := HJ3.out; have := HK2.out; have := HK3.out; omega
            case rel => exact ⟨(x11_3), (x8_3), (wrap64 (x10_2 + 1)), (by first | rfl | (simp; done) | (simp [*]; done)), H', ⟨by have := HJ3.out; have := HK2.out; have := HK3.out; omega⟩, ⟨by have hR_ := Kd.R_apart' HO_11.out (Kd.N_typed HO_9.out) (by decide); exact Kd.V_mono (Kd.R_V hR_) (fun k_ hk => ⟨.inr hk.1.1, hk.1.2, hk.2⟩)⟩, ⟨by (with_reducible repeat (first | apply Kd.R_alloc | apply Kd.R_drewN | apply Kd.R_drew)); exact Kd.R_mono HO_8.out (fun _ hk => hk.1)⟩, ⟨by (with_reducible repeat (first | apply Kd.N_alloc | apply Kd.N_drewN | apply Kd.N_drew)); exact Kd.N_mono HO_9.out (fun _ hk => ⟨hk.1, hk.2.1⟩)⟩, ⟨bt⟩⟩
          ·rw [if_neg c18] at H
           exact absurd H (by simp)
         ·rw [if_neg c17] at H
          exact absurd H (by simp)
      ·rw [if_neg c13] at H
       have c13b0 : decide ((wrap64 (x10_2 + 1)) < (t199.length : Int)) = false := decide_eq_false c13
       clear c13
       simp only [Option.some.injEq, Prod.mk.injEq] at H
       obtain ⟨rfl, rfl⟩ := H
       obtain ⟨Ao58, co58, eo58⟩ := Kd.N_slice HO_9.out
       subst eo58
       go_wp2
       go_ret2
       exact ⟨_, by first | rfl | (simp [errW_none, errW_some] <;> rfl) | (simp [*, errW_none, errW_some] <;> rfl), by (with_reducible repeat (first | apply Kd.R_alloc | apply Kd.R_drewN | apply Kd.R_drew)); exact HO_8.out, bt⟩

end Go.Proofs.Ytaacidhgnappdaa.PFnExactManyPath
