-- Written by a program of this workplace (wip/mp.py) out of the translation.
import Derived.Test.YtmcpnganobehaaaPFnDigestsx0
import Derived.Test.YtmcpnganobehaaaPFnDigestsx4
namespace Go.Proofs.Ytmcpnganobehaaa.PFnDigests
open Go.RowKit Go.Proofs.YtmcpnganobehaaaW.PrintWords Go.Proofs.YtmcpnganobehaaaW.PrintLast Go.Proofs.YtmcpnganobehaaaW.PrintMore Go.Proofs.Ytmcpnganobehaaa.Slim
attribute [local go_sem] max2_int min2_int max_two min_two max_three min_three max_four min_four   -- for this text's walks alone
set_option linter.unusedVariables false
set_option linter.unusedSimpArgs false

/-! ### impl_Unparts: function 56 -/
mutual
def impl_Unparts.j0 : Nat → List Int → Bool → Option ((List (List Int)) × Bool)
 | 0, _, _ => none
 | k + 1, x0, x16 => if x16 = true then (some (([] : List (List Int)), false)) else (if 1 ≤ (x0.length : Int) then (if 0 < (x0.length : Int) then (impl_Unparts.l0 k (([] : List (List Int))) (x0.drop 1) (rd x0 0) 0) else (none)) else (none))
def impl_Unparts.l0 : Nat → List (List Int) → List Int → Int → Int → Option ((List (List Int)) × Bool)
 | 0, _, _, _, _ => none
 | k + 1, x4, x5, x22, x23 => if x23 < x22 then (if (x5.length : Int) < 2 then (some (([] : List (List Int)), false)) else (if 0 < (x5.length : Int) then (if 1 < (x5.length : Int) then (if 2 ≤ (x5.length : Int) then ((some (x5.drop 2 : List Int)).bind fun y302 => (if (Go.bits .or .i64 (wrap64 ((wrap64 (rd x5 0)) * 256)) (wrap64 (rd x5 1))) > 60000 then (some (([] : List (List Int)), false)) else (if (Go.bits .or .i64 (wrap64 ((wrap64 (rd x5 0)) * 256)) (wrap64 (rd x5 1))) > (y302.length : Int) then (some (([] : List (List Int)), false)) else (if 0 ≤ (Go.bits .or .i64 (wrap64 ((wrap64 (rd x5 0)) * 256)) (wrap64 (rd x5 1))) then (if (Go.bits .or .i64 (wrap64 ((wrap64 (rd x5 0)) * 256)) (wrap64 (rd x5 1))) ≤ (y302.length : Int) then ((bytes_Clone.f (y302.take ((Go.bits .or .i64 (wrap64 ((wrap64 (rd x5 0)) * 256)) (wrap64 (rd x5 1))) : Int).toNat)).bind fun t312 => (if x4.length < 5864062014805 then (impl_Unparts.l0 k (x4 ++ [t312]) (y302.drop ((Go.bits .or .i64 (wrap64 ((wrap64 (rd x5 0)) * 256)) (wrap64 (rd x5 1))) : Int).toNat) x22 ((x23 + 1) % 256)) else (none))) else (none)) else (none))))) else (none)) else (none)) else (none))) else (if (x5.length : Int) > 0 then (some (([] : List (List Int)), false)) else (some (x4, true)))
end
def impl_Unparts.f (k : Nat) (l0 : List Int) : Option ((List (List Int)) × Bool) := if (l0.length : Int) = 0 then (impl_Unparts.j0 k l0 true) else (if 0 < (l0.length : Int) then (impl_Unparts.j0 k l0 (decide ((wrap64 (rd l0 0)) > 60))) else (none))
def impl_Unparts.T8 : Bool × List (List Nat × List Nat) := (true, [([], []), ([0], [0]), ([1], [1]), ([2], [2]), ([3], [3]), ([], []), ([5], [5]), ([6], [6]), ([7], [7]), ([4, 8], [4, 8]), ([9, 0, 1, 2, 3, 4, 5, 6, 7, 8, 9], [9])])
def impl_Unparts.B8 : List Nat := [0, 1, 3, 7, 15, 0, 32, 96, 224, 511, 1023]
theorem impl_Unparts.tab8 : rtab .any (opsOf Try.f56 8) = impl_Unparts.T8 := by kernel_rfl
theorem impl_Unparts.bits8 : waitsOk impl_Unparts.T8.2 impl_Unparts.B8 = true := by kernel_rfl
def impl_Unparts.T12 : Bool × List (List Nat × List Nat) := (true, [([], []), ([], []), ([], []), ([1, 2], [1, 2]), ([3], [3]), ([4], [4]), ([0, 5, 4], [0, 5]), ([], []), ([], []), ([7, 8], [7, 8]), ([6, 6, 0, 1, 2, 3, 4, 5, 6], [0, 6]), ([9, 10, 0, 1, 2, 3, 4, 5, 6, 7, 8, 9, 10], [1, 7, 9])])
def impl_Unparts.B12 : List Nat := [0, 0, 0, 6, 14, 30, 63, 0, 0, 384, 127, 2047]
theorem impl_Unparts.tab12 : rtab .any (opsOf Try.f56 12) = impl_Unparts.T12 := by kernel_rfl
theorem impl_Unparts.bits12 : waitsOk impl_Unparts.T12.2 impl_Unparts.B12 = true := by kernel_rfl
set_option maxHeartbeats 8000000 in
set_option maxRecDepth 100000 in
theorem impl_Unparts.calls (k : Nat) (P0_ : Nat → Prop) (A0 : Option Addr) (c0 : Nat) (l0 : List Int) (r1 : List (List Int)) (r2 : Bool) (w : World) (hs0 : Kd.V (Kd.int .u8) 5 w w.heap.size (fun k_ => P0_ k_) (.slice A0 l0.length c0) l0) (h : impl_Unparts.f k l0 = some (r1, r2)) :
  Calls Try.prog 56 #[.slice A0 l0.length c0] w fun e w' => ∃ v0_ : Value, e = .returned (.tuple #[v0_, .bool r2]) ∧ Kd.S (Kd.slice 5 (Kd.int .u8)) 28 w' w.heap.size (fun k_ => (w.heap.size ≤ k_)) v0_ r1 ∧ Below w.heap.size w w' := by
 have HO0 := Aside0.mk (show Kd.V (Kd.int .u8) 5 w w.heap.size (fun k_ => (P0_ k_ ∨ w.heap.size ≤ k_)) (.slice A0 l0.length c0) l0 from Kd.V_mono hs0 (fun k_ hk => .inl hk))
 have HB := Aside0.mk (Below.refl w.heap.size w)
 have H : (if (l0.length : Int) = 0 then (impl_Unparts.j0 k l0 true) else (if 0 < (l0.length : Int) then (impl_Unparts.j0 k l0 (decide ((wrap64 (rd l0 0)) > 60))) else (none))) = some (r1, r2) := h
 clear h
 have HC2 := Aside0.mk H
 clear H
 go_enter Try.func56, Try.ntmps56
 go_upto_region 1 with (fail)
 go_cut [16] (fun v16 wc => ∃ (kq : Nat) (x16_1 : Bool), v16 = .bool x16_1 ∧ Aside0 (impl_Unparts.j0 kq l0 x16_1 = some (r1, r2)) ∧ Aside0 (kq ≤ k) ∧ Aside0 (Kd.V (Kd.int .u8) 5 wc w.heap.size (fun k_ => (P0_ k_ ∨ w.heap.size ≤ k_)) (.slice A0 l0.length c0) l0) ∧ Aside0 (Below w.heap.size w wc))
 case first =>
  have H := HC2.out
  clear HC2
  by_cases c3 : (l0.length : Int) = 0
  ·rw [if_pos c3] at H
   have c3b0 : ((l0.length : Int) == 0) = true := beq_iff_eq.mpr c3
   have c3b1 : ((l0.length : Int) != 0) = false := bne_eq_false_iff_eq.mpr c3
   clear c3
   (first | rw [c3b0] | (simp only [i64_w, i32_w]; rw [c3b0]) | skip)
   have H' := Aside0.mk H
   clear H
   go_wp2
   go_meet
   case rel => exact ⟨_, (true), (by first | rfl | (simp; done) | (simp [*]; done)), H', ⟨by first | omega | exact Nat.le_refl _⟩, ⟨mv HO0.out⟩, ⟨bt⟩⟩
  ·rw [if_neg c3] at H
   have c3b0 : ((l0.length : Int) == 0) = false := beq_eq_false_iff_ne.mpr c3
   have c3b1 : ((l0.length : Int) != 0) = true := bne_iff_ne.mpr c3
   have c3b2 : ¬ (l0 = []) := fun h_ => c3 (by rw [h_]; rfl)
   (first | rw [c3b0] | (simp only [i64_w, i32_w]; rw [c3b0]) | skip)
   by_cases c4 : 0 < (l0.length : Int)
   ·rw [if_pos c4] at H
    have c4b0 : decide (0 < (l0.length : Int)) = true := decide_eq_true c4
    have c4b1 : decide (0 < l0.length) = true := decide_eq_true (by omega)
    clear c4
    have H' := Aside0.mk H
    clear H
    have p290 : 0 ≤ (0 : Int) := (by omega)
    have q290 : 0 < (l0.length : Int) := of_decide_eq_true asm
    obtain ⟨ad290, e290, hx290_0⟩ := Kd.at_int (Kd.V_reads' HO0.out).2.2 0 p290 q290
    cases e290
    have qi290 : (0 < l0.length) = True := eq_true (by omega)
    (try rw [show ((0 : Int)).toNat = 0 from rfl] at hx290_0)
    (try rw [Addr.add_zero'] at hx290_0)
    replace p290 := eq_true p290
    replace q290 := eq_true q290
    go_wp2
    go_meet
    case rel => exact ⟨_, (decide ((wrap64 (rd l0 0)) > 60)), (by first | rfl | (simp; done) | (simp [*]; done)), H', ⟨by first | omega | exact Nat.le_refl _⟩, ⟨mv HO0.out⟩, ⟨bt⟩⟩
   ·rw [if_neg c4] at H
    exact absurd H (by simp)
 case rest =>
  clear HC2
  try clear p2
  try clear q2
  try clear hx2
  try clear qi2
  try clear c3
  try clear c3b0
  try clear c3b1
  try clear c3b2
  try clear c4
  try clear c4b0
  try clear c4b1
  try clear hx290_0
  try clear p290
  try clear q290
  obtain ⟨kq, x16_1, rfl, HA, HJ1, HO_0, HB⟩ := hcut
  cases kq with
  | zero => exact absurd HA.out (by simp [impl_Unparts.j0])
  | succ kj1 =>
   have H := HA.out
   clear HA
   simp only [impl_Unparts.j0] at H
   by_cases c5 : x16_1 = true
   ·subst c5
    rw [if_pos rfl] at H
    simp only [Option.some.injEq, Prod.mk.injEq] at H
    obtain ⟨rfl, rfl⟩ := H
    go_wp2
    go_ret2
    exact ⟨_, by first | rfl | (simp [errW_none, errW_some] <;> rfl) | (simp [*, errW_none, errW_some] <;> rfl), by first | exact Kd.S_nil _ _ _ _ _ | exact Kd.N_nil _ _ _ _ _ | exact Kd.V_nil _ _ _ _ _ | exact Kd.Q_nil _ _ _ _ _ | exact Kd.R_nil _ _ _ _ _, bt⟩
   ·replace c5 := Bool.eq_false_iff.mpr c5
    subst c5
    rw [if_neg (show ¬ (false = true) by decide)] at H
    obtain ⟨y291, hy291⟩ : ∃ y_ : List (List Int), y_ = (([] : List (List Int))) := ⟨_, rfl⟩
    replace H : (if 1 ≤ (l0.length : Int) then (if 0 < (l0.length : Int) then (impl_Unparts.l0 kj1 y291 (l0.drop 1) (rd l0 0) 0) else (none)) else (none)) = some (r1, r2) := by first | (rw [hy291]; exact H) | exact H
    have Ny291 := Aside0.mk hy291
    clear hy291
    by_cases c6 : 1 ≤ (l0.length : Int)
    ·rw [if_pos c6] at H
     have c6b0 := eq_true c6
     have c6b1 : decide (1 ≤ (l0.length : Int)) = true := decide_eq_true c6
     clear c6
     obtain ⟨y294, hy294⟩ : ∃ y_ : List Int, y_ = (l0.drop 1) := ⟨_, rfl⟩
     replace H : (if 0 < (l0.length : Int) then (impl_Unparts.l0 kj1 y291 y294 (rd l0 0) 0) else (none)) = some (r1, r2) := by first | (rw [hy294]; exact H) | exact H
     have Ny294 := Aside0.mk hy294
     clear hy294
     by_cases c7 : 0 < (l0.length : Int)
     ·rw [if_pos c7] at H
      have c7b0 : decide (0 < (l0.length : Int)) = true := decide_eq_true c7
      have c7b1 : decide (0 < l0.length) = true := decide_eq_true (by omega)
      clear c7
      have H' := Aside0.mk H
      clear H
      try go_wp2
      have n0_ := Aside0.mk (Kd.V_drew HO_0.out)
      have n1_ := Aside0.mk (below_drew1 HB.out)
      clear HO_0
      clear HB
      have HO_0 := n0_
      have HB := n1_
      clear n0_ n1_
      have q9 : (1 : Int) ≤ ((l0.length : Int) : Int) := of_decide_eq_true asm
      obtain ⟨i09, hi09, _, hsz9, _⟩ := info_parts info5
      have hroom9 : l0.length ≤ c0 := (Kd.V_reads' HO_0.out).2.1
      have hC9 : Kd.F (Kd.int .u8) _ _ A0 l0.length l0 := (Kd.V_at (base := w.heap.size) HO_0.out).2.2
      have hcut9 := cut_from (P := Try.prog) 28 5 .i64 Try.underlying28 hi09 1 hsz9 A0 l0.length c0 1 (by omega) q9
      have hr9 := Kd.F_cut (m := (1 : Int).toNat) (c := c0) hC9 (by omega) hroom9
      obtain ⟨A9, hA9⟩ : ∃ A1, A1 = (if c0 = (1 : Int).toNat then A0 else (A0 : Option Addr).map (·.add ((1 : Int).toNat * 1))) := ⟨_, rfl⟩
      obtain ⟨c9, hc9⟩ : ∃ c1, c1 = c0 - (1 : Int).toNat := ⟨_, rfl⟩
      have hy9 : y294.length = l0.length - (1 : Int).toNat := (by rw [Ny294.out, List.length_drop] <;> omega)
      rw [show (l0).drop (1 : Int).toNat = y294 from Ny294.out.symm] at hr9
      replace hr9 : Kd.F (Kd.int .u8) _ _ A9 y294.length y294 := (by rw [hA9]; exact hr9)
      rw [← hy9, ← hA9, ← hc9] at hcut9
      have HO298 := Aside0.mk (show Kd.V (Kd.int .u8) 5 _ w.heap.size _ (.slice A9 y294.length c9) y294 from Kd.V_mk (by rw [hy9, hc9]; exact Nat.sub_le_sub_right hroom9 _) hr9)
      have HC298 := Aside0.mk (show y294.length ≤ c9 from by rw [hy9, hc9]; exact Nat.sub_le_sub_right hroom9 _)
      clear hr9 hC9 hroom9 hi09 hsz9 hc9
      have KY9 := Aside0.mk hy9
      have KA9 := Aside0.mk hA9
      clear hy9 hA9
      replace q9 := eq_true q9
      refine start_ (n := 5) (S := fun w' => True) (ds := []) #[false, false, false, false, false] (by kernel_rfl) rfl rfl trivial (fun hHeld => ?_)
      generalize wc.drew = w8 at HO_0 HB HO298 hHeld ⊢
      refine pure_ (i := 1) (N := some 18) (v := ?_) (a' := ?_) #[false, true, false, false, false] rfl rfl (by kernel_rfl) (fun _ _ _ h => h) (Or.inl ⟨by rfl, ?_⟩) ?_ ?_
      rotate_left
      ·intro w'
       go_simp
       with_reducible rfl
      rotate_left
      ·simp only [Act.put, List.setIfInBounds_toArray, List.set_cons_zero, List.set_cons_succ, i64_w, i32_w]
       rfl
      refine pure_ (i := 2) (N := some 19) (v := ?_) (a' := ?_) #[false, true, true, false, false] rfl rfl (by kernel_rfl) (fun _ _ _ h => h) (Or.inl ⟨by rfl, ?_⟩) ?_ ?_
      rotate_left
      ·intro w'
       go_simp
       with_reducible rfl
      rotate_left
      ·simp only [Act.put, List.setIfInBounds_toArray, List.set_cons_zero, List.set_cons_succ, i64_w, i32_w]
       rfl
      refine one_ (i := 0) (N := some 17) #[true, true, true, false, false] rfl rfl (by kernel_rfl) (by decide) (fun K hK => ?_)
      refine Kd.S_lit_step (Kd.slice 5 (Kd.int .u8)) _ 28 ?hg (N := 17) ?hd (xs := ([] : List (List Int))) (inner := []) (ok := fun _ => True) (okp := fun _ => True) ?hr ?hp (fun _ hk => hk) trivial (Below.refl _ _) (Nat.le_refl _) (by simp) ?_; (case hd => rfl); (case hg => rfl); (case hr => first | (go_simp; done) | (go_simp; rfl)); (case hp => exact (Reps.none _ _))
      intro v292 w10 ho11 hb hg_ hnew_
      clear hg_ hnew_
      (first | rw [← Ny291.out] at ho11 | (simp only [Int.reduceToNat] at ho11; rw [← Ny291.out] at ho11))
      have n0_ := Aside0.mk (Kd.V_elder' (mv HO_0.out) (Kd.S_base ho11) hb)
      have n1_ := Aside0.mk (Kd.V_elder' (mv HO298.out) (Kd.S_base ho11) hb)
      have n2_ := Aside0.mk (Kd.S_lower (Kd.S_newM (M := fun k_ => (w.heap.size ≤ k_)) ho11 (below_size (bt)) (fun k_ h_ => h_)) (below_size (bt)))
      have n3_ := Aside0.mk (below_step (bt) hb)
      clear HO_0
      clear HO298
      clear HB
      have HO_0 := n0_
      have HO298 := n1_
      have HO293 := n2_
      have HB := n3_
      clear n0_ n1_ n2_ n3_
      clear hb ho11
      refine hK.out _ _ trivial (fun hHeld => ?_)
      clear hK K
      refine nz (N := some 17) ?_
      refine pure_ (i := 3) (N := some 4) (v := ?_) (a' := ?_) #[true, true, true, true, false] rfl rfl (by kernel_rfl) (fun _ _ _ h => h) (Or.inl ⟨by rfl, ?_⟩) ?_ ?_
      rotate_left
      ·intro w'
       go_simp
       with_reducible rfl
      rotate_left
      ·simp only [Act.put, List.setIfInBounds_toArray, List.set_cons_zero, List.set_cons_succ, i64_w, i32_w]
       rfl
      refine pure_ (i := 4) (N := some 5) (v := ?_) (a' := ?_) #[true, true, true, true, true] rfl rfl (by kernel_rfl) (fun _ _ _ h => h) (Or.inl ⟨by rfl, ?_⟩) ?_ ?_
      rotate_left
      ·intro w'
       go_simp
       with_reducible rfl
      rotate_left
      ·simp only [Act.put, List.setIfInBounds_toArray, List.set_cons_zero, List.set_cons_succ, i64_w, i32_w]
       rfl
      refine done_ (by kernel_rfl) ?_
      have p299 : 0 ≤ (0 : Int) := (by omega)
      have q299 : 0 < (l0.length : Int) := of_decide_eq_true asm
      obtain ⟨ad299, e299, hx299_0⟩ := Kd.at_int (Kd.V_reads' HO_0.out).2.2 0 p299 q299
      cases e299
      have qi299 : (0 < l0.length) = True := eq_true (by omega)
      (try rw [show ((0 : Int)).toNat = 0 from rfl] at hx299_0)
      (try rw [Addr.add_zero'] at hx299_0)
      replace p299 := eq_true p299
      replace q299 := eq_true q299
      try go_wp2
      go_loopg [4, 5, 23] kj1 (fun kq v4 v5 v23 w' => ∃ (x4_2 : List (List Int)) (x5_2 : List Int) (x23_2 : Int), v23 = .int .u8 x23_2 ∧ Aside0 (impl_Unparts.l0 kq x4_2 x5_2 (rd l0 0) x23_2 = some (r1, r2)) ∧ Aside0 (kq ≤ kj1) ∧ Aside0 (Kd.S (Kd.slice 5 (Kd.int .u8)) 28 w' w.heap.size (fun k_ => (w.heap.size ≤ k_)) v4 x4_2) ∧ Aside0 (Kd.V (Kd.int .u8) 5 w' w.heap.size (fun k_ => (P0_ k_ ∨ w.heap.size ≤ k_) ∧ some k_ ≠ (v4 : Value).ownBlock) v5 x5_2) ∧ Aside0 (Below w.heap.size w w'))
      case atStart => exact ⟨(y291), (y294), (0), (by first | rfl | (simp; done) | (simp [*]; done)), H', ⟨Nat.le_refl _⟩, ⟨by (with_reducible repeat (first | apply Kd.S_alloc | apply Kd.S_drewN | apply Kd.S_drew)); exact Kd.S_mono HO293.out (fun _ hk => hk.1)⟩, ⟨mv HO298.out⟩, ⟨bt⟩⟩
      case round =>
       clear H'
       try clear c1
       try clear p2
       try clear q2
       try clear hx2
       try clear qi2
       try clear c3
       try clear c3b0
       try clear c3b1
       try clear c3b2
       try clear c4
       try clear c4b0
       try clear c4b1
       try clear c5
       try clear c6
       try clear c6b0
       try clear c6b1
       try clear p6
       try clear c7
       try clear c7b0
       try clear c7b1
       try clear c9
       try clear q9
       try clear hx290_0
       try clear hx299_0
       try clear p2
       try clear p290
       try clear p299
       try clear q2
       try clear q290
       try clear q299
       try clear q9
       obtain ⟨x4_2, x5_2, x23_2, rfl, HA, HK2, HO_4, HO_5, HB⟩ := hrel
       cases gk with
       | zero => exact absurd HA.out (by simp [impl_Unparts.l0])
       | succ k2 =>
        have H := HA.out
        clear HA
        simp only [impl_Unparts.l0] at H
        by_cases c12 : x23_2 < (rd l0 0)
        ·rw [if_pos c12] at H
         have c12b0 : decide (x23_2 < (rd l0 0)) = true := decide_eq_true c12
         clear c12
         by_cases c13 : (x5_2.length : Int) < 2
         ·rw [if_pos c13] at H
          have c13b0 : decide ((x5_2.length : Int) < 2) = true := decide_eq_true c13
          have c13b1 : decide (x5_2.length < 2) = true := decide_eq_true (by omega)
          clear c13
          simp only [Option.some.injEq, Prod.mk.injEq] at H
          obtain ⟨rfl, rfl⟩ := H
          obtain ⟨Ao14, co14, eo14⟩ := Kd.V_slice HO_5.out
          subst eo14
          go_wp2
          go_ret2
          exact ⟨_, by first | rfl | (simp [errW_none, errW_some] <;> rfl) | (simp [*, errW_none, errW_some] <;> rfl), by first | exact Kd.S_nil _ _ _ _ _ | exact Kd.N_nil _ _ _ _ _ | exact Kd.V_nil _ _ _ _ _ | exact Kd.Q_nil _ _ _ _ _ | exact Kd.R_nil _ _ _ _ _, bt⟩
         ·rw [if_neg c13] at H
          have c13b0 : decide ((x5_2.length : Int) < 2) = false := decide_eq_false c13
          have c13b1 : decide (x5_2.length < 2) = false := decide_eq_false (by omega)
          clear c13
          by_cases c15 : 0 < (x5_2.length : Int)
          ·rw [if_pos c15] at H
           have c15b0 : decide (0 < (x5_2.length : Int)) = true := decide_eq_true c15
           have c15b1 : decide (0 < x5_2.length) = true := decide_eq_true (by omega)
           clear c15
           by_cases c16 : 1 < (x5_2.length : Int)
           ·rw [if_pos c16] at H
            have c16b0 : decide (1 < (x5_2.length : Int)) = true := decide_eq_true c16
            have c16b1 : decide (1 < x5_2.length) = true := decide_eq_true (by omega)
            clear c16
            by_cases c17 : 2 ≤ (x5_2.length : Int)
            ·rw [if_pos c17] at H
             have c17b0 := eq_true c17
             have c17b1 : decide (2 ≤ (x5_2.length : Int)) = true := decide_eq_true c17
             clear c17
             obtain ⟨y302, hy302⟩ : ∃ y_ : List Int, y_ = (x5_2.drop 2) := ⟨_, rfl⟩
             replace H : (if (Go.bits .or .i64 (wrap64 ((wrap64 (rd x5_2 0)) * 256)) (wrap64 (rd x5_2 1))) > 60000 then (some (([] : List (List Int)), false)) else (if (Go.bits .or .i64 (wrap64 ((wrap64 (rd x5_2 0)) * 256)) (wrap64 (rd x5_2 1))) > (y302.length : Int) then (some (([] : List (List Int)), false)) else (if 0 ≤ (Go.bits .or .i64 (wrap64 ((wrap64 (rd x5_2 0)) * 256)) (wrap64 (rd x5_2 1))) then (if (Go.bits .or .i64 (wrap64 ((wrap64 (rd x5_2 0)) * 256)) (wrap64 (rd x5_2 1))) ≤ (y302.length : Int) then ((bytes_Clone.f (y302.take ((Go.bits .or .i64 (wrap64 ((wrap64 (rd x5_2 0)) * 256)) (wrap64 (rd x5_2 1))) : Int).toNat)).bind fun t312 => (if x4_2.length < 5864062014805 then (impl_Unparts.l0 k2 (x4_2 ++ [t312]) (y302.drop ((Go.bits .or .i64 (wrap64 ((wrap64 (rd x5_2 0)) * 256)) (wrap64 (rd x5_2 1))) : Int).toNat) (rd l0 0) ((x23_2 + 1) % 256)) else (none))) else (none)) else (none)))) = some (r1, r2) := by first | (rw [hy302]; exact H) | exact H
             have Ny302 := Aside0.mk hy302
             clear hy302
             by_cases c18 : (Go.bits .or .i64 (wrap64 ((wrap64 (rd x5_2 0)) * 256)) (wrap64 (rd x5_2 1))) > 60000
             ·rw [if_pos c18] at H
              have c18b0 : decide (60000 < (Go.bits .or .i64 (wrap64 ((wrap64 (rd x5_2 0)) * 256)) (wrap64 (rd x5_2 1)))) = true := decide_eq_true c18
              clear c18
              simp only [Option.some.injEq, Prod.mk.injEq] at H
              obtain ⟨rfl, rfl⟩ := H
              obtain ⟨Ao19, co19, eo19⟩ := Kd.V_slice HO_5.out
              subst eo19
              try go_wp2
              have n0_ := Aside0.mk (Kd.S_drew HO_4.out)
              have n1_ := Aside0.mk (Kd.V_drew HO_5.out)
              have n2_ := Aside0.mk (below_drew1 HB.out)
              clear HO_4
              clear HO_5
              clear HB
              have HO_4 := n0_
              have HO_5 := n1_
              have HB := n2_
              clear n0_ n1_ n2_
              have p300 : 0 ≤ (0 : Int) := (by omega)
              have q300 : 0 < (x5_2.length : Int) := of_decide_eq_true asm
              obtain ⟨ad300, e300, hx300_0⟩ := Kd.at_int (Kd.V_reads' HO_5.out).2.2 0 p300 q300
              cases e300
              have qi300 : (0 < x5_2.length) = True := eq_true (by omega)
              (try rw [show ((0 : Int)).toNat = 0 from rfl] at hx300_0)
              (try rw [Addr.add_zero'] at hx300_0)
              replace p300 := eq_true p300
              replace q300 := eq_true q300
              have p301 : 0 ≤ (1 : Int) := (by omega)
              have q301 : 1 < (x5_2.length : Int) := of_decide_eq_true asm
              obtain ⟨ad301, e301, hx301_0⟩ := Kd.at_int (Kd.V_reads' HO_5.out).2.2 1 p301 q301
              obtain rfl : ad300 = ad301 := (by injection e301)
              (try simp only [show (1 : Int).toNat = 1 from rfl, Nat.reduceMul, Nat.reduceEqDiff, Go.Addr.add, ↓reduceIte] at hx301_0)
              have qi301 : (1 < x5_2.length) = True := eq_true (by omega)
              (try rw [show ((1 : Int)).toNat = 1 from rfl] at hx301_0)
              replace p301 := eq_true p301
              replace q301 := eq_true q301
              refine start_ (n := 11) (S := fun w' => w'.cell? ad300 = some (.int .u8 (rd x5_2 0)) ∧ w'.cell? ⟨ad300.block, ad300.off + 1, none⟩ = some (.int .u8 (rd x5_2 1))) (ds := []) #[false, false, false, false, false, false, false, false, false, false, false] (by kernel_rfl) rfl rfl ⟨hx300_0, hx301_0⟩ (fun hHeld => ?_); refine with_tabW impl_Unparts.tab8 impl_Unparts.bits8 (fun HT_ HW_ => ?_)
              generalize wr.drew = w20 at HO_4 HO_5 HB hx300_0 hx301_0 hHeld ⊢
              refine pz (i := 0) (N := some 28) #[true, false, false, false, false, false, false, false, false, false, false] rfl rfl HT_.out ?_
              refine pz (i := 1) (N := some 29) #[true, true, false, false, false, false, false, false, false, false, false] rfl rfl HT_.out ?_
              refine pz (i := 5) (N := some 33) #[true, true, false, false, false, true, false, false, false, false, false] rfl rfl HT_.out ?_
              refine pz (i := 6) (N := some 34) #[true, true, false, false, false, true, true, false, false, false, false] rfl rfl HT_.out ?_
              refine tz (i := 2) (N := some 30) #[true, true, true, false, false, true, true, false, false, false, false] rfl rfl HT_.out HW_.out hHeld (Or.inl ⟨by rfl, by rintro w' ⟨s0, s1⟩; go_simp; with_reducible rfl⟩) ?_
              refine pz (i := 3) (N := some 31) #[true, true, true, true, false, true, true, false, false, false, false] rfl rfl HT_.out ?_
              refine pz (i := 4) (N := some 32) #[true, true, true, true, true, true, true, false, false, false, false] rfl rfl HT_.out ?_
              refine tz (i := 7) (N := some 35) #[true, true, true, true, true, true, true, true, false, false, false] rfl rfl HT_.out HW_.out hHeld (Or.inl ⟨by rfl, by rintro w' ⟨s0, s1⟩; go_simp; with_reducible rfl⟩) ?_
              refine pz (i := 8) (N := some 36) #[true, true, true, true, true, true, true, true, true, false, false] rfl rfl HT_.out ?_
              refine pz (i := 9) (N := some 37) #[true, true, true, true, true, true, true, true, true, true, false] rfl rfl HT_.out ?_
              refine pz (i := 10) (N := some 6) #[true, true, true, true, true, true, true, true, true, true, true] rfl rfl HT_.out ?_
              refine done_ (done_of HT_.out (by kernel_rfl)) ?_
              have q21 : (2 : Int) ≤ ((x5_2.length : Int) : Int) := of_decide_eq_true asm
              obtain ⟨i021, hi021, _, hsz21, _⟩ := info_parts info5
              have hroom21 : x5_2.length ≤ co19 := (Kd.V_reads' HO_5.out).2.1
              have hC21 : Kd.F (Kd.int .u8) _ _ (some ad300) x5_2.length x5_2 := (Kd.V_at (base := w.heap.size) HO_5.out).2.2
              have hcut21 := cut_from (P := Try.prog) 28 5 .i64 Try.underlying28 hi021 1 hsz21 (some ad300) x5_2.length co19 2 (by omega) q21
              have hr21 := Kd.F_cut (m := (2 : Int).toNat) (c := co19) hC21 (by omega) hroom21
              obtain ⟨A21, hA21⟩ : ∃ A1, A1 = (if co19 = (2 : Int).toNat then (some ad300) else ((some ad300) : Option Addr).map (·.add ((2 : Int).toNat * 1))) := ⟨_, rfl⟩
              obtain ⟨c21, hc21⟩ : ∃ c1, c1 = co19 - (2 : Int).toNat := ⟨_, rfl⟩
              have hy21 : y302.length = x5_2.length - (2 : Int).toNat := (by rw [Ny302.out, List.length_drop] <;> omega)
              rw [show (x5_2).drop (2 : Int).toNat = y302 from Ny302.out.symm] at hr21
              replace hr21 : Kd.F (Kd.int .u8) _ _ A21 y302.length y302 := (by rw [hA21]; exact hr21)
              rw [← hy21, ← hA21, ← hc21] at hcut21
              have HO306 := Aside0.mk (show Kd.V (Kd.int .u8) 5 _ w.heap.size _ (.slice A21 y302.length c21) y302 from Kd.V_mk (by rw [hy21, hc21]; exact Nat.sub_le_sub_right hroom21 _) hr21)
              have HC306 := Aside0.mk (show y302.length ≤ c21 from by rw [hy21, hc21]; exact Nat.sub_le_sub_right hroom21 _)
              clear hr21 hC21 hroom21 hi021 hsz21 hc21
              have KY21 := Aside0.mk hy21
              have KA21 := Aside0.mk hA21
              clear hy21 hA21
              replace q21 := eq_true q21
              try go_wp2
              go_ret2
              exact ⟨_, by first | rfl | (simp [errW_none, errW_some] <;> rfl) | (simp [*, errW_none, errW_some] <;> rfl), by first | exact Kd.S_nil _ _ _ _ _ | exact Kd.N_nil _ _ _ _ _ | exact Kd.V_nil _ _ _ _ _ | exact Kd.Q_nil _ _ _ _ _ | exact Kd.R_nil _ _ _ _ _, bt⟩
             ·rw [if_neg c18] at H
              have c18b0 : decide (60000 < (Go.bits .or .i64 (wrap64 ((wrap64 (rd x5_2 0)) * 256)) (wrap64 (rd x5_2 1)))) = false := decide_eq_false c18
              clear c18
              by_cases c22 : (Go.bits .or .i64 (wrap64 ((wrap64 (rd x5_2 0)) * 256)) (wrap64 (rd x5_2 1))) > (y302.length : Int)
              ·rw [if_pos c22] at H
               have c22b0 : decide ((y302.length : Int) < (Go.bits .or .i64 (wrap64 ((wrap64 (rd x5_2 0)) * 256)) (wrap64 (rd x5_2 1)))) = true := decide_eq_true c22
               clear c22
               simp only [Option.some.injEq, Prod.mk.injEq] at H
               obtain ⟨rfl, rfl⟩ := H
               obtain ⟨Ao23, co23, eo23⟩ := Kd.V_slice HO_5.out
               subst eo23
               try go_wp2
               have n0_ := Aside0.mk (Kd.S_drew HO_4.out)
               have n1_ := Aside0.mk (Kd.V_drew HO_5.out)
               have n2_ := Aside0.mk (below_drew1 HB.out)
               clear HO_4
               clear HO_5
               clear HB
               have HO_4 := n0_
               have HO_5 := n1_
               have HB := n2_
               clear n0_ n1_ n2_
               have p300 : 0 ≤ (0 : Int) := (by omega)
               have q300 : 0 < (x5_2.length : Int) := of_decide_eq_true asm
               obtain ⟨ad300, e300, hx300_0⟩ := Kd.at_int (Kd.V_reads' HO_5.out).2.2 0 p300 q300
               cases e300
               have qi300 : (0 < x5_2.length) = True := eq_true (by omega)
               (try rw [show ((0 : Int)).toNat = 0 from rfl] at hx300_0)
               (try rw [Addr.add_zero'] at hx300_0)
               replace p300 := eq_true p300
               replace q300 := eq_true q300
               have p301 : 0 ≤ (1 : Int) := (by omega)
               have q301 : 1 < (x5_2.length : Int) := of_decide_eq_true asm
               obtain ⟨ad301, e301, hx301_0⟩ := Kd.at_int (Kd.V_reads' HO_5.out).2.2 1 p301 q301
               obtain rfl : ad300 = ad301 := (by injection e301)
               (try simp only [show (1 : Int).toNat = 1 from rfl, Nat.reduceMul, Nat.reduceEqDiff, Go.Addr.add, ↓reduceIte] at hx301_0)
               have qi301 : (1 < x5_2.length) = True := eq_true (by omega)
               (try rw [show ((1 : Int)).toNat = 1 from rfl] at hx301_0)
               replace p301 := eq_true p301
               replace q301 := eq_true q301
               refine start_ (n := 11) (S := fun w' => w'.cell? ad300 = some (.int .u8 (rd x5_2 0)) ∧ w'.cell? ⟨ad300.block, ad300.off + 1, none⟩ = some (.int .u8 (rd x5_2 1))) (ds := []) #[false, false, false, false, false, false, false, false, false, false, false] (by kernel_rfl) rfl rfl ⟨hx300_0, hx301_0⟩ (fun hHeld => ?_); refine with_tabW impl_Unparts.tab8 impl_Unparts.bits8 (fun HT_ HW_ => ?_)
               generalize wr.drew = w24 at HO_4 HO_5 HB hx300_0 hx301_0 hHeld ⊢
               refine pz (i := 0) (N := some 28) #[true, false, false, false, false, false, false, false, false, false, false] rfl rfl HT_.out ?_
               refine pz (i := 1) (N := some 29) #[true, true, false, false, false, false, false, false, false, false, false] rfl rfl HT_.out ?_
               refine pz (i := 5) (N := some 33) #[true, true, false, false, false, true, false, false, false, false, false] rfl rfl HT_.out ?_
               refine pz (i := 6) (N := some 34) #[true, true, false, false, false, true, true, false, false, false, false] rfl rfl HT_.out ?_
               refine tz (i := 2) (N := some 30) #[true, true, true, false, false, true, true, false, false, false, false] rfl rfl HT_.out HW_.out hHeld (Or.inl ⟨by rfl, by rintro w' ⟨s0, s1⟩; go_simp; with_reducible rfl⟩) ?_
               refine pz (i := 3) (N := some 31) #[true, true, true, true, false, true, true, false, false, false, false] rfl rfl HT_.out ?_
               refine pz (i := 4) (N := some 32) #[true, true, true, true, true, true, true, false, false, false, false] rfl rfl HT_.out ?_
               refine tz (i := 7) (N := some 35) #[true, true, true, true, true, true, true, true, false, false, false] rfl rfl HT_.out HW_.out hHeld (Or.inl ⟨by rfl, by rintro w' ⟨s0, s1⟩; go_simp; with_reducible rfl⟩) ?_
               refine pz (i := 8) (N := some 36) #[true, true, true, true, true, true, true, true, true, false, false] rfl rfl HT_.out ?_
               refine pz (i := 9) (N := some 37) #[true, true, true, true, true, true, true, true, true, true, false] rfl rfl HT_.out ?_
               refine pz (i := 10) (N := some 6) #[true, true, true, true, true, true, true, true, true, true, true] rfl rfl HT_.out ?_
               refine done_ (done_of HT_.out (by kernel_rfl)) ?_
               have q25 : (2 : Int) ≤ ((x5_2.length : Int) : Int) := of_decide_eq_true asm
               obtain ⟨i025, hi025, _, hsz25, _⟩ := info_parts info5
               have hroom25 : x5_2.length ≤ co23 := (Kd.V_reads' HO_5.out).2.1
               have hC25 : Kd.F (Kd.int .u8) _ _ (some ad300) x5_2.length x5_2 := (Kd.V_at (base := w.heap.size) HO_5.out).2.2
               have hcut25 := cut_from (P := Try.prog) 28 5 .i64 Try.underlying28 hi025 1 hsz25 (some ad300) x5_2.length co23 2 (by omega) q25
               have hr25 := Kd.F_cut (m := (2 : Int).toNat) (c := co23) hC25 (by omega) hroom25
               obtain ⟨A25, hA25⟩ : ∃ A1, A1 = (if co23 = (2 : Int).toNat then (some ad300) else ((some ad300) : Option Addr).map (·.add ((2 : Int).toNat * 1))) := ⟨_, rfl⟩
               obtain ⟨c25, hc25⟩ : ∃ c1, c1 = co23 - (2 : Int).toNat := ⟨_, rfl⟩
               have hy25 : y302.length = x5_2.length - (2 : Int).toNat := (by rw [Ny302.out, List.length_drop] <;> omega)
               rw [show (x5_2).drop (2 : Int).toNat = y302 from Ny302.out.symm] at hr25
               replace hr25 : Kd.F (Kd.int .u8) _ _ A25 y302.length y302 := (by rw [hA25]; exact hr25)
               rw [← hy25, ← hA25, ← hc25] at hcut25
               have HO306 := Aside0.mk (show Kd.V (Kd.int .u8) 5 _ w.heap.size _ (.slice A25 y302.length c25) y302 from Kd.V_mk (by rw [hy25, hc25]; exact Nat.sub_le_sub_right hroom25 _) hr25)
               have HC306 := Aside0.mk (show y302.length ≤ c25 from by rw [hy25, hc25]; exact Nat.sub_le_sub_right hroom25 _)
               clear hr25 hC25 hroom25 hi025 hsz25 hc25
               have KY25 := Aside0.mk hy25
               have KA25 := Aside0.mk hA25
               clear hy25 hA25
               replace q25 := eq_true q25
               try go_wp2
               go_ret2
               exact ⟨_, by first | rfl | (simp [errW_none, errW_some] <;> rfl) | (simp [*, errW_none, errW_some] <;> rfl), by first | exact Kd.S_nil _ _ _ _ _ | exact Kd.N_nil _ _ _ _ _ | exact Kd.V_nil _ _ _ _ _ | exact Kd.Q_nil _ _ _ _ _ | exact Kd.R_nil _ _ _ _ _, bt⟩
              ·rw [if_neg c22] at H
               have c22b0 : decide ((y302.length : Int) < (Go.bits .or .i64 (wrap64 ((wrap64 (rd x5_2 0)) * 256)) (wrap64 (rd x5_2 1)))) = false := decide_eq_false c22
               clear c22
               obtain ⟨ji26, hji26⟩ : ∃ j_ : Int, (Go.bits .or .i64 (wrap64 ((wrap64 (rd x5_2 0)) * 256)) (wrap64 (rd x5_2 1))) = j_ := ⟨_, rfl⟩
               replace H : (if 0 ≤ (ji26) then (if (ji26) ≤ (y302.length : Int) then ((bytes_Clone.f (y302.take ((ji26) : Int).toNat)).bind fun t312 => (if x4_2.length < 5864062014805 then (impl_Unparts.l0 k2 (x4_2 ++ [t312]) (y302.drop ((ji26) : Int).toNat) (rd l0 0) ((x23_2 + 1) % 256)) else (none))) else (none)) else (none)) = some (r1, r2) := by first | (rw [hji26] at H; exact H) | (simp only [hji26] at H ⊢; exact H)
               (try rw [hji26] at c18b0)
               (try rw [hji26] at c22b0)
               by_cases c27 : 0 ≤ (ji26)
               ·rw [if_pos c27] at H
                have c27b0 := eq_true c27
                have c27b1 : decide (0 ≤ (ji26)) = true := decide_eq_true c27
                clear c27
                by_cases c28 : (ji26) ≤ (y302.length : Int)
                ·rw [if_pos c28] at H
                 have c28b0 := eq_true c28
                 have c28b1 : decide ((ji26) ≤ (y302.length : Int)) = true := decide_eq_true c28
                 clear c28
                 obtain ⟨y307, hy307⟩ : ∃ y_ : List Int, y_ = (y302.take ((ji26) : Int).toNat) := ⟨_, rfl⟩
                 replace H : ((bytes_Clone.f y307).bind fun t312 => (if x4_2.length < 5864062014805 then (impl_Unparts.l0 k2 (x4_2 ++ [t312]) (y302.drop ((ji26) : Int).toNat) (rd l0 0) ((x23_2 + 1) % 256)) else (none))) = some (r1, r2) := by first | (rw [hy307]; exact H) | exact H
                 have Ny307 := Aside0.mk hy307
                 clear hy307
                 replace H := Option.bind_eq_some_iff.mp H
                 obtain ⟨t312, A290, H⟩ := H
                 (try dsimp -simprocs only at H)
                 have A29 := Aside0.mk A290
                 clear A290
                 by_cases c30 : x4_2.length < 5864062014805
                 ·rw [if_pos c30] at H
                  have LMc30 := Aside0.mk c30
                  clear c30
                  obtain ⟨y315, hy315⟩ : ∃ y_ : List (List Int), y_ = (x4_2 ++ [t312]) := ⟨_, rfl⟩
                  replace H : (impl_Unparts.l0 k2 y315 (y302.drop ((ji26) : Int).toNat) (rd l0 0) ((x23_2 + 1) % 256)) = some (r1, r2) := by first | (rw [hy315]; exact H) | exact H
                  have Ny315 := Aside0.mk hy315
                  clear hy315
                  have c31b0 := eq_true (of_decide_eq_true asm : 0 ≤ (ji26))
                  have c32b0 := eq_true (of_decide_eq_true asm : (ji26) ≤ (y302.length : Int))
                  obtain ⟨y318, hy318⟩ : ∃ y_ : List Int, y_ = (y302.drop ((ji26) : Int).toNat) := ⟨_, rfl⟩
                  replace H : (impl_Unparts.l0 k2 y315 y318 (rd l0 0) ((x23_2 + 1) % 256)) = some (r1, r2) := by first | (rw [hy318]; exact H) | exact H
                  have Ny318 := Aside0.mk hy318
                  clear hy318
                  have H' := Aside0.mk H
                  clear H
                  obtain ⟨Ao33, co33, eo33⟩ := Kd.V_slice HO_5.out
                  subst eo33
                  try go_wp2
                  have n0_ := Aside0.mk (Kd.S_drew HO_4.out)
                  have n1_ := Aside0.mk (Kd.V_drew HO_5.out)
                  have n2_ := Aside0.mk (below_drew1 HB.out)
                  clear HO_4
                  clear HO_5
                  clear HB
                  have HO_4 := n0_
                  have HO_5 := n1_
                  have HB := n2_
                  clear n0_ n1_ n2_
                  have p300 : 0 ≤ (0 : Int) := (by omega)
                  have q300 : 0 < (x5_2.length : Int) := of_decide_eq_true asm
                  obtain ⟨ad300, e300, hx300_0⟩ := Kd.at_int (Kd.V_reads' HO_5.out).2.2 0 p300 q300
                  cases e300
                  have qi300 : (0 < x5_2.length) = True := eq_true (by omega)
                  (try rw [show ((0 : Int)).toNat = 0 from rfl] at hx300_0)
                  (try rw [Addr.add_zero'] at hx300_0)
                  replace p300 := eq_true p300
                  replace q300 := eq_true q300
                  have p301 : 0 ≤ (1 : Int) := (by omega)
                  have q301 : 1 < (x5_2.length : Int) := of_decide_eq_true asm
                  obtain ⟨ad301, e301, hx301_0⟩ := Kd.at_int (Kd.V_reads' HO_5.out).2.2 1 p301 q301
                  obtain rfl : ad300 = ad301 := (by injection e301)
                  (try simp only [show (1 : Int).toNat = 1 from rfl, Nat.reduceMul, Nat.reduceEqDiff, Go.Addr.add, ↓reduceIte] at hx301_0)
                  have qi301 : (1 < x5_2.length) = True := eq_true (by omega)
                  (try rw [show ((1 : Int)).toNat = 1 from rfl] at hx301_0)
                  replace p301 := eq_true p301
                  replace q301 := eq_true q301
                  refine start_ (n := 11) (S := fun w' => w'.cell? ad300 = some (.int .u8 (rd x5_2 0)) ∧ w'.cell? ⟨ad300.block, ad300.off + 1, none⟩ = some (.int .u8 (rd x5_2 1))) (ds := []) #[false, false, false, false, false, false, false, false, false, false, false] (by kernel_rfl) rfl rfl ⟨hx300_0, hx301_0⟩ (fun hHeld => ?_); refine with_tabW impl_Unparts.tab8 impl_Unparts.bits8 (fun HT_ HW_ => ?_)
                  generalize wr.drew = w34 at HO_4 HO_5 HB hx300_0 hx301_0 hHeld ⊢
                  refine pz (i := 0) (N := some 28) #[true, false, false, false, false, false, false, false, false, false, false] rfl rfl HT_.out ?_
                  refine pz (i := 1) (N := some 29) #[true, true, false, false, false, false, false, false, false, false, false] rfl rfl HT_.out ?_
                  refine pz (i := 5) (N := some 33) #[true, true, false, false, false, true, false, false, false, false, false] rfl rfl HT_.out ?_
                  refine pz (i := 6) (N := some 34) #[true, true, false, false, false, true, true, false, false, false, false] rfl rfl HT_.out ?_
                  refine tz (i := 2) (N := some 30) #[true, true, true, false, false, true, true, false, false, false, false] rfl rfl HT_.out HW_.out hHeld (Or.inl ⟨by rfl, by rintro w' ⟨s0, s1⟩; go_simp; with_reducible rfl⟩) ?_
                  refine pz (i := 3) (N := some 31) #[true, true, true, true, false, true, true, false, false, false, false] rfl rfl HT_.out ?_
                  refine pz (i := 4) (N := some 32) #[true, true, true, true, true, true, true, false, false, false, false] rfl rfl HT_.out ?_
                  refine tz (i := 7) (N := some 35) #[true, true, true, true, true, true, true, true, false, false, false] rfl rfl HT_.out HW_.out hHeld (Or.inl ⟨by rfl, by rintro w' ⟨s0, s1⟩; go_simp; with_reducible rfl⟩) ?_
                  refine pz (i := 8) (N := some 36) #[true, true, true, true, true, true, true, true, true, false, false] rfl rfl HT_.out ?_
                  refine pz (i := 9) (N := some 37) #[true, true, true, true, true, true, true, true, true, true, false] rfl rfl HT_.out ?_
                  refine pz (i := 10) (N := some 6) #[true, true, true, true, true, true, true, true, true, true, true] rfl rfl HT_.out ?_
                  refine done_ (done_of HT_.out (by kernel_rfl)) ?_
                  have q35 : (2 : Int) ≤ ((x5_2.length : Int) : Int) := of_decide_eq_true asm
                  obtain ⟨i035, hi035, _, hsz35, _⟩ := info_parts info5
                  have hroom35 : x5_2.length ≤ co33 := (Kd.V_reads' HO_5.out).2.1
                  have hC35 : Kd.F (Kd.int .u8) _ _ (some ad300) x5_2.length x5_2 := (Kd.V_at (base := w.heap.size) HO_5.out).2.2
                  have hcut35 := cut_from (P := Try.prog) 28 5 .i64 Try.underlying28 hi035 1 hsz35 (some ad300) x5_2.length co33 2 (by omega) q35
                  have hr35 := Kd.F_cut (m := (2 : Int).toNat) (c := co33) hC35 (by omega) hroom35
                  obtain ⟨A35, hA35⟩ : ∃ A1, A1 = (if co33 = (2 : Int).toNat then (some ad300) else ((some ad300) : Option Addr).map (·.add ((2 : Int).toNat * 1))) := ⟨_, rfl⟩
                  obtain ⟨c35, hc35⟩ : ∃ c1, c1 = co33 - (2 : Int).toNat := ⟨_, rfl⟩
                  have hy35 : y302.length = x5_2.length - (2 : Int).toNat := (by rw [Ny302.out, List.length_drop] <;> omega)
                  rw [show (x5_2).drop (2 : Int).toNat = y302 from Ny302.out.symm] at hr35
                  replace hr35 : Kd.F (Kd.int .u8) _ _ A35 y302.length y302 := (by rw [hA35]; exact hr35)
                  rw [← hy35, ← hA35, ← hc35] at hcut35
                  have HO306 := Aside0.mk (show Kd.V (Kd.int .u8) 5 _ w.heap.size _ (.slice A35 y302.length c35) y302 from Kd.V_mk (by rw [hy35, hc35]; exact Nat.sub_le_sub_right hroom35 _) hr35)
                  have HC306 := Aside0.mk (show y302.length ≤ c35 from by rw [hy35, hc35]; exact Nat.sub_le_sub_right hroom35 _)
                  clear hr35 hC35 hroom35 hi035 hsz35 hc35
                  have KY35 := Aside0.mk hy35
                  have KA35 := Aside0.mk hA35
                  clear hy35 hA35
                  replace q35 := eq_true q35
                  try go_wp2
                  have n0_ := Aside0.mk (Kd.S_drew HO_4.out)
                  have n1_ := Aside0.mk (Kd.V_drew HO_5.out)
                  have n2_ := Aside0.mk (Kd.V_drew HO306.out)
                  have n3_ := Aside0.mk (below_drew1 HB.out)
                  clear HO_4
                  clear HO_5
                  clear HO306
                  clear HB
                  have HO_4 := n0_
                  have HO_5 := n1_
                  have HO306 := n2_
                  have HB := n3_
                  clear n0_ n1_ n2_ n3_
                  have q37 : ((ji26) : Int) ≤ ((y302.length : Int) : Int) := of_decide_eq_true asm
                  obtain ⟨i037, hi037, _, hsz37, _⟩ := info_parts info5
                  have hroom37 : y302.length ≤ c35 := (Kd.V_reads' HO306.out).2.1
                  have hC37 : Kd.F (Kd.int .u8) _ _ A35 y302.length y302 := (Kd.V_at (base := w.heap.size) HO306.out).2.2
                  have hcut37 := cut_to (P := Try.prog) 28 5 .i64 Try.underlying28 hi037 A35 y302.length c35 (ji26) (of_decide_eq_true asm) q37 hroom37
                  have hr37 := Kd.F_take (m := ((ji26) : Int).toNat) hC37 (by omega)
                  have hy37 : y307.length = ((ji26) : Int).toNat := (by rw [Ny307.out, List.length_take]; omega)
                  rw [← Ny307.out] at hr37
                  rw [← hy37] at hcut37
                  have HO311 := Aside0.mk (show Kd.V (Kd.int .u8) 5 _ w.heap.size _ (.slice A35 y307.length c35) y307 from Kd.V_mk (by omega) hr37)
                  have HC311 := Aside0.mk (show y307.length ≤ c35 from by omega)
                  clear hr37 hC37 hroom37 hi037 hsz37
                  have KY37 := Aside0.mk hy37
                  clear hy37
                  replace q37 := eq_true q37
                  have q38 : ((ji26) : Int) ≤ ((y302.length : Int) : Int) := of_decide_eq_true asm
                  obtain ⟨i038, hi038, _, hsz38, _⟩ := info_parts info5
                  have hroom38 : y302.length ≤ c35 := (Kd.V_reads' HO306.out).2.1
                  have hC38 : Kd.F (Kd.int .u8) _ _ A35 y302.length y302 := (Kd.V_at (base := w.heap.size) HO306.out).2.2
                  have q038 : (0 : Int) ≤ ((ji26) : Int) := of_decide_eq_true asm
                  have hcut38 := cut_from (P := Try.prog) 28 5 .i64 Try.underlying28 hi038 1 hsz38 A35 y302.length c35 (ji26) q038 q38
                  have hr38 := Kd.F_cut (m := ((ji26) : Int).toNat) (c := c35) hC38 (by omega) hroom38
                  obtain ⟨A38, hA38⟩ : ∃ A1, A1 = (if c35 = ((ji26) : Int).toNat then A35 else (A35 : Option Addr).map (·.add (((ji26) : Int).toNat * 1))) := ⟨_, rfl⟩
                  obtain ⟨c38, hc38⟩ : ∃ c1, c1 = c35 - ((ji26) : Int).toNat := ⟨_, rfl⟩
                  have hy38 : y318.length = y302.length - ((ji26) : Int).toNat := (by rw [Ny318.out, List.length_drop] <;> omega)
                  rw [show (y302).drop ((ji26) : Int).toNat = y318 from Ny318.out.symm] at hr38
                  replace hr38 : Kd.F (Kd.int .u8) _ _ A38 y318.length y318 := (by rw [hA38]; exact hr38)
                  rw [← hy38, ← hA38, ← hc38] at hcut38
                  have HO322 := Aside0.mk (show Kd.V (Kd.int .u8) 5 _ w.heap.size _ (.slice A38 y318.length c38) y318 from Kd.V_mk (by rw [hy38, hc38]; exact Nat.sub_le_sub_right hroom38 _) hr38)
                  have HC322 := Aside0.mk (show y318.length ≤ c38 from by rw [hy38, hc38]; exact Nat.sub_le_sub_right hroom38 _)
                  clear hr38 hC38 hroom38 hi038 hsz38 hc38
                  have KY38 := Aside0.mk hy38
                  have KA38 := Aside0.mk hA38
                  clear hy38 hA38
                  replace q38 := eq_true q38
                  refine start_ (n := 12) (S := fun w' => True) (ds := []) #[false, false, false, false, false, false, false, false, false, false, false, false] (by kernel_rfl) rfl rfl trivial (fun hHeld => ?_); refine with_tabW impl_Unparts.tab12 impl_Unparts.bits12 (fun HT_ HW_ => ?_)
                  generalize w34.drew = w36 at HO_4 HO_5 HO306 HB HO311 HO322 hHeld ⊢
                  refine pz (i := 0) (N := some 48) #[true, false, false, false, false, false, false, false, false, false, false, false] rfl rfl HT_.out ?_
                  refine pz (i := 1) (N := some 49) #[true, true, false, false, false, false, false, false, false, false, false, false] rfl rfl HT_.out ?_
                  refine pz (i := 2) (N := some 50) #[true, true, true, false, false, false, false, false, false, false, false, false] rfl rfl HT_.out ?_
                  refine pz (i := 3) (N := some 51) #[true, true, true, true, false, false, false, false, false, false, false, false] rfl rfl HT_.out ?_
                  refine pz (i := 7) (N := some 55) #[true, true, true, true, false, false, false, true, false, false, false, false] rfl rfl HT_.out ?_
                  refine pz (i := 8) (N := some 56) #[true, true, true, true, false, false, false, true, true, false, false, false] rfl rfl HT_.out ?_
                  refine pz (i := 9) (N := some 57) #[true, true, true, true, false, false, false, true, true, true, false, false] rfl rfl HT_.out ?_
                  refine one_ (i := 4) (N := some 52) #[true, true, true, true, true, false, false, true, true, true, false, false] rfl rfl (one_of HT_.out (by kernel_rfl)) (by decide) (fun K hK => ?_)
                  refine goes_ Try.func90 (by kernel_rfl) rfl #[.slice A35 y307.length c35] (by rfl) rfl rfl av ?_
                  with_reducible refine (bytes_Clone.calls _ _ y307 t312 _ ?side1 ?side2 A29.out).mono ?_
                  (case side1 => exact cv ((Kd.V_reads' HO311.out).2.2))
                  (case side2 => exact (Kd.V_reads' HO311.out).2.1)
                  rintro e w39 ⟨v313, rfl, ho0, hb⟩
                  refine ⟨_, rfl, ?_⟩
                  have n0_ := Aside0.mk (Kd.S_elder' (mv HO_4.out) (Kd.R_base ho0) hb)
                  have n1_ := Aside0.mk (Kd.V_elder' (mv HO_5.out) (Kd.R_base ho0) hb)
                  have n2_ := Aside0.mk (Kd.V_elder' (mv HO306.out) (Kd.R_base ho0) hb)
                  have n3_ := Aside0.mk (Kd.V_elder' (mv HO311.out) (Kd.R_base ho0) hb)
                  have n4_ := Aside0.mk (Kd.V_elder' (mv HO322.out) (Kd.R_base ho0) hb)
                  have n5_ := Aside0.mk (Kd.R_lower (Kd.R_newM (M := fun k_ => (w.heap.size ≤ k_)) ho0 (below_size (bt)) (fun k_ h_ => h_)) (below_size (bt)))
                  have n6_ := Aside0.mk (below_step (bt) hb)
                  clear HO_4
                  clear HO_5
                  clear HO306
                  clear HO311
                  clear HO322
                  clear HB
                  have HO_4 := n0_
                  have HO_5 := n1_
                  have HO306 := n2_
                  have HO311 := n3_
                  have HO322 := n4_
                  have HO314 := n5_
                  have HB := n6_
                  clear n0_ n1_ n2_ n3_ n4_ n5_ n6_
                  (try clear hb)
                  (try clear hb2)
                  (try clear hk)
                  (try clear hi)
                  (try clear ho0)
                  obtain ⟨Ao41, co41, eo41⟩ := Kd.R_slice HO314.out
                  (first | subst eo41 | (injection eo41 with f1_ f2_ f3_; have f4_ := f1_.symm; have f5_ := f3_.symm; clear f1_ f2_ f3_; subst f4_; subst f5_))
                  refine hK.out _ _ trivial (fun hHeld => ?_)
                  clear hK K
                  refine nz (N := some 52) ?_
                  refine one_ (i := 5) (N := some 53) #[true, true, true, true, true, true, false, true, true, true, false, false] rfl rfl (one_of HT_.out (by kernel_rfl)) (by decide) (fun K hK => ?_)
                  refine value_ (w1 := ?_) (v := ?_) (by rfl) rfl ?_ ?_
                  rotate_left 2
                  ·go_simp
                   constructor
                   ·rfl
                   ·rfl
                  refine hK.out _ _ trivial (fun hHeld => ?_)
                  clear hK K
                  refine nz (N := some 53) ?_
                  refine one_ (i := 6) (N := some 54) #[true, true, true, true, true, true, true, true, true, true, false, false] rfl rfl (one_of HT_.out (by kernel_rfl)) (by decide) (fun K hK => ?_)
                  refine Kd.S_append_step (Kd.slice 5 (Kd.int .u8)) (w0 := w) w.heap.size (by rfl) (.tmp 48) (.tmp 53) 49 28 (.slice none 0 0) 24 rfl Try.underlying49 info28 rfl (by decide) (by omega) u4 x4_2 t312 [.slice Ao41 t312.length co41] (fun k_ => (w.heap.size ≤ k_)) (fun k_ => some k_ = (.slice Ao41 t312.length co41 : Value).ownBlock) rfl rfl ?aP (fun k_ hk_ => ((Kd.R_mono (ok' := fun k_ => ((fun k_ => (w.heap.size ≤ k_))) k_ ∧ some k_ ≠ (u4 : Value).ownBlock) (Kd.R_apart' (HO314.out) (Kd.S_typed HO_4.out) (by decide)) (fun k_ hk => ⟨hk.1.1, hk.2⟩))).1 k_ hk_.symm) ?aF ?aO ?aB ?aS ?aL ?_
                  (case aP => exact Kd.M_row (Kd.R_mono (Kd.R_tight rfl (Kd.R_mono (ok' := fun k_ => ((fun k_ => (w.heap.size ≤ k_))) k_ ∧ some k_ ≠ (u4 : Value).ownBlock) (Kd.R_apart' (HO314.out) (Kd.S_typed HO_4.out) (by decide)) (fun k_ hk => ⟨hk.1.1, hk.2⟩))) (fun _ h_ => h_)))
                  (case aB => exact (bt))
                  (case aF => exact (fun k_ hk => (Nat.le_trans (below_size (bt)) hk)))
                  (case aO => exact (by (with_reducible repeat (first | apply Kd.S_alloc | apply Kd.S_drewN | apply Kd.S_drew)); exact Kd.S_mono HO_4.out (fun k_ hk => ⟨hk.1, fun e_ => hk.2 e_⟩)))
                  (case aS => exact (below_size (bt)))
                  (case aL => have := LMc30.out; omega)
                  intro v316 w40 ho hb hg hat
                  rw [← Ny315.out] at ho
                  have n0_ := Aside0.mk (Kd.V_afterv (ok := (fun k_ => (P0_ k_ ∨ w.heap.size ≤ k_) ∧ some k_ ≠ (.slice Ao41 t312.length co41 : Value).ownBlock)) (by (with_reducible repeat (first | apply Kd.V_alloc | apply Kd.V_drewN | apply Kd.V_drew)); exact Kd.V_mono HO_5.out (fun _ hk => ⟨⟨hk.1.1, hk.2⟩, hk.1.2⟩)) hg hat)
                  have n1_ := Aside0.mk (Kd.V_afterv (ok := (fun k_ => (P0_ k_ ∨ w.heap.size ≤ k_) ∧ some k_ ≠ (.slice Ao41 t312.length co41 : Value).ownBlock)) (by (with_reducible repeat (first | apply Kd.V_alloc | apply Kd.V_drewN | apply Kd.V_drew)); exact Kd.V_mono HO306.out (fun _ hk => ⟨⟨hk.1.1, hk.2⟩, hk.1.2⟩)) hg hat)
                  have n2_ := Aside0.mk (Kd.V_afterv (ok := (fun k_ => (P0_ k_ ∨ w.heap.size ≤ k_) ∧ some k_ ≠ (.slice Ao41 t312.length co41 : Value).ownBlock)) (by (with_reducible repeat (first | apply Kd.V_alloc | apply Kd.V_drewN | apply Kd.V_drew)); exact Kd.V_mono HO311.out (fun _ hk => ⟨⟨hk.1.1, hk.2⟩, hk.1.2⟩)) hg hat)
                  have n3_ := Aside0.mk (Kd.V_afterv (ok := (fun k_ => (P0_ k_ ∨ w.heap.size ≤ k_) ∧ some k_ ≠ (.slice Ao41 t312.length co41 : Value).ownBlock)) (by (with_reducible repeat (first | apply Kd.V_alloc | apply Kd.V_drewN | apply Kd.V_drew)); exact Kd.V_mono HO322.out (fun _ hk => ⟨⟨hk.1.1, hk.2⟩, hk.1.2⟩)) hg hat)
                  have n4_ := Aside0.mk (hb)
                  have n5_ := Aside0.mk (ho)
                  clear HO_5
                  clear HO306
                  clear HO311
                  clear HO322
                  clear HB
                  clear HO_4
                  clear HO314
                  have HO_5 := n0_
                  have HO306 := n1_
                  have HO311 := n2_
                  have HO322 := n3_
                  have HB := n4_
                  have HO317 := n5_
                  clear n0_ n1_ n2_ n3_ n4_ n5_
                  clear ho hb hg hat
                  refine hK.out _ _ trivial (fun hHeld => ?_)
                  clear hK K
                  refine nz (N := some 54) ?_
                  refine pz (i := 10) (N := some 4) #[true, true, true, true, true, true, true, true, true, true, true, false] rfl rfl HT_.out ?_
                  refine pz (i := 11) (N := some 5) #[true, true, true, true, true, true, true, true, true, true, true, true] rfl rfl HT_.out ?_
                  refine done_ (done_of HT_.out (by kernel_rfl)) ?_
                  (try simp only [Dig.setCell_drewN])
                  try go_wp2
                  go_roundg k2
                  case measure => have := HJ1.out; have := HK2.out; omega
                  case rel => exact ⟨(y315), (y318), ((x23_2 + 1) % 256), (by first | rfl | (simp; done) | (simp [*]; done)), H', ⟨by have := HJ1.out; have := HK2.out; omega⟩, ⟨mv HO317.out⟩, ⟨by (with_reducible repeat (first | apply Kd.V_alloc | apply Kd.V_drewN | apply Kd.V_drew)); exact Kd.V_mono HO322.out (fun _ hk => ⟨hk.1.1, hk.2⟩)⟩, ⟨bt⟩⟩
                 ·rw [if_neg c30] at H
                  exact absurd H (by simp)
                ·rw [if_neg c28] at H
                 exact absurd H (by simp)
               ·rw [if_neg c27] at H
                exact absurd H (by simp)
            ·rw [if_neg c17] at H
             exact absurd H (by simp)
           ·rw [if_neg c16] at H
            exact absurd H (by simp)
          ·rw [if_neg c15] at H
           exact absurd H (by simp)
        ·rw [if_neg c12] at H
         have c12b0 : decide (x23_2 < (rd l0 0)) = false := decide_eq_false c12
         clear c12
         by_cases c42 : (x5_2.length : Int) > 0
         ·rw [if_pos c42] at H
          have c42b0 : decide (0 < (x5_2.length : Int)) = true := decide_eq_true c42
          have c42b1 : decide (0 < x5_2.length) = true := decide_eq_true (by omega)
          clear c42
          simp only [Option.some.injEq, Prod.mk.injEq] at H
          obtain ⟨rfl, rfl⟩ := H
          obtain ⟨Ao43, co43, eo43⟩ := Kd.V_slice HO_5.out
          subst eo43
          go_wp2
          go_ret2
          exact ⟨_, by first | rfl | (simp [errW_none, errW_some] <;> rfl) | (simp [*, errW_none, errW_some] <;> rfl), by first | exact Kd.S_nil _ _ _ _ _ | exact Kd.N_nil _ _ _ _ _ | exact Kd.V_nil _ _ _ _ _ | exact Kd.Q_nil _ _ _ _ _ | exact Kd.R_nil _ _ _ _ _, bt⟩
         ·rw [if_neg c42] at H
          have c42b0 : decide (0 < (x5_2.length : Int)) = false := decide_eq_false c42
          have c42b1 : decide (0 < x5_2.length) = false := decide_eq_false (by omega)
          clear c42
          simp only [Option.some.injEq, Prod.mk.injEq] at H
          obtain ⟨rfl, rfl⟩ := H
          obtain ⟨Ao44, co44, eo44⟩ := Kd.V_slice HO_5.out
          subst eo44
          go_wp2
          go_ret2
          exact ⟨_, by first | rfl | (simp [errW_none, errW_some] <;> rfl) | (simp [*, errW_none, errW_some] <;> rfl), by (with_reducible repeat (first | apply Kd.S_alloc | apply Kd.S_drewN | apply Kd.S_drew)); exact HO_4.out, bt⟩
     ·rw [if_neg c7] at H
      exact absurd H (by simp)
    ·rw [if_neg c6] at H
     exact absurd H (by simp)

end Go.Proofs.Ytmcpnganobehaaa.PFnDigests
