-- Written by a program of this workplace (wip/mp.py) out of the translation.
import Derived.Test.YtchjajbkaiefdaaPFnForgeryx0
import Derived.Test.YtchjajbkaiefdaaPFnForgeryx3
import Derived.Test.YtchjajbkaiefdaaPFnForgeryx11
import Derived.Test.YtchjajbkaiefdaaPFnForgeryx12
namespace Go.Proofs.Ytchjajbkaiefdaa.PFnForgery
open Go.RowKit Go.Proofs.YtchjajbkaiefdaaW.PrintWords Go.Proofs.YtchjajbkaiefdaaW.PrintLast Go.Proofs.YtchjajbkaiefdaaW.PrintMore Go.Proofs.Ytchjajbkaiefdaa.Slim
attribute [local go_sem] max2_int min2_int max_two min_two max_three min_three max_four min_four   -- for this text's walks alone
set_option linter.unusedVariables false
set_option linter.unusedSimpArgs false

/-! ### impl_FromLeaves: function 18 -/
mutual
def impl_FromLeaves.j0 : Nat → Int → List (List Int) → List (List Int) → Bool → Option (List Int × List Int × Bool)
 | 0, _, _, _, _ => none
 | k + 1, x0, x1, x2, x26 => if x26 = true then (some (([] : List Int), ([] : List Int), false)) else (if (x1.length : Int) = (x2.length : Int) then (impl_FromLeaves.l0 k x0 x1 x2 0) else ((impl_topOf.f k x0 x1).bind fun t609 => ((impl_topOf.f k x0 x2).bind fun t612 => (some (t609, t612, true)))))
def impl_FromLeaves.l0 : Nat → Int → List (List Int) → List (List Int) → Int → Option (List Int × List Int × Bool)
 | 0, _, _, _, _ => none
 | k + 1, x0, x1, x2, x9 => if 0 ≤ x9 then (if x9 < (x1.length : Int) then (if x9 < (x2.length : Int) then ((bytes_Equal.f (rd_L1 x1 x9) (rd_L1 x2 x9)).bind fun t617 => (if t617 = true then (impl_FromLeaves.l0 k x0 x1 x2 (wrap64 (x9 + 1))) else ((impl_path.f k x0 x1 x9).bind fun t619 => ((impl_path.f k x0 x2 x9).bind fun t623 => ((impl_FromPaths.f k x0 (x1.length : Int) x9 (rd_L1 x1 x9) t619 (rd_L1 x2 x9) t623).bind fun bt626 => (some (bt626.1, bt626.2.1, bt626.2.2))))))) else (none)) else (none)) else (none)
end
def impl_FromLeaves.f (k : Nat) (a0 : Int) (l1 : List (List Int)) (l2 : List (List Int)) : Option (List Int × List Int × Bool) := (impl_TreeRoot.f k a0 l1).bind fun t606 => (if t606 < 0 then (impl_FromLeaves.j0 k a0 l1 l2 true) else ((impl_TreeRoot.f k a0 l2).bind fun t607 => (if t606 = t607 then ((impl_sameLeaves.f l1 l2).bind fun t608 => (impl_FromLeaves.j0 k a0 l1 l2 t608)) else (impl_FromLeaves.j0 k a0 l1 l2 true))))
def impl_FromLeaves.T7 : Bool × List (List Nat × List Nat) := (true, [([], []), ([], []), ([0, 1], [0, 1]), ([2], [2]), ([], []), ([], []), ([4, 5], [4, 5]), ([6], [6]), ([3, 7], [3, 7])])
def impl_FromLeaves.B7 : List Nat := [0, 0, 3, 7, 0, 0, 48, 112, 255]
theorem impl_FromLeaves.tab7 : rtab .any (opsOf Try.f18 7) = impl_FromLeaves.T7 := by kernel_rfl
theorem impl_FromLeaves.bits7 : waitsOk impl_FromLeaves.T7.2 impl_FromLeaves.B7 = true := by kernel_rfl
def impl_FromLeaves.T9 : Bool × List (List Nat × List Nat) := (true, [([], []), ([], []), ([1], [1]), ([], []), ([], []), ([], []), ([4, 5], [4, 5]), ([6], [6]), ([], []), ([], []), ([], []), ([8, 9, 10], [8, 9, 10]), ([], []), ([], []), ([12, 13], [12, 13]), ([14], [14]), ([], []), ([], []), ([], []), ([16, 17, 18, 11], [16, 17, 18]), ([0, 2, 3, 7, 11, 15, 19, 19], [0, 2, 3, 7, 11, 15, 19]), ([20], [20]), ([20], [20]), ([21, 20, 0, 1, 2, 3, 4, 5, 6, 7, 8, 9, 10, 11, 12, 13, 14, 15, 16, 17, 18, 19, 20, 21, 22], [21]), ([22, 23, 0, 1, 2, 3, 4, 5, 6, 7, 8, 9, 10, 11, 12, 13, 14, 15, 16, 17, 18, 19, 20, 21, 22, 23], [22])])
def impl_FromLeaves.B9 : List Nat := [0, 0, 2, 0, 0, 0, 48, 112, 0, 0, 0, 1792, 0, 0, 12288, 28672, 0, 0, 0, 462592, 1048575, 2097151, 2097151, 8388607, 16777215]
theorem impl_FromLeaves.tab9 : rtab .any (opsOf Try.f18 9) = impl_FromLeaves.T9 := by kernel_rfl
theorem impl_FromLeaves.bits9 : waitsOk impl_FromLeaves.T9.2 impl_FromLeaves.B9 = true := by kernel_rfl
set_option maxHeartbeats 8000000 in
set_option maxRecDepth 100000 in
theorem impl_FromLeaves.calls (k : Nat) (a0 : Int) (A1 : Option Addr) (c1 : Nat) (l1 : List (List Int)) (A2 : Option Addr) (c2 : Nat) (l2 : List (List Int)) (r1 : List Int) (r2 : List Int) (r3 : Bool) (w : World) (hr1 : Kd.C (Kd.slice 5 (Kd.int .u8)) w A1 l1.length l1) (hc1 : l1.length ≤ c1) (hr2 : Kd.C (Kd.slice 5 (Kd.int .u8)) w A2 l2.length l2) (hc2 : l2.length ≤ c2) (h : impl_FromLeaves.f k a0 l1 l2 = some (r1, r2, r3)) :
  Calls Try.prog 18 #[.int .i64 a0, .slice A1 l1.length c1, .slice A2 l2.length c2] w fun e w' => ∃ v0_ v1_ : Value, e = .returned (.tuple #[.agg #[v0_, v1_], .bool r3]) ∧ Kd.R (Kd.int .u8) 5 w' w.heap.size (fun k_ => some k_ ≠ (v1_ : Value).ownBlock) v0_ r1 ∧ Kd.R (Kd.int .u8) 5 w' w.heap.size (fun k_ => some k_ ≠ (v0_ : Value).ownBlock) v1_ r2 ∧ Below w.heap.size w w' := by
 have hu33 := Try.underlying33
 have HR1 := am hr1
 have HC1 := am hc1
 clear hr1 hc1
 have HR2 := am hr2
 have HC2 := am hc2
 clear hr2 hc2
 have HB := am (Below.refl w.heap.size w)
 have H : ((impl_TreeRoot.f k a0 l1).bind fun t606 => (if t606 < 0 then (impl_FromLeaves.j0 k a0 l1 l2 true) else ((impl_TreeRoot.f k a0 l2).bind fun t607 => (if t606 = t607 then ((impl_sameLeaves.f l1 l2).bind fun t608 => (impl_FromLeaves.j0 k a0 l1 l2 t608)) else (impl_FromLeaves.j0 k a0 l1 l2 true))))) = some (r1, r2, r3) := h
 clear h
 replace H := Option.bind_eq_some_iff.mp H
 obtain ⟨t606, A40, H⟩ := H
 (try dsimp -simprocs only at H)
 have A4 := am A40
 clear A40
 have HC5 := am H
 clear H
 go_enter Try.func18, Try.ntmps18
 go_upto_region 2 with (first | ((with_reducible refine gate_dst (N := 6) rfl ?_); refine box_event ?hg (N := 6) ?hd (cs := #[.slice none 0 0, .slice none 0 0]) (t := 33) ?hr ?_; (case hd => rfl); (case hg => rfl); (case hr => first | (go_simp; done) | (go_simp; rfl)); intro gb605 hg w6 hbox hb; have BK605 := am (hbox); have GW605 := am ((by rw [hg]; exact (below_size (bt)) : w.heap.size ≤ gb605)); have GE605 := am ((by rw [hg]; exact (below_size (bt)) : w.heap.size ≤ gb605)); replace HB := am (below_step (bt) hb); clear hb hbox hg) | ((with_reducible refine gate_callee (f := 11) rfl ?_); refine goesL_ (some 12) rfl rfl Try.func11 (by kernel_rfl) rfl #[.int .i64 a0, .slice A1 l1.length c1] rfl av ?_; (with_reducible refine (impl_TreeRoot.calls k a0 _ _ l1 t606 _ ?side1 ?side2 A4.out).mono ?_); (case side1 => exact cv ((Kd.C_below HR1.out HB.out))); (case side2 => exact HC1.out); rintro e w7 ⟨rfl, hb⟩; refine ⟨_, rfl, ?_⟩; replace BK605 := am (blk_below (g := gb605) (o := .cells #[.slice none 0 0, .slice none 0 0] 33 (0, 0)) (mb BK605.out) hb); replace HB := am (below_step (b1 GE605.out) hb); (try clear hb); (try clear hb2); (try clear hk); (try clear hi)))
 (try simp only [Act.put, List.setIfInBounds_toArray, List.set_cons_zero, List.set_cons_succ])
 go_cut [26] (fun v26 wc => ∃ (kq : Nat) (x26_4 : Bool), v26 = .bool x26_4 ∧ Aside0 (impl_FromLeaves.j0 kq a0 l1 l2 x26_4 = some (r1, r2, r3)) ∧ Aside0 (kq ≤ k) ∧ Aside0 (wc.heap[gb605]? = some (.cells #[(.slice none 0 0), (.slice none 0 0)] 33 (0, 0))) ∧ Aside0 (Below w.heap.size w wc))
 case first =>
  have H := HC5.out
  clear HC5
  by_cases c8 : t606 < 0
  ·rw [if_pos c8] at H
   have c8b0 : decide (t606 < 0) = true := decide_eq_true c8
   clear c8
   (first | rw [c8b0] | (simp only [i64_w, i32_w]; rw [c8b0]) | skip)
   have H' := am H
   clear H
   go_wp2
   go_meet
   case rel => exact ⟨_, (true), (by first | rfl | (simp; done) | (simp [*]; done)), H', ⟨by first | omega | exact Nat.le_refl _⟩, ⟨mb BK605.out⟩, ⟨b1 GE605.out⟩⟩
  ·rw [if_neg c8] at H
   have c8b0 : decide (t606 < 0) = false := decide_eq_false c8
   clear c8
   (first | rw [c8b0] | (simp only [i64_w, i32_w]; rw [c8b0]) | skip)
   replace H := Option.bind_eq_some_iff.mp H
   obtain ⟨t607, A90, H⟩ := H
   (try dsimp -simprocs only at H)
   have A9 := am A90
   clear A90
   by_cases c10 : t606 = t607
   ·rw [if_pos c10] at H
    have c10b0 : (t606 == t607) = true := beq_iff_eq.mpr c10
    have c10b1 : (t606 != t607) = false := bne_eq_false_iff_eq.mpr c10
    clear c10
    replace H := Option.bind_eq_some_iff.mp H
    obtain ⟨t608, A110, H⟩ := H
    (try dsimp -simprocs only at H)
    have A11 := am A110
    clear A110
    have H' := am H
    clear H
    go_wp2_with (first | (go_at_call 11; (with_reducible refine (impl_TreeRoot.calls k a0 _ _ l2 t607 _ ?side1 ?side2 A9.out).mono ?_); (case side1 => exact cv ((Kd.C_below HR2.out HB.out))); (case side2 => exact HC2.out); rintro e w12 ⟨rfl, hb⟩; replace BK605 := am (blk_below (g := gb605) (o := .cells #[.slice none 0 0, .slice none 0 0] 33 (0, 0)) (mb BK605.out) hb); replace HB := am (below_step (b1 GE605.out) hb); (try clear hb); (try clear hb2); (try clear hk); (try clear hi)) | (go_at_call 67; (with_reducible refine (impl_sameLeaves.calls _ _ l1 _ _ l2 t608 _ ?side1 ?side2 ?side3 ?side4 A11.out).mono ?_); (case side1 => exact cv ((Kd.C_below HR1.out HB.out))); (case side2 => exact HC1.out); (case side3 => exact cv ((Kd.C_below HR2.out HB.out))); (case side4 => exact HC2.out); rintro e w' ⟨rfl, ⟨nd, rfl⟩⟩))
    go_meet
    case rel => exact ⟨_, (t608), (by first | rfl | (simp; done) | (simp [*]; done)), H', ⟨by first | omega | exact Nat.le_refl _⟩, ⟨mb BK605.out⟩, ⟨b1 GE605.out⟩⟩
   ·rw [if_neg c10] at H
    have c10b0 : (t606 == t607) = false := beq_eq_false_iff_ne.mpr c10
    have c10b1 : (t606 != t607) = true := bne_iff_ne.mpr c10
    have H' := am H
    clear H
    go_wp2_with (first | (go_at_call 11; (with_reducible refine (impl_TreeRoot.calls k a0 _ _ l2 t607 _ ?side1 ?side2 A9.out).mono ?_); (case side1 => exact cv ((Kd.C_below HR2.out HB.out))); (case side2 => exact HC2.out); rintro e w13 ⟨rfl, hb⟩; replace BK605 := am (blk_below (g := gb605) (o := .cells #[.slice none 0 0, .slice none 0 0] 33 (0, 0)) (mb BK605.out) hb); replace HB := am (below_step (b1 GE605.out) hb); (try clear hb); (try clear hb2); (try clear hk); (try clear hi)))
    go_meet
    case rel => exact ⟨_, (true), (by first | rfl | (simp; done) | (simp [*]; done)), H', ⟨by first | omega | exact Nat.le_refl _⟩, ⟨mb BK605.out⟩, ⟨b1 GE605.out⟩⟩
 case rest =>
  clear HC5
  try clear c1
  try clear c2
  try clear p2
  try clear c8
  try clear c8b0
  try clear c10
  try clear c10b0
  try clear c10b1
  try clear c11
  obtain ⟨kq, x26_4, rfl, HA, HJ4, BK605, HB⟩ := hcut
  cases kq with
  | zero => exact absurd HA.out (by simp [impl_FromLeaves.j0])
  | succ kj4 =>
   have H := HA.out
   clear HA
   simp only [impl_FromLeaves.j0] at H
   by_cases c14 : x26_4 = true
   ·subst c14
    rw [if_pos rfl] at H
    simp only [Option.some.injEq, Prod.mk.injEq] at H
    obtain ⟨rfl, rfl, rfl⟩ := H
    have hcz15_0 : wc.cell? ⟨gb605, 0, none⟩ = some (.slice none 0 0) := (blk_cell BK605.out 0).trans rfl
    have hcz15_1 : wc.cell? ⟨gb605, 1, none⟩ = some (.slice none 0 0) := (blk_cell BK605.out 1).trans rfl
    have hfz15_0 := blk_frozen BK605.out 0
    have hfz15_1 := blk_frozen BK605.out 1
    go_wp2
    refine bodyPost_ret (results_ct rfl _ _ gb605 33 #[.slice none 0 0, .slice none 0 0] (0, 0) _ rfl (by (with_reducible repeat (first | refine blk_drewN ?_ _ | refine blk_drew ?_ | refine blk_alloc ?_ _)); refine blk_put (cs := #[.slice none 0 0, .slice none 0 0]) ?_ 1 _ rfl; (with_reducible repeat (first | refine blk_drewN ?_ _ | refine blk_drew ?_ | refine blk_alloc ?_ _)); refine blk_put (cs := #[.slice none 0 0, .slice none 0 0]) ?_ 0 _ rfl; (with_reducible repeat (first | refine blk_drewN ?_ _ | refine blk_drew ?_ | refine blk_alloc ?_ _)); exact BK605.out) Try.underlying33 rfl (by kernel_rfl)) rfl ?_
    exact ⟨_, _, by first | rfl | (simp [errW_none, errW_some] <;> rfl) | (simp [*, errW_none, errW_some] <;> rfl), by first | exact Kd.R_nil _ _ _ _ _ | exact Kd.N_nil _ _ _ _ _ | exact Kd.V_nil _ _ _ _ _ | exact Kd.Q_nil _ _ _ _ _ | exact Kd.S_nil _ _ _ _ _, by first | exact Kd.R_nil _ _ _ _ _ | exact Kd.N_nil _ _ _ _ _ | exact Kd.V_nil _ _ _ _ _ | exact Kd.Q_nil _ _ _ _ _ | exact Kd.S_nil _ _ _ _ _, b1 GE605.out⟩
   ·replace c14 := Bool.eq_false_iff.mpr c14
    subst c14
    rw [if_neg (show ¬ (false = true) by decide)] at H
    by_cases c16 : (l1.length : Int) = (l2.length : Int)
    ·rw [if_pos c16] at H
     have c16b0 : ((l1.length : Int) == (l2.length : Int)) = true := beq_iff_eq.mpr c16
     have c16b1 : ((l1.length : Int) != (l2.length : Int)) = false := bne_eq_false_iff_eq.mpr c16
     have c16b2 : (l1.length == l2.length) = true := by first | simpa using c16 | (simp at c16 ⊢; omega)
     clear c16
     have H' := am H
     clear H
     go_wp2
     go_loopg [9] kj4 (fun kq v9 w' => ∃ (x9_2 : Int), v9 = .int .i64 x9_2 ∧ Aside0 (impl_FromLeaves.l0 kq a0 l1 l2 x9_2 = some (r1, r2, r3)) ∧ Aside0 (kq ≤ kj4) ∧ Aside0 (w'.heap[gb605]? = some (.cells #[(.slice none 0 0), (.slice none 0 0)] 33 (0, 0))) ∧ Aside0 (Below w.heap.size w w'))
     case atStart => exact ⟨(0), (by first | rfl | (simp; done) | (simp [*]; done)), H', ⟨Nat.le_refl _⟩, ⟨mb BK605.out⟩, ⟨b1 GE605.out⟩⟩
     case round =>
      clear H'
      try clear c1
      try clear c2
      try clear p2
      try clear c8
      try clear c8b0
      try clear c10
      try clear c10b0
      try clear c10b1
      try clear c11
      try clear c14
      try clear c16
      try clear c16b0
      try clear c16b1
      try clear c16b2
      try clear hcz15_0
      try clear hcz15_1
      try clear hfz15_0
      try clear hfz15_1
      try clear p2
      obtain ⟨x9_2, rfl, HA, HK2, BK605, HB⟩ := hrel
      cases gk with
      | zero => exact absurd HA.out (by simp [impl_FromLeaves.l0])
      | succ k2 =>
       have H := HA.out
       clear HA
       simp only [impl_FromLeaves.l0] at H
       by_cases c17 : 0 ≤ x9_2
       ·rw [if_pos c17] at H
        have c17b0 : decide (0 ≤ x9_2) = true := decide_eq_true c17
        clear c17
        by_cases c18 : x9_2 < (l1.length : Int)
        ·rw [if_pos c18] at H
         have c18b0 : decide (x9_2 < (l1.length : Int)) = true := decide_eq_true c18
         clear c18
         by_cases c19 : x9_2 < (l2.length : Int)
         ·rw [if_pos c19] at H
          have c19b0 : decide (x9_2 < (l2.length : Int)) = true := decide_eq_true c19
          clear c19
          replace H := Option.bind_eq_some_iff.mp H
          obtain ⟨t617, A200, H⟩ := H
          (try dsimp -simprocs only at H)
          have A20 := am A200
          clear A200
          by_cases c21 : t617 = true
          ·subst c21
           rw [if_pos rfl] at H
           have H' := am H
           clear H
           try go_wp2
           have n0_ := am (blk_drew BK605.out)
           have n1_ := am (below_drew1 HB.out)
           clear BK605
           clear HB
           have BK605 := n0_
           have HB := n1_
           clear n0_ n1_
           have p615 : 0 ≤ (x9_2 : Int) := of_decide_eq_true asm
           have q615 : x9_2 < (l1.length : Int) := of_decide_eq_true asm
           obtain ⟨ad615, A615_0, c615_0, e615, hx615_0, hl615_0, hi615_0⟩ := at_L1 HR1.out x9_2 p615 q615
           have hw615_0 := hx615_0
           cases e615
           replace hx615_0 := (HB.out.cell (World.block_lt_of_cell? w _ hx615_0)).trans hx615_0
           have HR615_0 := am hi615_0
           have HC615_0 := am hl615_0
           clear hi615_0 hl615_0
           replace p615 := eq_true p615
           replace q615 := eq_true q615
           have p616 : 0 ≤ (x9_2 : Int) := of_decide_eq_true asm
           have q616 : x9_2 < (l2.length : Int) := of_decide_eq_true asm
           obtain ⟨ad616, A616_0, c616_0, e616, hx616_0, hl616_0, hi616_0⟩ := at_L1 HR2.out x9_2 p616 q616
           have hw616_0 := hx616_0
           cases e616
           replace hx616_0 := (HB.out.cell (World.block_lt_of_cell? w _ hx616_0)).trans hx616_0
           have HR616_0 := am hi616_0
           have HC616_0 := am hl616_0
           clear hi616_0 hl616_0
           replace p616 := eq_true p616
           replace q616 := eq_true q616
           refine start_ (n := 9) (S := fun w' => w'.cell? (ad615.add (x9_2).toNat) = some (.slice A615_0 (rd_L1 l1 x9_2).length c615_0) ∧ w'.cell? (ad616.add (x9_2).toNat) = some (.slice A616_0 (rd_L1 l2 x9_2).length c616_0)) (ds := []) #[false, false, false, false, false, false, false, false, false] (by kernel_rfl) rfl rfl ⟨((HB.out.cell (World.block_lt_of_cell? w _ hw615_0)).trans hw615_0), ((HB.out.cell (World.block_lt_of_cell? w _ hw616_0)).trans hw616_0)⟩ (fun hHeld => ?_); refine with_tabW impl_FromLeaves.tab7 impl_FromLeaves.bits7 (fun HT_ HW_ => ?_)
           generalize wr.drew = w22 at BK605 HB HR615_0 HR616_0 hx615_0 hx616_0 hHeld ⊢
           refine pz (i := 0) (N := some 40) #[true, false, false, false, false, false, false, false, false] rfl rfl HT_.out ?_
           refine pz (i := 1) (N := some 41) #[true, true, false, false, false, false, false, false, false] rfl rfl HT_.out ?_
           refine pz (i := 2) (N := some 42) #[true, true, true, false, false, false, false, false, false] rfl rfl HT_.out ?_
           refine pz (i := 4) (N := some 44) #[true, true, true, false, true, false, false, false, false] rfl rfl HT_.out ?_
           refine pz (i := 5) (N := some 45) #[true, true, true, false, true, true, false, false, false] rfl rfl HT_.out ?_
           refine pz (i := 6) (N := some 46) #[true, true, true, false, true, true, true, false, false] rfl rfl HT_.out ?_
           refine tz (i := 3) (N := some 43) #[true, true, true, true, true, true, true, false, false] rfl rfl HT_.out HW_.out hHeld (Or.inl ⟨by rfl, by rintro w' ⟨s0, s1⟩; go_simp; with_reducible rfl⟩) ?_
           refine tz (i := 7) (N := some 47) #[true, true, true, true, true, true, true, true, false] rfl rfl HT_.out HW_.out hHeld (Or.inl ⟨by rfl, by rintro w' ⟨s0, s1⟩; go_simp; with_reducible rfl⟩) ?_
           refine one_ (i := 8) (N := some 48) #[true, true, true, true, true, true, true, true, true] rfl rfl (one_of HT_.out (by kernel_rfl)) (by decide) (fun K hK => ?_)
           refine goes_ Try.func60 (by kernel_rfl) rfl #[.slice A615_0 (rd_L1 l1 x9_2).length c615_0, .slice A616_0 (rd_L1 l2 x9_2).length c616_0] (by rfl) rfl rfl av ?_
           with_reducible refine (bytes_Equal.calls _ _ (rd_L1 l1 x9_2) _ _ (rd_L1 l2 x9_2) true _ ?side1 ?side2 ?side3 ?side4 A20.out).mono ?_
           (case side1 => exact cv ((Kd.C_below HR615_0.out HB.out)))
           (case side2 => exact HC615_0.out)
           (case side3 => exact cv ((Kd.C_below HR616_0.out HB.out)))
           (case side4 => exact HC616_0.out)
           rintro e w' ⟨rfl, ⟨nd, rfl⟩⟩
           refine ⟨_, rfl, ?_⟩
           refine hK.out _ _ ⟨((HB.out.cell (World.block_lt_of_cell? w _ hw615_0)).trans hw615_0), ((HB.out.cell (World.block_lt_of_cell? w _ hw616_0)).trans hw616_0)⟩ (fun hHeld => ?_)
           clear hK K
           refine nz (N := some 48) ?_
           refine done_ (done_of HT_.out (by kernel_rfl)) ?_
           (try simp only [Dig.setCell_drewN])
           try go_wp2
           go_roundg k2
           case measure => have := HJ4.out; have := HK2.out; omega
           case rel => exact ⟨(wrap64 (x9_2 + 1)), (by first | rfl | (simp; done) | (simp [*]; done)), H', ⟨by have := HJ4.out; have := HK2.out; omega⟩, ⟨mb BK605.out⟩, ⟨b1 GE605.out⟩⟩
          ·replace c21 := Bool.eq_false_iff.mpr c21
           subst c21
           rw [if_neg (show ¬ (false = true) by decide)] at H
           replace H := Option.bind_eq_some_iff.mp H
           obtain ⟨t619, A230, H⟩ := H
           (try dsimp -simprocs only at H)
           have A23 := am A230
           clear A230
           replace H := Option.bind_eq_some_iff.mp H
           obtain ⟨t623, A240, H⟩ := H
           (try dsimp -simprocs only at H)
           have A24 := am A240
           clear A240
           replace H := Option.bind_eq_some_iff.mp H
           obtain ⟨⟨t626, t629, t632⟩, A250, H⟩ := H
           (try dsimp -simprocs only at H)
           have A25 := am A250
           clear A250
           simp only [Option.some.injEq, Prod.mk.injEq] at H
           obtain ⟨rfl, rfl, rfl⟩ := H
           try go_wp2
           have n0_ := am (blk_drew BK605.out)
           have n1_ := am (below_drew1 HB.out)
           clear BK605
           clear HB
           have BK605 := n0_
           have HB := n1_
           clear n0_ n1_
           have p615 : 0 ≤ (x9_2 : Int) := of_decide_eq_true asm
           have q615 : x9_2 < (l1.length : Int) := of_decide_eq_true asm
           obtain ⟨ad615, A615_0, c615_0, e615, hx615_0, hl615_0, hi615_0⟩ := at_L1 HR1.out x9_2 p615 q615
           have hw615_0 := hx615_0
           cases e615
           replace hx615_0 := (HB.out.cell (World.block_lt_of_cell? w _ hx615_0)).trans hx615_0
           have HR615_0 := am hi615_0
           have HC615_0 := am hl615_0
           clear hi615_0 hl615_0
           replace p615 := eq_true p615
           replace q615 := eq_true q615
           have p616 : 0 ≤ (x9_2 : Int) := of_decide_eq_true asm
           have q616 : x9_2 < (l2.length : Int) := of_decide_eq_true asm
           obtain ⟨ad616, A616_0, c616_0, e616, hx616_0, hl616_0, hi616_0⟩ := at_L1 HR2.out x9_2 p616 q616
           have hw616_0 := hx616_0
           cases e616
           replace hx616_0 := (HB.out.cell (World.block_lt_of_cell? w _ hx616_0)).trans hx616_0
           have HR616_0 := am hi616_0
           have HC616_0 := am hl616_0
           clear hi616_0 hl616_0
           replace p616 := eq_true p616
           replace q616 := eq_true q616
           refine start_ (n := 9) (S := fun w' => w'.cell? (ad615.add (x9_2).toNat) = some (.slice A615_0 (rd_L1 l1 x9_2).length c615_0) ∧ w'.cell? (ad616.add (x9_2).toNat) = some (.slice A616_0 (rd_L1 l2 x9_2).length c616_0)) (ds := []) #[false, false, false, false, false, false, false, false, false] (by kernel_rfl) rfl rfl ⟨((HB.out.cell (World.block_lt_of_cell? w _ hw615_0)).trans hw615_0), ((HB.out.cell (World.block_lt_of_cell? w _ hw616_0)).trans hw616_0)⟩ (fun hHeld => ?_); refine with_tabW impl_FromLeaves.tab7 impl_FromLeaves.bits7 (fun HT_ HW_ => ?_)
           generalize wr.drew = w26 at BK605 HB HR615_0 HR616_0 hx615_0 hx616_0 hHeld ⊢
           refine pz (i := 0) (N := some 40) #[true, false, false, false, false, false, false, false, false] rfl rfl HT_.out ?_
           refine pz (i := 1) (N := some 41) #[true, true, false, false, false, false, false, false, false] rfl rfl HT_.out ?_
           refine pz (i := 2) (N := some 42) #[true, true, true, false, false, false, false, false, false] rfl rfl HT_.out ?_
           refine pz (i := 4) (N := some 44) #[true, true, true, false, true, false, false, false, false] rfl rfl HT_.out ?_
           refine pz (i := 5) (N := some 45) #[true, true, true, false, true, true, false, false, false] rfl rfl HT_.out ?_
           refine pz (i := 6) (N := some 46) #[true, true, true, false, true, true, true, false, false] rfl rfl HT_.out ?_
           refine tz (i := 3) (N := some 43) #[true, true, true, true, true, true, true, false, false] rfl rfl HT_.out HW_.out hHeld (Or.inl ⟨by rfl, by rintro w' ⟨s0, s1⟩; go_simp; with_reducible rfl⟩) ?_
           refine tz (i := 7) (N := some 47) #[true, true, true, true, true, true, true, true, false] rfl rfl HT_.out HW_.out hHeld (Or.inl ⟨by rfl, by rintro w' ⟨s0, s1⟩; go_simp; with_reducible rfl⟩) ?_
           refine one_ (i := 8) (N := some 48) #[true, true, true, true, true, true, true, true, true] rfl rfl (one_of HT_.out (by kernel_rfl)) (by decide) (fun K hK => ?_)
           refine goes_ Try.func60 (by kernel_rfl) rfl #[.slice A615_0 (rd_L1 l1 x9_2).length c615_0, .slice A616_0 (rd_L1 l2 x9_2).length c616_0] (by rfl) rfl rfl av ?_
           with_reducible refine (bytes_Equal.calls _ _ (rd_L1 l1 x9_2) _ _ (rd_L1 l2 x9_2) false _ ?side1 ?side2 ?side3 ?side4 A20.out).mono ?_
           (case side1 => exact cv ((Kd.C_below HR615_0.out HB.out)))
           (case side2 => exact HC615_0.out)
           (case side3 => exact cv ((Kd.C_below HR616_0.out HB.out)))
           (case side4 => exact HC616_0.out)
           rintro e w' ⟨rfl, ⟨nd, rfl⟩⟩
           refine ⟨_, rfl, ?_⟩
           refine hK.out _ _ ⟨((HB.out.cell (World.block_lt_of_cell? w _ hw615_0)).trans hw615_0), ((HB.out.cell (World.block_lt_of_cell? w _ hw616_0)).trans hw616_0)⟩ (fun hHeld => ?_)
           clear hK K
           refine nz (N := some 48) ?_
           refine done_ (done_of HT_.out (by kernel_rfl)) ?_
           (try simp only [Dig.setCell_drewN])
           try go_wp2
           (try (rw [drewN_self w26]; generalize hq_ : World.drewN w26 _ = w26; have n0_ : Aside0 (w26.heap[gb605]? = some (.cells #[.slice none 0 0, .slice none 0 0] 33 (0, 0))) := ⟨by rw [← hq_]; exact (mb BK605.out)⟩; have n1_ : Aside0 (Below w.heap.size w w26) := ⟨by rw [← hq_]; exact (b1 GE605.out)⟩; clear BK605 HB hq_; have BK605 := n0_; have HB := n1_; clear n0_ n1_))
           have n0_ := am (blk_drew BK605.out)
           have n1_ := am (below_drew1 HB.out)
           clear BK605
           clear HB
           have BK605 := n0_
           have HB := n1_
           clear n0_ n1_
           have p618 : 0 ≤ (x9_2 : Int) := of_decide_eq_true asm
           have q618 : x9_2 < (l1.length : Int) := of_decide_eq_true asm
           obtain ⟨ad618, A618_0, c618_0, e618, hx618_0, hl618_0, hi618_0⟩ := at_L1 HR1.out x9_2 p618 q618
           have hw618_0 := hx618_0
           obtain rfl : ad615 = ad618 := (by injection e618)
           replace hx618_0 := (HB.out.cell (World.block_lt_of_cell? w _ hx618_0)).trans hx618_0
           have HR618_0 := am hi618_0
           have HC618_0 := am hl618_0
           clear hi618_0 hl618_0
           replace p618 := eq_true p618
           replace q618 := eq_true q618
           have p622 : 0 ≤ (x9_2 : Int) := of_decide_eq_true asm
           have q622 : x9_2 < (l2.length : Int) := of_decide_eq_true asm
           obtain ⟨ad622, A622_0, c622_0, e622, hx622_0, hl622_0, hi622_0⟩ := at_L1 HR2.out x9_2 p622 q622
           have hw622_0 := hx622_0
           obtain rfl : ad616 = ad622 := (by injection e622)
           replace hx622_0 := (HB.out.cell (World.block_lt_of_cell? w _ hx622_0)).trans hx622_0
           have HR622_0 := am hi622_0
           have HC622_0 := am hl622_0
           clear hi622_0 hl622_0
           replace p622 := eq_true p622
           replace q622 := eq_true q622
           refine start_ (n := 25) (S := fun w' => w'.cell? (ad615.add (x9_2).toNat) = some (.slice A618_0 (rd_L1 l1 x9_2).length c618_0) ∧ w'.cell? (ad616.add (x9_2).toNat) = some (.slice A622_0 (rd_L1 l2 x9_2).length c622_0)) (ds := []) #[false, false, false, false, false, false, false, false, false, false, false, false, false, false, false, false, false, false, false, false, false, false, false, false, false] (by kernel_rfl) rfl rfl ⟨((HB.out.cell (World.block_lt_of_cell? w _ hw618_0)).trans hw618_0), ((HB.out.cell (World.block_lt_of_cell? w _ hw622_0)).trans hw622_0)⟩ (fun hHeld => ?_); refine with_tabW impl_FromLeaves.tab9 impl_FromLeaves.bits9 (fun HT_ HW_ => ?_)
           generalize w26.drew = w27 at BK605 HB HR618_0 HR622_0 hx618_0 hx622_0 hHeld ⊢
           refine pz (i := 0) (N := some 51) #[true, false, false, false, false, false, false, false, false, false, false, false, false, false, false, false, false, false, false, false, false, false, false, false, false] rfl rfl HT_.out ?_
           refine pz (i := 1) (N := some 52) #[true, true, false, false, false, false, false, false, false, false, false, false, false, false, false, false, false, false, false, false, false, false, false, false, false] rfl rfl HT_.out ?_
           refine pz (i := 2) (N := some 53) #[true, true, true, false, false, false, false, false, false, false, false, false, false, false, false, false, false, false, false, false, false, false, false, false, false] rfl rfl HT_.out ?_
           refine pz (i := 3) (N := some 54) #[true, true, true, true, false, false, false, false, false, false, false, false, false, false, false, false, false, false, false, false, false, false, false, false, false] rfl rfl HT_.out ?_
           refine pz (i := 4) (N := some 55) #[true, true, true, true, true, false, false, false, false, false, false, false, false, false, false, false, false, false, false, false, false, false, false, false, false] rfl rfl HT_.out ?_
           refine pz (i := 5) (N := some 56) #[true, true, true, true, true, true, false, false, false, false, false, false, false, false, false, false, false, false, false, false, false, false, false, false, false] rfl rfl HT_.out ?_
           refine pz (i := 6) (N := some 57) #[true, true, true, true, true, true, true, false, false, false, false, false, false, false, false, false, false, false, false, false, false, false, false, false, false] rfl rfl HT_.out ?_
           refine pz (i := 8) (N := some 59) #[true, true, true, true, true, true, true, false, true, false, false, false, false, false, false, false, false, false, false, false, false, false, false, false, false] rfl rfl HT_.out ?_
           refine pz (i := 9) (N := some 60) #[true, true, true, true, true, true, true, false, true, true, false, false, false, false, false, false, false, false, false, false, false, false, false, false, false] rfl rfl HT_.out ?_
           refine pz (i := 10) (N := some 61) #[true, true, true, true, true, true, true, false, true, true, true, false, false, false, false, false, false, false, false, false, false, false, false, false, false] rfl rfl HT_.out ?_
           refine pz (i := 12) (N := some 63) #[true, true, true, true, true, true, true, false, true, true, true, false, true, false, false, false, false, false, false, false, false, false, false, false, false] rfl rfl HT_.out ?_
           refine pz (i := 13) (N := some 64) #[true, true, true, true, true, true, true, false, true, true, true, false, true, true, false, false, false, false, false, false, false, false, false, false, false] rfl rfl HT_.out ?_
           refine pz (i := 14) (N := some 65) #[true, true, true, true, true, true, true, false, true, true, true, false, true, true, true, false, false, false, false, false, false, false, false, false, false] rfl rfl HT_.out ?_
           refine pz (i := 16) (N := some 67) #[true, true, true, true, true, true, true, false, true, true, true, false, true, true, true, false, true, false, false, false, false, false, false, false, false] rfl rfl HT_.out ?_
           refine pz (i := 17) (N := some 68) #[true, true, true, true, true, true, true, false, true, true, true, false, true, true, true, false, true, true, false, false, false, false, false, false, false] rfl rfl HT_.out ?_
           refine pz (i := 18) (N := some 69) #[true, true, true, true, true, true, true, false, true, true, true, false, true, true, true, false, true, true, true, false, false, false, false, false, false] rfl rfl HT_.out ?_
           refine tz (i := 7) (N := some 58) #[true, true, true, true, true, true, true, true, true, true, true, false, true, true, true, false, true, true, true, false, false, false, false, false, false] rfl rfl HT_.out HW_.out hHeld (Or.inl ⟨by rfl, by rintro w' ⟨s0, s1⟩; go_simp; with_reducible rfl⟩) ?_
           refine tz (i := 15) (N := some 66) #[true, true, true, true, true, true, true, true, true, true, true, false, true, true, true, true, true, true, true, false, false, false, false, false, false] rfl rfl HT_.out HW_.out hHeld (Or.inl ⟨by rfl, by rintro w' ⟨s0, s1⟩; go_simp; with_reducible rfl⟩) ?_
           refine one_ (i := 11) (N := some 62) #[true, true, true, true, true, true, true, true, true, true, true, true, true, true, true, true, true, true, true, false, false, false, false, false, false] rfl rfl (one_of HT_.out (by kernel_rfl)) (by decide) (fun K hK => ?_)
           refine goes_ Try.func58 (by kernel_rfl) rfl #[.int .i64 a0, .slice (some ad615) l1.length c1, .int .i64 x9_2] (by rfl) rfl rfl av ?_
           with_reducible refine (impl_path.calls k2 a0 _ _ l1 x9_2 t619 _ ?side1 ?side2 A23.out).mono ?_
           (case side1 => exact cv ((Kd.C_below HR1.out HB.out)))
           (case side2 => exact HC1.out)
           rintro e w28 ⟨v620, rfl, ho0, hb⟩
           refine ⟨_, rfl, ?_⟩
           have n0_ := am (Kd.R_lower ho0 (below_size (b1 GE605.out)))
           have n1_ := am (blk_below (g := gb605) (o := .cells #[.slice none 0 0, .slice none 0 0] 33 (0, 0)) (mb BK605.out) hb)
           have n2_ := am (below_step (b1 GE605.out) hb)
           clear BK605
           clear HB
           have HO621 := n0_
           have BK605 := n1_
           have HB := n2_
           clear n0_ n1_ n2_
           (try clear hb)
           (try clear hb2)
           (try clear hk)
           (try clear hi)
           (try clear ho0)
           refine hK.out _ _ ⟨((HB.out.cell (World.block_lt_of_cell? w _ hw618_0)).trans hw618_0), ((HB.out.cell (World.block_lt_of_cell? w _ hw622_0)).trans hw622_0)⟩ (fun hHeld => ?_)
           clear hK K
           refine nz (N := some 62) ?_
           refine one_ (i := 19) (N := some 70) #[true, true, true, true, true, true, true, true, true, true, true, true, true, true, true, true, true, true, true, true, false, false, false, false, false] rfl rfl (one_of HT_.out (by kernel_rfl)) (by decide) (fun K hK => ?_)
           refine goes_ Try.func58 (by kernel_rfl) rfl #[.int .i64 a0, .slice (some ad616) l2.length c2, .int .i64 x9_2] (by rfl) rfl rfl av ?_
           with_reducible refine (impl_path.calls k2 a0 _ _ l2 x9_2 t623 _ ?side1 ?side2 A24.out).mono ?_
           (case side1 => exact cv ((Kd.C_below HR2.out HB.out)))
           (case side2 => exact HC2.out)
           rintro e w29 ⟨v624, rfl, ho0, hb⟩
           refine ⟨_, rfl, ?_⟩
           have n0_ := am (Kd.R_elder' (mv HO621.out) (Kd.R_base ho0) hb)
           have n1_ := am (Kd.R_lower (Kd.R_new' ho0 (Kd.R_lt (mv HO621.out))) (below_size (b1 GE605.out)))
           have n2_ := am (blk_below (g := gb605) (o := .cells #[.slice none 0 0, .slice none 0 0] 33 (0, 0)) (mb BK605.out) hb)
           have n3_ := am (below_step (b1 GE605.out) hb)
           clear HO621
           clear BK605
           clear HB
           have HO621 := n0_
           have HO625 := n1_
           have BK605 := n2_
           have HB := n3_
           clear n0_ n1_ n2_ n3_
           (try clear hb)
           (try clear hb2)
           (try clear hk)
           (try clear hi)
           (try clear ho0)
           obtain ⟨Ao30, co30, eo30⟩ := Kd.R_slice HO621.out
           (first | subst eo30 | (injection eo30 with f1_ f2_ f3_; have f4_ := f1_.symm; have f5_ := f3_.symm; clear f1_ f2_ f3_; subst f4_; subst f5_))
           obtain ⟨Ao31, co31, eo31⟩ := Kd.R_slice HO625.out
           (first | subst eo31 | (injection eo31 with f1_ f2_ f3_; have f4_ := f1_.symm; have f5_ := f3_.symm; clear f1_ f2_ f3_; subst f4_; subst f5_))
           refine hK.out _ _ ⟨((HB.out.cell (World.block_lt_of_cell? w _ hw618_0)).trans hw618_0), ((HB.out.cell (World.block_lt_of_cell? w _ hw622_0)).trans hw622_0)⟩ (fun hHeld => ?_)
           clear hK K
           refine nz (N := some 70) ?_
           refine one_ (i := 20) (N := some 71) #[true, true, true, true, true, true, true, true, true, true, true, true, true, true, true, true, true, true, true, true, true, false, false, false, false] rfl rfl (one_of HT_.out (by kernel_rfl)) (by decide) (fun K hK => ?_)
           refine goes_ Try.func21 (by kernel_rfl) rfl #[.int .i64 a0, .int .i64 (l1.length : Int), .int .i64 x9_2, .slice A618_0 (rd_L1 l1 x9_2).length c618_0, .slice Ao30 t619.length co30, .slice A622_0 (rd_L1 l2 x9_2).length c622_0, .slice Ao31 t623.length co31] (by rfl) rfl rfl av ?_
           with_reducible refine (impl_FromPaths.calls k2 a0 (l1.length : Int) x9_2 _ _ (rd_L1 l1 x9_2) _ _ t619 _ _ (rd_L1 l2 x9_2) _ _ t623 t626 t629 t632 _ ?side1 ?side2 ?side3 ?side4 ?side5 ?side6 ?side7 ?side8 A25.out).mono ?_
           (case side1 => exact cv ((Kd.C_below HR618_0.out HB.out)))
           (case side2 => exact HC618_0.out)
           (case side3 => exact cv ((Kd.R_reads' HO621.out).2.2))
           (case side4 => exact (Kd.R_reads' HO621.out).2.1)
           (case side5 => exact cv ((Kd.C_below HR622_0.out HB.out)))
           (case side6 => exact HC622_0.out)
           (case side7 => exact cv ((Kd.R_reads' HO625.out).2.2))
           (case side8 => exact (Kd.R_reads' HO625.out).2.1)
           rintro e w32 ⟨v627, v630, rfl, ho0, ho1, hb⟩
           refine ⟨_, rfl, ?_⟩
           have n0_ := am (Kd.R_below (mv HO621.out) hb)
           have n1_ := am (Kd.R_below (mv HO625.out) hb)
           have n2_ := am (Kd.R_lower ho0 (below_size (b1 GE605.out)))
           have n3_ := am (Kd.R_lower ho1 (below_size (b1 GE605.out)))
           have n4_ := am (blk_below (g := gb605) (o := .cells #[.slice none 0 0, .slice none 0 0] 33 (0, 0)) (mb BK605.out) hb)
           have n5_ := am (below_step (b1 GE605.out) hb)
           clear HO621
           clear HO625
           clear BK605
           clear HB
           have HO621 := n0_
           have HO625 := n1_
           have HO628 := n2_
           have HO631 := n3_
           have BK605 := n4_
           have HB := n5_
           clear n0_ n1_ n2_ n3_ n4_ n5_
           (try clear hb)
           (try clear hb2)
           (try clear hk)
           (try clear hi)
           (try clear ho0)
           (try clear ho1)
           obtain ⟨Ao33, co33, eo33⟩ := Kd.R_slice HO628.out
           (first | subst eo33 | (injection eo33 with f1_ f2_ f3_; have f4_ := f1_.symm; have f5_ := f3_.symm; clear f1_ f2_ f3_; subst f4_; subst f5_))
           obtain ⟨Ao35, co35, eo35⟩ := Kd.R_slice HO631.out
           (first | subst eo35 | (injection eo35 with f1_ f2_ f3_; have f4_ := f1_.symm; have f5_ := f3_.symm; clear f1_ f2_ f3_; subst f4_; subst f5_))
           refine hK.out _ _ ⟨((HB.out.cell (World.block_lt_of_cell? w _ hw618_0)).trans hw618_0), ((HB.out.cell (World.block_lt_of_cell? w _ hw622_0)).trans hw622_0)⟩ (fun hHeld => ?_)
           clear hK K
           refine nz (N := some 71) ?_
           refine pz (i := 21) (N := some 72) #[true, true, true, true, true, true, true, true, true, true, true, true, true, true, true, true, true, true, true, true, true, true, false, false, false] rfl rfl HT_.out ?_
           refine pz (i := 22) (N := some 73) #[true, true, true, true, true, true, true, true, true, true, true, true, true, true, true, true, true, true, true, true, true, true, true, false, false] rfl rfl HT_.out ?_
           refine one_ (i := 23) (N := none) #[true, true, true, true, true, true, true, true, true, true, true, true, true, true, true, true, true, true, true, true, true, true, true, true, false] rfl rfl (one_of HT_.out (by kernel_rfl)) (by decide) (fun K hK => ?_)
           have hs34 : w32.cell? ⟨gb605, 0, none⟩ = some (.slice none 0 0) := (blk_cell BK605.out 0).trans rfl
           have hfs34 := blk_frozen BK605.out 0
           have hs36 : w32.cell? ⟨gb605, 1, none⟩ = some (.slice none 0 0) := (blk_cell BK605.out 1).trans rfl
           have hfs36 := blk_frozen BK605.out 1
           refine skip_ (w1 := ?_) (by rfl) rfl ?_ ?_
           rotate_left
           ·go_simp
            rfl
           refine hK.out _ _ ⟨((cell_far (p := ⟨gb605, _, none⟩) (by first | exact Nat.ne_of_lt (Nat.lt_of_lt_of_le (by have := World.block_lt_of_cell? _ _ hw618_0; first | rwa [add_block] at this | exact this) GW605.out) | (rw [add_block]; exact Nat.ne_of_lt (Nat.lt_of_lt_of_le (by have := World.block_lt_of_cell? _ _ hw618_0; first | rwa [add_block] at this | exact this) GW605.out)) | (show (Addr.add _ _).block ≠ _; rw [add_block]; exact Nat.ne_of_lt (Nat.lt_of_lt_of_le (by have := World.block_lt_of_cell? _ _ hw618_0; first | rwa [add_block] at this | exact this) GW605.out)) | (dsimp only; exact Nat.ne_of_lt (Nat.lt_of_lt_of_le (by have := World.block_lt_of_cell? _ _ hw618_0; first | rwa [add_block] at this | exact this) GW605.out))) _).trans (((cell_far (p := ⟨gb605, _, none⟩) (by first | exact Nat.ne_of_lt (Nat.lt_of_lt_of_le (by have := World.block_lt_of_cell? _ _ hw618_0; first | rwa [add_block] at this | exact this) GW605.out) | (rw [add_block]; exact Nat.ne_of_lt (Nat.lt_of_lt_of_le (by have := World.block_lt_of_cell? _ _ hw618_0; first | rwa [add_block] at this | exact this) GW605.out)) | (show (Addr.add _ _).block ≠ _; rw [add_block]; exact Nat.ne_of_lt (Nat.lt_of_lt_of_le (by have := World.block_lt_of_cell? _ _ hw618_0; first | rwa [add_block] at this | exact this) GW605.out)) | (dsimp only; exact Nat.ne_of_lt (Nat.lt_of_lt_of_le (by have := World.block_lt_of_cell? _ _ hw618_0; first | rwa [add_block] at this | exact this) GW605.out))) _).trans (hHeld.1)))), ((cell_far (p := ⟨gb605, _, none⟩) (by first | exact Nat.ne_of_lt (Nat.lt_of_lt_of_le (by have := World.block_lt_of_cell? _ _ hw622_0; first | rwa [add_block] at this | exact this) GW605.out) | (rw [add_block]; exact Nat.ne_of_lt (Nat.lt_of_lt_of_le (by have := World.block_lt_of_cell? _ _ hw622_0; first | rwa [add_block] at this | exact this) GW605.out)) | (show (Addr.add _ _).block ≠ _; rw [add_block]; exact Nat.ne_of_lt (Nat.lt_of_lt_of_le (by have := World.block_lt_of_cell? _ _ hw622_0; first | rwa [add_block] at this | exact this) GW605.out)) | (dsimp only; exact Nat.ne_of_lt (Nat.lt_of_lt_of_le (by have := World.block_lt_of_cell? _ _ hw622_0; first | rwa [add_block] at this | exact this) GW605.out))) _).trans (((cell_far (p := ⟨gb605, _, none⟩) (by first | exact Nat.ne_of_lt (Nat.lt_of_lt_of_le (by have := World.block_lt_of_cell? _ _ hw622_0; first | rwa [add_block] at this | exact this) GW605.out) | (rw [add_block]; exact Nat.ne_of_lt (Nat.lt_of_lt_of_le (by have := World.block_lt_of_cell? _ _ hw622_0; first | rwa [add_block] at this | exact this) GW605.out)) | (show (Addr.add _ _).block ≠ _; rw [add_block]; exact Nat.ne_of_lt (Nat.lt_of_lt_of_le (by have := World.block_lt_of_cell? _ _ hw622_0; first | rwa [add_block] at this | exact this) GW605.out)) | (dsimp only; exact Nat.ne_of_lt (Nat.lt_of_lt_of_le (by have := World.block_lt_of_cell? _ _ hw622_0; first | rwa [add_block] at this | exact this) GW605.out))) _).trans (hHeld.2))))⟩ (fun hHeld => ?_)
           clear hK K
           refine pz (i := 24) (N := some 7) #[true, true, true, true, true, true, true, true, true, true, true, true, true, true, true, true, true, true, true, true, true, true, true, true, true] rfl rfl HT_.out ?_
           refine done_ (done_of HT_.out (by kernel_rfl)) ?_
           (try simp only [Dig.setCell_drewN])
           try go_wp2
           refine bodyPost_ret (results_ct rfl _ _ gb605 33 #[.slice Ao33 t626.length co33, .slice Ao35 t629.length co35] (0, 0) _ rfl (by (with_reducible repeat (first | refine blk_drewN ?_ _ | refine blk_drew ?_ | refine blk_alloc ?_ _)); refine blk_put (cs := #[.slice Ao33 t626.length co33, .slice none 0 0]) ?_ 1 _ rfl; (with_reducible repeat (first | refine blk_drewN ?_ _ | refine blk_drew ?_ | refine blk_alloc ?_ _)); refine blk_put (cs := #[.slice none 0 0, .slice none 0 0]) ?_ 0 _ rfl; (with_reducible repeat (first | refine blk_drewN ?_ _ | refine blk_drew ?_ | refine blk_alloc ?_ _)); exact BK605.out) Try.underlying33 rfl (by kernel_rfl)) rfl ?_
           exact ⟨_, _, by first | rfl | (simp [errW_none, errW_some] <;> rfl) | (simp [*, errW_none, errW_some] <;> rfl), by (with_reducible repeat (first | apply Kd.R_alloc | apply Kd.R_drewN | apply Kd.R_drew)); exact Kd.R_mono (Kd.R_far (p := ⟨gb605, 1, none⟩) (Kd.R_far (p := ⟨gb605, 0, none⟩) (Kd.R_types HO628.out BK605.out (by decide)) (fun _ hk => hk.2) (.slice Ao33 t626.length co33)) (fun _ hk => hk.2) (.slice Ao35 t629.length co35)) (fun _ hk => hk.1), by (with_reducible repeat (first | apply Kd.R_alloc | apply Kd.R_drewN | apply Kd.R_drew)); exact Kd.R_mono (Kd.R_far (p := ⟨gb605, 1, none⟩) (Kd.R_far (p := ⟨gb605, 0, none⟩) (Kd.R_types HO631.out BK605.out (by decide)) (fun _ hk => hk.2) (.slice Ao33 t626.length co33)) (fun _ hk => hk.2) (.slice Ao35 t629.length co35)) (fun _ hk => hk.1), b1 GE605.out⟩
         ·rw [if_neg c19] at H
          exact absurd H (by simp)
        ·rw [if_neg c18] at H
         exact absurd H (by simp)
       ·rw [if_neg c17] at H
        exact absurd H (by simp)
    ·rw [if_neg c16] at H
     have c16b0 : ((l1.length : Int) == (l2.length : Int)) = false := beq_eq_false_iff_ne.mpr c16
     have c16b1 : ((l1.length : Int) != (l2.length : Int)) = true := bne_iff_ne.mpr c16
     have c16b2 : (l1.length == l2.length) = false := by first | simpa using c16 | (simp at c16 ⊢; omega)
     replace H := Option.bind_eq_some_iff.mp H
     obtain ⟨t609, A370, H⟩ := H
     (try dsimp -simprocs only at H)
     have A37 := am A370
     clear A370
     replace H := Option.bind_eq_some_iff.mp H
     obtain ⟨t612, A380, H⟩ := H
     (try dsimp -simprocs only at H)
     have A38 := am A380
     clear A380
     simp only [Option.some.injEq, Prod.mk.injEq] at H
     obtain ⟨rfl, rfl, rfl⟩ := H
     go_wp2_with (first | ((with_reducible refine gate_callee (f := 57) rfl ?_); refine goesL_ (some 35) rfl rfl Try.func57 (by kernel_rfl) rfl #[.int .i64 a0, .slice A1 l1.length c1] rfl av ?_; (with_reducible refine (impl_topOf.calls kj4 a0 _ _ l1 t609 _ ?side1 ?side2 A37.out).mono ?_); (case side1 => exact cv ((Kd.C_below HR1.out HB.out))); (case side2 => exact HC1.out); rintro e w39 ⟨v610, rfl, ho0, hb⟩; refine ⟨_, rfl, ?_⟩; have HO611 := am (Kd.R_lower ho0 (below_size (b1 GE605.out))); replace BK605 := am (blk_below (g := gb605) (o := .cells #[.slice none 0 0, .slice none 0 0] 33 (0, 0)) (mb BK605.out) hb); replace HB := am (below_step (b1 GE605.out) hb); (try clear hb); (try clear hb2); (try clear hk); (try clear hi); (try clear ho0)) | ((with_reducible refine gate_callee (f := 57) rfl ?_); refine goesL_ (some 38) rfl rfl Try.func57 (by kernel_rfl) rfl #[.int .i64 a0, .slice A2 l2.length c2] rfl av ?_; (with_reducible refine (impl_topOf.calls kj4 a0 _ _ l2 t612 _ ?side1 ?side2 A38.out).mono ?_); (case side1 => exact cv ((Kd.C_below HR2.out HB.out))); (case side2 => exact HC2.out); rintro e w40 ⟨v613, rfl, ho0, hb⟩; refine ⟨_, rfl, ?_⟩; have HO614 := am (Kd.R_lower (Kd.R_new' ho0 (Kd.R_lt (mv HO611.out))) (below_size (b1 GE605.out))); replace HO611 := am (Kd.R_elder' (mv HO611.out) (Kd.R_base ho0) hb); replace BK605 := am (blk_below (g := gb605) (o := .cells #[.slice none 0 0, .slice none 0 0] 33 (0, 0)) (mb BK605.out) hb); replace HB := am (below_step (b1 GE605.out) hb); (try clear hb); (try clear hb2); (try clear hk); (try clear hi); (try clear ho0); obtain ⟨Ao41, co41, eo41⟩ := Kd.R_slice HO614.out; subst eo41; obtain ⟨Ao42, co42, eo42⟩ := Kd.R_slice HO611.out; subst eo42; have hcz43_0 : w40.cell? ⟨gb605, 0, none⟩ = some (.slice none 0 0) := (blk_cell BK605.out 0).trans rfl; have hcz43_1 : w40.cell? ⟨gb605, 1, none⟩ = some (.slice none 0 0) := (blk_cell BK605.out 1).trans rfl; have hfz43_0 := blk_frozen BK605.out 0; have hfz43_1 := blk_frozen BK605.out 1))
     refine bodyPost_ret (results_ct rfl _ _ gb605 33 #[.slice Ao42 t609.length co42, .slice Ao41 t612.length co41] (0, 0) _ rfl (by (with_reducible repeat (first | refine blk_drewN ?_ _ | refine blk_drew ?_ | refine blk_alloc ?_ _)); refine blk_put (cs := #[.slice Ao42 t609.length co42, .slice none 0 0]) ?_ 1 _ rfl; (with_reducible repeat (first | refine blk_drewN ?_ _ | refine blk_drew ?_ | refine blk_alloc ?_ _)); refine blk_put (cs := #[.slice none 0 0, .slice none 0 0]) ?_ 0 _ rfl; (with_reducible repeat (first | refine blk_drewN ?_ _ | refine blk_drew ?_ | refine blk_alloc ?_ _)); exact BK605.out) Try.underlying33 rfl (by kernel_rfl)) rfl ?_
     exact ⟨_, _, by first | rfl | (simp [errW_none, errW_some] <;> rfl) | (simp [*, errW_none, errW_some] <;> rfl), by (with_reducible repeat (first | apply Kd.R_alloc | apply Kd.R_drewN | apply Kd.R_drew)); exact Kd.R_mono (Kd.R_far (p := ⟨gb605, 1, none⟩) (Kd.R_far (p := ⟨gb605, 0, none⟩) (Kd.R_types HO611.out BK605.out (by decide)) (fun _ hk => hk.2) (.slice Ao42 t609.length co42)) (fun _ hk => hk.2) (.slice Ao41 t612.length co41)) (fun _ hk => hk.1.2), by (with_reducible repeat (first | apply Kd.R_alloc | apply Kd.R_drewN | apply Kd.R_drew)); exact Kd.R_mono (Kd.R_far (p := ⟨gb605, 1, none⟩) (Kd.R_far (p := ⟨gb605, 0, none⟩) (Kd.R_types HO614.out BK605.out (by decide)) (fun _ hk => hk.2) (.slice Ao42 t609.length co42)) (fun _ hk => hk.2) (.slice Ao41 t612.length co41)) (fun _ hk => hk.1.2), b1 GE605.out⟩

end Go.Proofs.Ytchjajbkaiefdaa.PFnForgery
