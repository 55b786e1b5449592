-- Written by a program of this workplace (wip/mp.py) out of the translation.
import Derived.Test.YtchjajbkaiefdaaPFnClaimsx0
import Derived.Test.YtchjajbkaiefdaaPFnClaimsx9
import Derived.Test.YtchjajbkaiefdaaPFnClaimsx10
import Derived.Test.YtchjajbkaiefdaaPFnClaimsx11
namespace Go.Proofs.Ytchjajbkaiefdaa.PFnClaims
open Go.RowKit Go.Proofs.YtchjajbkaiefdaaW.PrintWords Go.Proofs.YtchjajbkaiefdaaW.PrintLast Go.Proofs.YtchjajbkaiefdaaW.PrintMore Go.Proofs.Ytchjajbkaiefdaa.Slim
attribute [local go_sem] max2_int min2_int max_two min_two max_three min_three max_four min_four   -- for this text's walks alone
set_option linter.unusedVariables false
set_option linter.unusedSimpArgs false

/-! ### impl_Liar: function 12 -/
def impl_Liar.f (k : Nat) (a0 : Int) (l1 : List (List Int)) (a2_0 : Int) (a2_1 : Int) (l2_2 : List Int) (l2_3 : List Int) : Option (List Int × List Int × Bool) := (impl_TreeRoot.f k a0 l1).bind fun t607 => ((impl_Proven.f k a0 t607 a2_0 a2_1 l2_2 l2_3).bind fun t608 => (if t608 = true then (if a2_0 = (l1.length : Int) then (if 0 ≤ a2_1 then (if a2_1 < (l1.length : Int) then ((impl_path.f k a0 l1 a2_1).bind fun t610 => ((impl_FromPaths.f k a0 a2_0 a2_1 (rd_L2 l1 a2_1) t610 l2_2 l2_3).bind fun bt613 => (some (bt613.1, bt613.2.1, bt613.2.2)))) else (none)) else (none)) else ((impl_climb.f k a0 a2_0 a2_1 l2_2 l2_3).bind fun bt620 => ((impl_topOf.f k a0 l1).bind fun t624 => (if 0 ≤ (wrap64 ((bt620.1.length : Int) - 1)) then (if (wrap64 ((bt620.1.length : Int) - 1)) < (bt620.1.length : Int) then (some (t624, rd_L2 bt620.1 (wrap64 ((bt620.1.length : Int) - 1)), true)) else (none)) else (none))))) else (some (([] : List Int), ([] : List Int), false))))
def impl_Liar.T1 : Bool × List (List Nat × List Nat) := (true, [([], []), ([], []), ([], []), ([1, 2], [1, 2]), ([], []), ([4], [4]), ([], []), ([6], [6]), ([], []), ([8], [8]), ([], []), ([10], [10]), ([0, 3, 5, 7, 9, 11, 3], [0, 3, 5, 7, 9, 11]), ([12], [12])])
def impl_Liar.B1 : List Nat := [0, 0, 0, 6, 0, 16, 0, 64, 0, 256, 0, 1024, 4095, 8191]
theorem impl_Liar.tab1 : rtab .any (opsOf Try.f12 1) = impl_Liar.T1 := by kernel_rfl
theorem impl_Liar.bits1 : waitsOk impl_Liar.T1.2 impl_Liar.B1 = true := by kernel_rfl
def impl_Liar.T4 : Bool × List (List Nat × List Nat) := (true, [([], []), ([], []), ([1], [1]), ([], []), ([3], [3]), ([], []), ([], []), ([6], [6]), ([5, 7], [5, 7]), ([8], [8]), ([], []), ([], []), ([], []), ([12], [12]), ([10, 11, 13], [10, 11, 13]), ([], []), ([15], [15]), ([], []), ([17], [17]), ([0, 2, 4, 9, 14, 16, 18, 14], [0, 2, 4, 9, 14, 16, 18]), ([19], [19]), ([19], [19]), ([20, 19, 0, 1, 2, 3, 4, 5, 6, 7, 8, 9, 10, 11, 12, 13, 14, 15, 16, 17, 18, 19, 20, 21], [20]), ([21, 22, 0, 1, 2, 3, 4, 5, 6, 7, 8, 9, 10, 11, 12, 13, 14, 15, 16, 17, 18, 19, 20, 21, 22], [21])])
def impl_Liar.B4 : List Nat := [0, 0, 2, 0, 8, 0, 0, 64, 224, 480, 0, 0, 0, 4096, 15360, 0, 32768, 0, 131072, 524287, 1048575, 1048575, 4194303, 8388607]
theorem impl_Liar.tab4 : rtab .any (opsOf Try.f12 4) = impl_Liar.T4 := by kernel_rfl
theorem impl_Liar.bits4 : waitsOk impl_Liar.T4.2 impl_Liar.B4 = true := by kernel_rfl
def impl_Liar.T6 : Bool × List (List Nat × List Nat) := (true, [([], []), ([], []), ([0, 1], [0, 1]), ([], []), ([], []), ([4], [4]), ([5], [5]), ([3, 6], [3, 6]), ([7], [7]), ([2, 8], [2, 8]), ([9, 2, 0, 1, 2, 3, 4, 5, 6, 7, 8, 9], [9]), ([10, 0, 1, 2, 3, 4, 5, 6, 7, 8, 9, 10], [])])
def impl_Liar.B6 : List Nat := [0, 0, 3, 0, 0, 16, 48, 120, 248, 511, 1023, 2047]
theorem impl_Liar.tab6 : rtab .any (opsOf Try.f12 6) = impl_Liar.T6 := by kernel_rfl
theorem impl_Liar.bits6 : waitsOk impl_Liar.T6.2 impl_Liar.B6 = true := by kernel_rfl
set_option maxHeartbeats 8000000 in
set_option maxRecDepth 100000 in
theorem impl_Liar.calls (k : Nat) (a0 : Int) (A1 : Option Addr) (c1 : Nat) (l1 : List (List Int)) (a2_0 : Int) (a2_1 : Int) (A2_2 : Option Addr) (c2_2 : Nat) (l2_2 : List Int) (A2_3 : Option Addr) (c2_3 : Nat) (l2_3 : List Int) (r1 : List Int) (r2 : List Int) (r3 : Bool) (w : World) (hr1 : Kd.C (Kd.slice 5 (Kd.int .u8)) w A1 l1.length l1) (hc1 : l1.length ≤ c1) (hr2_2 : Kd.C (Kd.int .u8) w A2_2 l2_2.length l2_2) (hc2_2 : l2_2.length ≤ c2_2) (hr2_3 : Kd.C (Kd.int .i64) w A2_3 l2_3.length l2_3) (hc2_3 : l2_3.length ≤ c2_3) (h : impl_Liar.f k a0 l1 a2_0 a2_1 l2_2 l2_3 = some (r1, r2, r3)) :
  Calls Try.prog 12 #[.int .i64 a0, .slice A1 l1.length c1, .agg #[.int .i64 a2_0, .int .i64 a2_1, .slice A2_2 l2_2.length c2_2, .slice A2_3 l2_3.length c2_3]] w fun e w' => ∃ v0_ v1_ : Value, e = .returned (.tuple #[.agg #[v0_, v1_], .bool r3]) ∧ Kd.R (Kd.int .u8) 5 w' w.heap.size (fun k_ => some k_ ≠ (v1_ : Value).ownBlock) v0_ r1 ∧ Kd.R (Kd.int .u8) 5 w' w.heap.size (fun k_ => some k_ ≠ (v0_ : Value).ownBlock) v1_ r2 ∧ Below w.heap.size w w' := by
 have hu31 := Try.underlying31
 have hu33 := Try.underlying33
 have HR1 := Aside0.mk hr1
 have HC1 := Aside0.mk hc1
 clear hr1 hc1
 have HR2_2 := Aside0.mk hr2_2
 have HC2_2 := Aside0.mk hc2_2
 clear hr2_2 hc2_2
 have HR2_3 := Aside0.mk hr2_3
 have HC2_3 := Aside0.mk hc2_3
 clear hr2_3 hc2_3
 have HB := Aside0.mk (Below.refl w.heap.size w)
 have H : ((impl_TreeRoot.f k a0 l1).bind fun t607 => ((impl_Proven.f k a0 t607 a2_0 a2_1 l2_2 l2_3).bind fun t608 => (if t608 = true then (if a2_0 = (l1.length : Int) then (if 0 ≤ a2_1 then (if a2_1 < (l1.length : Int) then ((impl_path.f k a0 l1 a2_1).bind fun t610 => ((impl_FromPaths.f k a0 a2_0 a2_1 (rd_L2 l1 a2_1) t610 l2_2 l2_3).bind fun bt613 => (some (bt613.1, bt613.2.1, bt613.2.2)))) else (none)) else (none)) else ((impl_climb.f k a0 a2_0 a2_1 l2_2 l2_3).bind fun bt620 => ((impl_topOf.f k a0 l1).bind fun t624 => (if 0 ≤ (wrap64 ((bt620.1.length : Int) - 1)) then (if (wrap64 ((bt620.1.length : Int) - 1)) < (bt620.1.length : Int) then (some (t624, rd_L2 bt620.1 (wrap64 ((bt620.1.length : Int) - 1)), true)) else (none)) else (none))))) else (some (([] : List Int), ([] : List Int), false))))) = some (r1, r2, r3) := h
 clear h
 replace H := Option.bind_eq_some_iff.mp H
 obtain ⟨t607, A40, H⟩ := H
 (try dsimp -simprocs only at H)
 have A4 := Aside0.mk A40
 clear A40
 replace H := Option.bind_eq_some_iff.mp H
 obtain ⟨t608, A50, H⟩ := H
 (try dsimp -simprocs only at H)
 have A5 := Aside0.mk A50
 clear A50
 by_cases c6 : t608 = true
 ·subst c6
  rw [if_pos rfl] at H
  by_cases c7 : a2_0 = (l1.length : Int)
  ·rw [if_pos c7] at H
   have c7b0 : (a2_0 == (l1.length : Int)) = true := beq_iff_eq.mpr c7
   have c7b1 : (a2_0 != (l1.length : Int)) = false := bne_eq_false_iff_eq.mpr c7
   clear c7
   by_cases c8 : 0 ≤ a2_1
   ·rw [if_pos c8] at H
    have c8b0 : decide (0 ≤ a2_1) = true := decide_eq_true c8
    clear c8
    by_cases c9 : a2_1 < (l1.length : Int)
    ·rw [if_pos c9] at H
     have c9b0 : decide (a2_1 < (l1.length : Int)) = true := decide_eq_true c9
     clear c9
     replace H := Option.bind_eq_some_iff.mp H
     obtain ⟨t610, A100, H⟩ := H
     (try dsimp -simprocs only at H)
     have A10 := Aside0.mk A100
     clear A100
     replace H := Option.bind_eq_some_iff.mp H
     obtain ⟨⟨t613, t616, t619⟩, A110, H⟩ := H
     (try dsimp -simprocs only at H)
     have A11 := Aside0.mk A110
     clear A110
     simp only [Option.some.injEq, Prod.mk.injEq] at H
     obtain ⟨rfl, rfl, rfl⟩ := H
     go_enter Try.func12, Try.ntmps12
     try go_wp2_with (first | ((with_reducible refine gate_dst (N := 5) rfl ?_); refine box_event ?hg (N := 5) ?hd (cs := #[.int .i64 a2_0, .int .i64 a2_1, .slice A2_2 l2_2.length c2_2, .slice A2_3 l2_3.length c2_3]) (t := 31) ?hr ?_; (case hd => rfl); (case hg => rfl); (case hr => first | (go_simp; done) | (go_simp; rfl)); intro gb605 hg w12 hbox hb; have BK605 := Aside0.mk (hbox); have GW605 := Aside0.mk ((by rw [hg]; exact (below_size (bt)) : w.heap.size ≤ gb605)); have GE605 := Aside0.mk ((by rw [hg]; exact (below_size (bt)) : w.heap.size ≤ gb605)); replace HB := Aside0.mk (below_step (bt) hb); clear hb hbox hg) | ((with_reducible refine gate_dst (N := 6) rfl ?_); refine box_event ?hg (N := 6) ?hd (cs := #[.slice none 0 0, .slice none 0 0]) (t := 33) ?hr ?_; (case hd => rfl); (case hg => rfl); (case hr => first | (go_simp; done) | (go_simp; rfl)); intro gb606 hg w13 hbox hb; have BK606 := Aside0.mk (hbox); have GW606 := Aside0.mk ((by rw [hg]; exact (below_size (b1 GE605.out)) : w.heap.size ≤ gb606)); have GE606 := Aside0.mk ((by rw [hg]; exact (below_size (b1 GE605.out)) : w.heap.size ≤ gb606)); replace HB := Aside0.mk (below_step (b1 GE605.out) hb); have NB605_606 := Aside0.mk ((by rw [hg]; exact Nat.ne_of_lt (blk_lt (g := gb605) (o := .cells #[.int .i64 a2_0, .int .i64 a2_1, .slice A2_2 l2_2.length c2_2, .slice A2_3 l2_3.length c2_3] 31 (0, 0)) (mb BK605.out)) : gb605 ≠ gb606)); have NB606_605 := Aside0.mk ((by rw [hg]; exact Nat.ne_of_gt (blk_lt (g := gb605) (o := .cells #[.int .i64 a2_0, .int .i64 a2_1, .slice A2_2 l2_2.length c2_2, .slice A2_3 l2_3.length c2_3] 31 (0, 0)) (mb BK605.out)) : gb606 ≠ gb605)); replace BK605 := Aside0.mk (blk_below (g := gb605) (o := .cells #[.int .i64 a2_0, .int .i64 a2_1, .slice A2_2 l2_2.length c2_2, .slice A2_3 l2_3.length c2_3] 31 (0, 0)) (mb BK605.out) hb); clear hb hbox hg))
     have n0_ := Aside0.mk (blk_drew BK605.out)
     have n1_ := Aside0.mk (blk_drew BK606.out)
     have n2_ := Aside0.mk (below_drew1 HB.out)
     clear BK605
     clear BK606
     clear HB
     have BK605 := n0_
     have BK606 := n1_
     have HB := n2_
     clear n0_ n1_ n2_
     refine start_ (n := 14) (S := fun w' => w'.cell? ⟨gb605, 0, none⟩ = some (.int .i64 a2_0) ∧ w'.cell? ⟨gb605, 1, none⟩ = some (.int .i64 a2_1) ∧ w'.cell? ⟨gb605, 2, none⟩ = some (.slice A2_2 l2_2.length c2_2) ∧ w'.cell? ⟨gb605, 3, none⟩ = some (.slice A2_3 l2_3.length c2_3)) (ds := []) #[false, false, false, false, false, false, false, false, false, false, false, false, false, false] (by kernel_rfl) rfl rfl ⟨(blk_cell BK605.out 0).trans rfl, (blk_cell BK605.out 1).trans rfl, (blk_cell BK605.out 2).trans rfl, (blk_cell BK605.out 3).trans rfl⟩ (fun hHeld => ?_); refine with_tabW impl_Liar.tab1 impl_Liar.bits1 (fun HT_ HW_ => ?_)
     generalize w13.drew = w14 at BK605 BK606 HB hHeld ⊢
     refine pz (i := 0) (N := some 10) #[true, false, false, false, false, false, false, false, false, false, false, false, false, false] rfl rfl HT_.out ?_
     refine pz (i := 1) (N := some 11) #[true, true, false, false, false, false, false, false, false, false, false, false, false, false] rfl rfl HT_.out ?_
     refine pz (i := 2) (N := some 12) #[true, true, true, false, false, false, false, false, false, false, false, false, false, false] rfl rfl HT_.out ?_
     refine pz (i := 4) (N := some 14) #[true, true, true, false, true, false, false, false, false, false, false, false, false, false] rfl rfl HT_.out ?_
     refine pz (i := 6) (N := some 16) #[true, true, true, false, true, false, true, false, false, false, false, false, false, false] rfl rfl HT_.out ?_
     refine pz (i := 8) (N := some 18) #[true, true, true, false, true, false, true, false, true, false, false, false, false, false] rfl rfl HT_.out ?_
     refine pz (i := 10) (N := some 20) #[true, true, true, false, true, false, true, false, true, false, true, false, false, false] rfl rfl HT_.out ?_
     refine tz (i := 5) (N := some 15) #[true, true, true, false, true, true, true, false, true, false, true, false, false, false] rfl rfl HT_.out HW_.out hHeld (Or.inl ⟨by rfl, by rintro w' ⟨s0, s1, s2, s3⟩; go_simp; with_reducible rfl⟩) ?_
     refine tz (i := 7) (N := some 17) #[true, true, true, false, true, true, true, true, true, false, true, false, false, false] rfl rfl HT_.out HW_.out hHeld (Or.inl ⟨by rfl, by rintro w' ⟨s0, s1, s2, s3⟩; go_simp; with_reducible rfl⟩) ?_
     refine tz (i := 9) (N := some 19) #[true, true, true, false, true, true, true, true, true, true, true, false, false, false] rfl rfl HT_.out HW_.out hHeld (Or.inl ⟨by rfl, by rintro w' ⟨s0, s1, s2, s3⟩; go_simp; with_reducible rfl⟩) ?_
     refine tz (i := 11) (N := some 21) #[true, true, true, false, true, true, true, true, true, true, true, true, false, false] rfl rfl HT_.out HW_.out hHeld (Or.inl ⟨by rfl, by rintro w' ⟨s0, s1, s2, s3⟩; go_simp; with_reducible rfl⟩) ?_
     refine one_ (i := 3) (N := some 13) #[true, true, true, true, true, true, true, true, true, true, true, true, false, false] rfl rfl (one_of HT_.out (by kernel_rfl)) (by decide) (fun K hK => ?_)
     refine goes_ Try.func11 (by kernel_rfl) rfl #[.int .i64 a0, .slice A1 l1.length c1] (by rfl) rfl rfl av ?_
     with_reducible refine (impl_TreeRoot.calls k a0 _ _ l1 t607 _ ?side1 ?side2 A4.out).mono ?_
     (case side1 => exact cv ((Kd.C_below HR1.out HB.out)))
     (case side2 => exact HC1.out)
     rintro e w15 ⟨rfl, hb⟩
     refine ⟨_, rfl, ?_⟩
     have n0_ := Aside0.mk (blk_below (g := gb605) (o := .cells #[.int .i64 a2_0, .int .i64 a2_1, .slice A2_2 l2_2.length c2_2, .slice A2_3 l2_3.length c2_3] 31 (0, 0)) (mb BK605.out) hb)
     have n1_ := Aside0.mk (blk_below (g := gb606) (o := .cells #[.slice none 0 0, .slice none 0 0] 33 (0, 0)) (mb BK606.out) hb)
     have n2_ := Aside0.mk (below_step (b2 GE605.out GE606.out) hb)
     clear BK605
     clear BK606
     clear HB
     have BK605 := n0_
     have BK606 := n1_
     have HB := n2_
     clear n0_ n1_ n2_
     (try clear hb)
     (try clear hb2)
     (try clear hk)
     (try clear hi)
     refine hK.out _ _ ⟨(blk_cell BK605.out 0).trans rfl, (blk_cell BK605.out 1).trans rfl, (blk_cell BK605.out 2).trans rfl, (blk_cell BK605.out 3).trans rfl⟩ (fun hHeld => ?_)
     clear hK K
     refine nz (N := some 13) ?_
     refine one_ (i := 12) (N := some 22) #[true, true, true, true, true, true, true, true, true, true, true, true, true, false] rfl rfl (one_of HT_.out (by kernel_rfl)) (by decide) (fun K hK => ?_)
     refine goes_ Try.func14 (by kernel_rfl) rfl #[.int .i64 a0, .int .i64 t607, .int .i64 a2_0, .int .i64 a2_1, .slice A2_2 l2_2.length c2_2, .slice A2_3 l2_3.length c2_3] (by rfl) rfl rfl av ?_
     with_reducible refine (impl_Proven.calls k a0 t607 a2_0 a2_1 _ _ l2_2 _ _ l2_3 true _ ?side1 ?side2 ?side3 ?side4 A5.out).mono ?_
     (case side1 => exact cv ((Kd.C_below HR2_2.out HB.out)))
     (case side2 => exact HC2_2.out)
     (case side3 => exact cv ((Kd.C_below HR2_3.out HB.out)))
     (case side4 => exact HC2_3.out)
     rintro e w16 ⟨rfl, hb⟩
     refine ⟨_, rfl, ?_⟩
     have n0_ := Aside0.mk (blk_below (g := gb605) (o := .cells #[.int .i64 a2_0, .int .i64 a2_1, .slice A2_2 l2_2.length c2_2, .slice A2_3 l2_3.length c2_3] 31 (0, 0)) (mb BK605.out) hb)
     have n1_ := Aside0.mk (blk_below (g := gb606) (o := .cells #[.slice none 0 0, .slice none 0 0] 33 (0, 0)) (mb BK606.out) hb)
     have n2_ := Aside0.mk (below_step (b2 GE605.out GE606.out) hb)
     clear BK605
     clear BK606
     clear HB
     have BK605 := n0_
     have BK606 := n1_
     have HB := n2_
     clear n0_ n1_ n2_
     (try clear hb)
     (try clear hb2)
     (try clear hk)
     (try clear hi)
     refine hK.out _ _ ⟨(blk_cell BK605.out 0).trans rfl, (blk_cell BK605.out 1).trans rfl, (blk_cell BK605.out 2).trans rfl, (blk_cell BK605.out 3).trans rfl⟩ (fun hHeld => ?_)
     clear hK K
     refine nz (N := some 22) ?_
     refine pz (i := 13) (N := some 23) #[true, true, true, true, true, true, true, true, true, true, true, true, true, true] rfl rfl HT_.out ?_
     refine done_ (done_of HT_.out (by kernel_rfl)) ?_
     have hnb17 := NB605_606.out
     have hnc17 := NB606_605.out
     have hcz18_0 : w16.cell? ⟨gb605, 0, none⟩ = some (.int .i64 a2_0) := (blk_cell BK605.out 0).trans rfl
     have hcz18_1 : w16.cell? ⟨gb605, 1, none⟩ = some (.int .i64 a2_1) := (blk_cell BK605.out 1).trans rfl
     have hcz18_2 : w16.cell? ⟨gb605, 2, none⟩ = some (.slice A2_2 l2_2.length c2_2) := (blk_cell BK605.out 2).trans rfl
     have hcz18_3 : w16.cell? ⟨gb605, 3, none⟩ = some (.slice A2_3 l2_3.length c2_3) := (blk_cell BK605.out 3).trans rfl
     have hfz18_0 := blk_frozen BK605.out 0
     have hfz18_1 := blk_frozen BK605.out 1
     have hfz18_2 := blk_frozen BK605.out 2
     have hfz18_3 := blk_frozen BK605.out 3
     try go_wp2
     have n0_ := Aside0.mk (blk_drew BK605.out)
     have n1_ := Aside0.mk (blk_drew BK606.out)
     have n2_ := Aside0.mk (below_drew1 HB.out)
     clear BK605
     clear BK606
     clear HB
     have BK605 := n0_
     have BK606 := n1_
     have HB := n2_
     clear n0_ n1_ n2_
     have p609 : 0 ≤ (a2_1 : Int) := of_decide_eq_true asm
     have q609 : a2_1 < (l1.length : Int) := of_decide_eq_true asm
     obtain ⟨ad609, A609_0, c609_0, e609, hx609_0, hl609_0, hi609_0⟩ := at_L2 HR1.out a2_1 p609 q609
     have hw609_0 := hx609_0
     cases e609
     replace hx609_0 := (HB.out.cell (World.block_lt_of_cell? w _ hx609_0)).trans hx609_0
     have HR609_0 := Aside0.mk hi609_0
     have HC609_0 := Aside0.mk hl609_0
     clear hi609_0 hl609_0
     replace p609 := eq_true p609
     replace q609 := eq_true q609
     refine start_ (n := 24) (S := fun w' => w'.cell? ⟨gb605, 0, none⟩ = some (.int .i64 a2_0) ∧ w'.cell? ⟨gb605, 1, none⟩ = some (.int .i64 a2_1) ∧ w'.cell? ⟨gb605, 2, none⟩ = some (.slice A2_2 l2_2.length c2_2) ∧ w'.cell? ⟨gb605, 3, none⟩ = some (.slice A2_3 l2_3.length c2_3) ∧ w'.cell? (ad609.add (a2_1).toNat) = some (.slice A609_0 (rd_L2 l1 a2_1).length c609_0)) (ds := []) #[false, false, false, false, false, false, false, false, false, false, false, false, false, false, false, false, false, false, false, false, false, false, false, false] (by kernel_rfl) rfl rfl ⟨(blk_cell BK605.out 0).trans rfl, (blk_cell BK605.out 1).trans rfl, (blk_cell BK605.out 2).trans rfl, (blk_cell BK605.out 3).trans rfl, ((HB.out.cell (World.block_lt_of_cell? w _ hw609_0)).trans hw609_0)⟩ (fun hHeld => ?_); refine with_tabW impl_Liar.tab4 impl_Liar.bits4 (fun HT_ HW_ => ?_)
     generalize w16.drew = w19 at BK605 BK606 HB HR609_0 hx609_0 hHeld ⊢
     refine pz (i := 0) (N := some 30) #[true, false, false, false, false, false, false, false, false, false, false, false, false, false, false, false, false, false, false, false, false, false, false, false] rfl rfl HT_.out ?_
     refine pz (i := 1) (N := some 31) #[true, true, false, false, false, false, false, false, false, false, false, false, false, false, false, false, false, false, false, false, false, false, false, false] rfl rfl HT_.out ?_
     refine pz (i := 3) (N := some 33) #[true, true, false, true, false, false, false, false, false, false, false, false, false, false, false, false, false, false, false, false, false, false, false, false] rfl rfl HT_.out ?_
     refine pz (i := 5) (N := some 35) #[true, true, false, true, false, true, false, false, false, false, false, false, false, false, false, false, false, false, false, false, false, false, false, false] rfl rfl HT_.out ?_
     refine pz (i := 6) (N := some 36) #[true, true, false, true, false, true, true, false, false, false, false, false, false, false, false, false, false, false, false, false, false, false, false, false] rfl rfl HT_.out ?_
     refine pz (i := 10) (N := some 40) #[true, true, false, true, false, true, true, false, false, false, true, false, false, false, false, false, false, false, false, false, false, false, false, false] rfl rfl HT_.out ?_
     refine pz (i := 11) (N := some 41) #[true, true, false, true, false, true, true, false, false, false, true, true, false, false, false, false, false, false, false, false, false, false, false, false] rfl rfl HT_.out ?_
     refine pz (i := 12) (N := some 42) #[true, true, false, true, false, true, true, false, false, false, true, true, true, false, false, false, false, false, false, false, false, false, false, false] rfl rfl HT_.out ?_
     refine pz (i := 15) (N := some 45) #[true, true, false, true, false, true, true, false, false, false, true, true, true, false, false, true, false, false, false, false, false, false, false, false] rfl rfl HT_.out ?_
     refine pz (i := 17) (N := some 47) #[true, true, false, true, false, true, true, false, false, false, true, true, true, false, false, true, false, true, false, false, false, false, false, false] rfl rfl HT_.out ?_
     refine tz (i := 2) (N := some 32) #[true, true, true, true, false, true, true, false, false, false, true, true, true, false, false, true, false, true, false, false, false, false, false, false] rfl rfl HT_.out HW_.out hHeld (Or.inl ⟨by rfl, by rintro w' ⟨s0, s1, s2, s3, s4⟩; go_simp; with_reducible rfl⟩) ?_
     refine tz (i := 4) (N := some 34) #[true, true, true, true, true, true, true, false, false, false, true, true, true, false, false, true, false, true, false, false, false, false, false, false] rfl rfl HT_.out HW_.out hHeld (Or.inl ⟨by rfl, by rintro w' ⟨s0, s1, s2, s3, s4⟩; go_simp; with_reducible rfl⟩) ?_
     refine tz (i := 7) (N := some 37) #[true, true, true, true, true, true, true, true, false, false, true, true, true, false, false, true, false, true, false, false, false, false, false, false] rfl rfl HT_.out HW_.out hHeld (Or.inl ⟨by rfl, by rintro w' ⟨s0, s1, s2, s3, s4⟩; go_simp; with_reducible rfl⟩) ?_
     refine pz (i := 8) (N := some 38) #[true, true, true, true, true, true, true, true, true, false, true, true, true, false, false, true, false, true, false, false, false, false, false, false] rfl rfl HT_.out ?_
     refine tz (i := 9) (N := some 39) #[true, true, true, true, true, true, true, true, true, true, true, true, true, false, false, true, false, true, false, false, false, false, false, false] rfl rfl HT_.out HW_.out hHeld (Or.inl ⟨by rfl, by rintro w' ⟨s0, s1, s2, s3, s4⟩; go_simp; with_reducible rfl⟩) ?_
     refine tz (i := 13) (N := some 43) #[true, true, true, true, true, true, true, true, true, true, true, true, true, true, false, true, false, true, false, false, false, false, false, false] rfl rfl HT_.out HW_.out hHeld (Or.inl ⟨by rfl, by rintro w' ⟨s0, s1, s2, s3, s4⟩; go_simp; with_reducible rfl⟩) ?_
     refine tz (i := 16) (N := some 46) #[true, true, true, true, true, true, true, true, true, true, true, true, true, true, false, true, true, true, false, false, false, false, false, false] rfl rfl HT_.out HW_.out hHeld (Or.inl ⟨by rfl, by rintro w' ⟨s0, s1, s2, s3, s4⟩; go_simp; with_reducible rfl⟩) ?_
     refine tz (i := 18) (N := some 48) #[true, true, true, true, true, true, true, true, true, true, true, true, true, true, false, true, true, true, true, false, false, false, false, false] rfl rfl HT_.out HW_.out hHeld (Or.inl ⟨by rfl, by rintro w' ⟨s0, s1, s2, s3, s4⟩; go_simp; with_reducible rfl⟩) ?_
     refine one_ (i := 14) (N := some 44) #[true, true, true, true, true, true, true, true, true, true, true, true, true, true, true, true, true, true, true, false, false, false, false, false] rfl rfl (one_of HT_.out (by kernel_rfl)) (by decide) (fun K hK => ?_)
     refine goes_ Try.func58 (by kernel_rfl) rfl #[.int .i64 a0, .slice (some ad609) l1.length c1, .int .i64 a2_1] (by rfl) rfl rfl av ?_
     with_reducible refine (impl_path.calls k a0 _ _ l1 a2_1 t610 _ ?side1 ?side2 A10.out).mono ?_
     (case side1 => exact cv ((Kd.C_below HR1.out HB.out)))
     (case side2 => exact HC1.out)
     rintro e w20 ⟨v611, rfl, ho0, hb⟩
     refine ⟨_, rfl, ?_⟩
     have n0_ := Aside0.mk (Kd.R_lower ho0 (below_size (b2 GE605.out GE606.out)))
     have n1_ := Aside0.mk (blk_below (g := gb605) (o := .cells #[.int .i64 a2_0, .int .i64 a2_1, .slice A2_2 l2_2.length c2_2, .slice A2_3 l2_3.length c2_3] 31 (0, 0)) (mb BK605.out) hb)
     have n2_ := Aside0.mk (blk_below (g := gb606) (o := .cells #[.slice none 0 0, .slice none 0 0] 33 (0, 0)) (mb BK606.out) hb)
     have n3_ := Aside0.mk (below_step (b2 GE605.out GE606.out) hb)
     clear BK605
     clear BK606
     clear HB
     have HO612 := n0_
     have BK605 := n1_
     have BK606 := n2_
     have HB := n3_
     clear n0_ n1_ n2_ n3_
     (try clear hb)
     (try clear hb2)
     (try clear hk)
     (try clear hi)
     (try clear ho0)
     obtain ⟨Ao21, co21, eo21⟩ := Kd.R_slice HO612.out
     (first | subst eo21 | (injection eo21 with f1_ f2_ f3_; have f4_ := f1_.symm; have f5_ := f3_.symm; clear f1_ f2_ f3_; subst f4_; subst f5_))
     refine hK.out _ _ ⟨(blk_cell BK605.out 0).trans rfl, (blk_cell BK605.out 1).trans rfl, (blk_cell BK605.out 2).trans rfl, (blk_cell BK605.out 3).trans rfl, ((HB.out.cell (World.block_lt_of_cell? w _ hw609_0)).trans hw609_0)⟩ (fun hHeld => ?_)
     clear hK K
     refine nz (N := some 44) ?_
     refine one_ (i := 19) (N := some 49) #[true, true, true, true, true, true, true, true, true, true, true, true, true, true, true, true, true, true, true, true, false, false, false, false] rfl rfl (one_of HT_.out (by kernel_rfl)) (by decide) (fun K hK => ?_)
     refine goes_ Try.func21 (by kernel_rfl) rfl #[.int .i64 a0, .int .i64 a2_0, .int .i64 a2_1, .slice A609_0 (rd_L2 l1 a2_1).length c609_0, .slice Ao21 t610.length co21, .slice A2_2 l2_2.length c2_2, .slice A2_3 l2_3.length c2_3] (by rfl) rfl rfl av ?_
     with_reducible refine (impl_FromPaths.calls k a0 a2_0 a2_1 _ _ (rd_L2 l1 a2_1) _ _ t610 _ _ l2_2 _ _ l2_3 t613 t616 t619 _ ?side1 ?side2 ?side3 ?side4 ?side5 ?side6 ?side7 ?side8 A11.out).mono ?_
     (case side1 => exact cv ((Kd.C_below HR609_0.out HB.out)))
     (case side2 => exact HC609_0.out)
     (case side3 => exact cv ((Kd.R_reads' HO612.out).2.2))
     (case side4 => exact (Kd.R_reads' HO612.out).2.1)
     (case side5 => exact cv ((Kd.C_below HR2_2.out HB.out)))
     (case side6 => exact HC2_2.out)
     (case side7 => exact cv ((Kd.C_below HR2_3.out HB.out)))
     (case side8 => exact HC2_3.out)
     rintro e w22 ⟨v614, v617, rfl, ho0, ho1, hb⟩
     refine ⟨_, rfl, ?_⟩
     have n0_ := Aside0.mk (Kd.R_below (mv HO612.out) hb)
     have n1_ := Aside0.mk (Kd.R_lower ho0 (below_size (b2 GE605.out GE606.out)))
     have n2_ := Aside0.mk (Kd.R_lower ho1 (below_size (b2 GE605.out GE606.out)))
     have n3_ := Aside0.mk (blk_below (g := gb605) (o := .cells #[.int .i64 a2_0, .int .i64 a2_1, .slice A2_2 l2_2.length c2_2, .slice A2_3 l2_3.length c2_3] 31 (0, 0)) (mb BK605.out) hb)
     have n4_ := Aside0.mk (blk_below (g := gb606) (o := .cells #[.slice none 0 0, .slice none 0 0] 33 (0, 0)) (mb BK606.out) hb)
     have n5_ := Aside0.mk (below_step (b2 GE605.out GE606.out) hb)
     clear HO612
     clear BK605
     clear BK606
     clear HB
     have HO612 := n0_
     have HO615 := n1_
     have HO618 := n2_
     have BK605 := n3_
     have BK606 := n4_
     have HB := n5_
     clear n0_ n1_ n2_ n3_ n4_ n5_
     (try clear hb)
     (try clear hb2)
     (try clear hk)
     (try clear hi)
     (try clear ho0)
     (try clear ho1)
     obtain ⟨Ao23, co23, eo23⟩ := Kd.R_slice HO615.out
     (first | subst eo23 | (injection eo23 with f1_ f2_ f3_; have f4_ := f1_.symm; have f5_ := f3_.symm; clear f1_ f2_ f3_; subst f4_; subst f5_))
     obtain ⟨Ao25, co25, eo25⟩ := Kd.R_slice HO618.out
     (first | subst eo25 | (injection eo25 with f1_ f2_ f3_; have f4_ := f1_.symm; have f5_ := f3_.symm; clear f1_ f2_ f3_; subst f4_; subst f5_))
     refine hK.out _ _ ⟨(blk_cell BK605.out 0).trans rfl, (blk_cell BK605.out 1).trans rfl, (blk_cell BK605.out 2).trans rfl, (blk_cell BK605.out 3).trans rfl, ((HB.out.cell (World.block_lt_of_cell? w _ hw609_0)).trans hw609_0)⟩ (fun hHeld => ?_)
     clear hK K
     refine nz (N := some 49) ?_
     refine pz (i := 20) (N := some 50) #[true, true, true, true, true, true, true, true, true, true, true, true, true, true, true, true, true, true, true, true, true, false, false, false] rfl rfl HT_.out ?_
     refine pz (i := 21) (N := some 51) #[true, true, true, true, true, true, true, true, true, true, true, true, true, true, true, true, true, true, true, true, true, true, false, false] rfl rfl HT_.out ?_
     refine one_ (i := 22) (N := none) #[true, true, true, true, true, true, true, true, true, true, true, true, true, true, true, true, true, true, true, true, true, true, true, false] rfl rfl (one_of HT_.out (by kernel_rfl)) (by decide) (fun K hK => ?_)
     have hs24 : w22.cell? ⟨gb606, 0, none⟩ = some (.slice none 0 0) := (blk_cell BK606.out 0).trans rfl
     have hfs24 := blk_frozen BK606.out 0
     have hns24_0 := NB605_606.out
     have hms24_0 := NB606_605.out
     have hs26 : w22.cell? ⟨gb606, 1, none⟩ = some (.slice none 0 0) := (blk_cell BK606.out 1).trans rfl
     have hfs26 := blk_frozen BK606.out 1
     have hns26_0 := NB605_606.out
     have hms26_0 := NB606_605.out
     refine skip_ (w1 := ?_) (by rfl) rfl ?_ ?_
     rotate_left
     ·go_simp
      rfl
     refine hK.out _ _ ⟨((cell_far (p := ⟨gb606, _, none⟩) NB605_606.out _).trans (((cell_far (p := ⟨gb606, _, none⟩) NB605_606.out _).trans (hHeld.1)))), ((cell_far (p := ⟨gb606, _, none⟩) NB605_606.out _).trans (((cell_far (p := ⟨gb606, _, none⟩) NB605_606.out _).trans (hHeld.2.1)))), ((cell_far (p := ⟨gb606, _, none⟩) NB605_606.out _).trans (((cell_far (p := ⟨gb606, _, none⟩) NB605_606.out _).trans (hHeld.2.2.1)))), ((cell_far (p := ⟨gb606, _, none⟩) NB605_606.out _).trans (((cell_far (p := ⟨gb606, _, none⟩) NB605_606.out _).trans (hHeld.2.2.2.1)))), ((cell_far (p := ⟨gb606, _, none⟩) (by first | exact Nat.ne_of_lt (Nat.lt_of_lt_of_le (by have := World.block_lt_of_cell? _ _ hw609_0; first | rwa [add_block] at this | exact this) GW606.out) | (rw [add_block]; exact Nat.ne_of_lt (Nat.lt_of_lt_of_le (by have := World.block_lt_of_cell? _ _ hw609_0; first | rwa [add_block] at this | exact this) GW606.out)) | (show (Addr.add _ _).block ≠ _; rw [add_block]; exact Nat.ne_of_lt (Nat.lt_of_lt_of_le (by have := World.block_lt_of_cell? _ _ hw609_0; first | rwa [add_block] at this | exact this) GW606.out)) | (dsimp only; exact Nat.ne_of_lt (Nat.lt_of_lt_of_le (by have := World.block_lt_of_cell? _ _ hw609_0; first | rwa [add_block] at this | exact this) GW606.out))) _).trans (((cell_far (p := ⟨gb606, _, none⟩) (by first | exact Nat.ne_of_lt (Nat.lt_of_lt_of_le (by have := World.block_lt_of_cell? _ _ hw609_0; first | rwa [add_block] at this | exact this) GW606.out) | (rw [add_block]; exact Nat.ne_of_lt (Nat.lt_of_lt_of_le (by have := World.block_lt_of_cell? _ _ hw609_0; first | rwa [add_block] at this | exact this) GW606.out)) | (show (Addr.add _ _).block ≠ _; rw [add_block]; exact Nat.ne_of_lt (Nat.lt_of_lt_of_le (by have := World.block_lt_of_cell? _ _ hw609_0; first | rwa [add_block] at this | exact this) GW606.out)) | (dsimp only; exact Nat.ne_of_lt (Nat.lt_of_lt_of_le (by have := World.block_lt_of_cell? _ _ hw609_0; first | rwa [add_block] at this | exact this) GW606.out))) _).trans (hHeld.2.2.2.2))))⟩ (fun hHeld => ?_)
     clear hK K
     refine pz (i := 23) (N := some 7) #[true, true, true, true, true, true, true, true, true, true, true, true, true, true, true, true, true, true, true, true, true, true, true, true] rfl rfl HT_.out ?_
     refine done_ (done_of HT_.out (by kernel_rfl)) ?_
     (try simp only [Dig.setCell_drewN])
     try go_wp2
     refine bodyPost_ret (results_ct rfl _ _ gb606 33 #[.slice Ao23 t613.length co23, .slice Ao25 t616.length co25] (0, 0) _ rfl (by (with_reducible repeat (first | refine blk_drewN ?_ _ | refine blk_drew ?_ | refine blk_alloc ?_ _)); refine blk_put (cs := #[.slice Ao23 t613.length co23, .slice none 0 0]) ?_ 1 _ rfl; (with_reducible repeat (first | refine blk_drewN ?_ _ | refine blk_drew ?_ | refine blk_alloc ?_ _)); refine blk_put (cs := #[.slice none 0 0, .slice none 0 0]) ?_ 0 _ rfl; (with_reducible repeat (first | refine blk_drewN ?_ _ | refine blk_drew ?_ | refine blk_alloc ?_ _)); exact BK606.out) Try.underlying33 rfl (by kernel_rfl)) rfl ?_
     exact ⟨_, _, by first | rfl | (simp [errW_none, errW_some] <;> rfl) | (simp [*, errW_none, errW_some] <;> rfl), by (with_reducible repeat (first | apply Kd.R_alloc | apply Kd.R_drewN | apply Kd.R_drew)); exact Kd.R_mono (Kd.R_far (p := ⟨gb606, 1, none⟩) (Kd.R_far (p := ⟨gb606, 0, none⟩) (Kd.R_types HO615.out BK606.out (by decide)) (fun _ hk => hk.2) (.slice Ao23 t613.length co23)) (fun _ hk => hk.2) (.slice Ao25 t616.length co25)) (fun _ hk => hk.1), by (with_reducible repeat (first | apply Kd.R_alloc | apply Kd.R_drewN | apply Kd.R_drew)); exact Kd.R_mono (Kd.R_far (p := ⟨gb606, 1, none⟩) (Kd.R_far (p := ⟨gb606, 0, none⟩) (Kd.R_types HO618.out BK606.out (by decide)) (fun _ hk => hk.2) (.slice Ao23 t613.length co23)) (fun _ hk => hk.2) (.slice Ao25 t616.length co25)) (fun _ hk => hk.1), b2 GE605.out GE606.out⟩
    ·rw [if_neg c9] at H
     exact absurd H (by simp)
   ·rw [if_neg c8] at H
    exact absurd H (by simp)
  ·rw [if_neg c7] at H
   have c7b0 : (a2_0 == (l1.length : Int)) = false := beq_eq_false_iff_ne.mpr c7
   have c7b1 : (a2_0 != (l1.length : Int)) = true := bne_iff_ne.mpr c7
   replace H := Option.bind_eq_some_iff.mp H
   obtain ⟨⟨t620, t623⟩, A270, H⟩ := H
   (try dsimp -simprocs only at H)
   have A27 := Aside0.mk A270
   clear A270
   replace H := Option.bind_eq_some_iff.mp H
   obtain ⟨t624, A280, H⟩ := H
   (try dsimp -simprocs only at H)
   have A28 := Aside0.mk A280
   clear A280
   obtain ⟨ji29, hji29⟩ : ∃ j_ : Int, (wrap64 ((t620.length : Int) - 1)) = j_ := ⟨_, rfl⟩
   replace H : (if 0 ≤ (ji29) then (if (ji29) < (t620.length : Int) then (some (t624, rd_L2 t620 (ji29), true)) else (none)) else (none)) = some (r1, r2, r3) := by first | (rw [hji29] at H; exact H) | (simp only [hji29] at H ⊢; exact H)
   (try rw [hji29] at A4)
   (try rw [hji29] at A5)
   (try rw [hji29] at A27)
   (try rw [hji29] at A28)
   have hji29w : (IntKind.i64.wrap ((t620.length : Int) - 1)) = ji29 := (i64_w _).trans hji29
   by_cases c30 : 0 ≤ (ji29)
   ·rw [if_pos c30] at H
    have c30b0 : decide (0 ≤ (ji29)) = true := decide_eq_true c30
    clear c30
    by_cases c31 : (ji29) < (t620.length : Int)
    ·rw [if_pos c31] at H
     have c31b0 : decide ((ji29) < (t620.length : Int)) = true := decide_eq_true c31
     clear c31
     simp only [Option.some.injEq, Prod.mk.injEq] at H
     obtain ⟨rfl, rfl, rfl⟩ := H
     go_enter Try.func12, Try.ntmps12
     try go_wp2_with (first | ((with_reducible refine gate_dst (N := 5) rfl ?_); refine box_event ?hg (N := 5) ?hd (cs := #[.int .i64 a2_0, .int .i64 a2_1, .slice A2_2 l2_2.length c2_2, .slice A2_3 l2_3.length c2_3]) (t := 31) ?hr ?_; (case hd => rfl); (case hg => rfl); (case hr => first | (go_simp; done) | (go_simp; rfl)); intro gb605 hg w32 hbox hb; have BK605 := Aside0.mk (hbox); have GW605 := Aside0.mk ((by rw [hg]; exact (below_size (bt)) : w.heap.size ≤ gb605)); have GE605 := Aside0.mk ((by rw [hg]; exact (below_size (bt)) : w.heap.size ≤ gb605)); replace HB := Aside0.mk (below_step (bt) hb); clear hb hbox hg) | ((with_reducible refine gate_dst (N := 6) rfl ?_); refine box_event ?hg (N := 6) ?hd (cs := #[.slice none 0 0, .slice none 0 0]) (t := 33) ?hr ?_; (case hd => rfl); (case hg => rfl); (case hr => first | (go_simp; done) | (go_simp; rfl)); intro gb606 hg w33 hbox hb; have BK606 := Aside0.mk (hbox); have GW606 := Aside0.mk ((by rw [hg]; exact (below_size (b1 GE605.out)) : w.heap.size ≤ gb606)); have GE606 := Aside0.mk ((by rw [hg]; exact (below_size (b1 GE605.out)) : w.heap.size ≤ gb606)); replace HB := Aside0.mk (below_step (b1 GE605.out) hb); have NB605_606 := Aside0.mk ((by rw [hg]; exact Nat.ne_of_lt (blk_lt (g := gb605) (o := .cells #[.int .i64 a2_0, .int .i64 a2_1, .slice A2_2 l2_2.length c2_2, .slice A2_3 l2_3.length c2_3] 31 (0, 0)) (mb BK605.out)) : gb605 ≠ gb606)); have NB606_605 := Aside0.mk ((by rw [hg]; exact Nat.ne_of_gt (blk_lt (g := gb605) (o := .cells #[.int .i64 a2_0, .int .i64 a2_1, .slice A2_2 l2_2.length c2_2, .slice A2_3 l2_3.length c2_3] 31 (0, 0)) (mb BK605.out)) : gb606 ≠ gb605)); replace BK605 := Aside0.mk (blk_below (g := gb605) (o := .cells #[.int .i64 a2_0, .int .i64 a2_1, .slice A2_2 l2_2.length c2_2, .slice A2_3 l2_3.length c2_3] 31 (0, 0)) (mb BK605.out) hb); clear hb hbox hg))
     have n0_ := Aside0.mk (blk_drew BK605.out)
     have n1_ := Aside0.mk (blk_drew BK606.out)
     have n2_ := Aside0.mk (below_drew1 HB.out)
     clear BK605
     clear BK606
     clear HB
     have BK605 := n0_
     have BK606 := n1_
     have HB := n2_
     clear n0_ n1_ n2_
     refine start_ (n := 14) (S := fun w' => w'.cell? ⟨gb605, 0, none⟩ = some (.int .i64 a2_0) ∧ w'.cell? ⟨gb605, 1, none⟩ = some (.int .i64 a2_1) ∧ w'.cell? ⟨gb605, 2, none⟩ = some (.slice A2_2 l2_2.length c2_2) ∧ w'.cell? ⟨gb605, 3, none⟩ = some (.slice A2_3 l2_3.length c2_3)) (ds := []) #[false, false, false, false, false, false, false, false, false, false, false, false, false, false] (by kernel_rfl) rfl rfl ⟨(blk_cell BK605.out 0).trans rfl, (blk_cell BK605.out 1).trans rfl, (blk_cell BK605.out 2).trans rfl, (blk_cell BK605.out 3).trans rfl⟩ (fun hHeld => ?_); refine with_tabW impl_Liar.tab1 impl_Liar.bits1 (fun HT_ HW_ => ?_)
     generalize w33.drew = w34 at BK605 BK606 HB hHeld ⊢
     refine pz (i := 0) (N := some 10) #[true, false, false, false, false, false, false, false, false, false, false, false, false, false] rfl rfl HT_.out ?_
     refine pz (i := 1) (N := some 11) #[true, true, false, false, false, false, false, false, false, false, false, false, false, false] rfl rfl HT_.out ?_
     refine pz (i := 2) (N := some 12) #[true, true, true, false, false, false, false, false, false, false, false, false, false, false] rfl rfl HT_.out ?_
     refine pz (i := 4) (N := some 14) #[true, true, true, false, true, false, false, false, false, false, false, false, false, false] rfl rfl HT_.out ?_
     refine pz (i := 6) (N := some 16) #[true, true, true, false, true, false, true, false, false, false, false, false, false, false] rfl rfl HT_.out ?_
     refine pz (i := 8) (N := some 18) #[true, true, true, false, true, false, true, false, true, false, false, false, false, false] rfl rfl HT_.out ?_
     refine pz (i := 10) (N := some 20) #[true, true, true, false, true, false, true, false, true, false, true, false, false, false] rfl rfl HT_.out ?_
     refine tz (i := 5) (N := some 15) #[true, true, true, false, true, true, true, false, true, false, true, false, false, false] rfl rfl HT_.out HW_.out hHeld (Or.inl ⟨by rfl, by rintro w' ⟨s0, s1, s2, s3⟩; go_simp; with_reducible rfl⟩) ?_
     refine tz (i := 7) (N := some 17) #[true, true, true, false, true, true, true, true, true, false, true, false, false, false] rfl rfl HT_.out HW_.out hHeld (Or.inl ⟨by rfl, by rintro w' ⟨s0, s1, s2, s3⟩; go_simp; with_reducible rfl⟩) ?_
     refine tz (i := 9) (N := some 19) #[true, true, true, false, true, true, true, true, true, true, true, false, false, false] rfl rfl HT_.out HW_.out hHeld (Or.inl ⟨by rfl, by rintro w' ⟨s0, s1, s2, s3⟩; go_simp; with_reducible rfl⟩) ?_
     refine tz (i := 11) (N := some 21) #[true, true, true, false, true, true, true, true, true, true, true, true, false, false] rfl rfl HT_.out HW_.out hHeld (Or.inl ⟨by rfl, by rintro w' ⟨s0, s1, s2, s3⟩; go_simp; with_reducible rfl⟩) ?_
     refine one_ (i := 3) (N := some 13) #[true, true, true, true, true, true, true, true, true, true, true, true, false, false] rfl rfl (one_of HT_.out (by kernel_rfl)) (by decide) (fun K hK => ?_)
     refine goes_ Try.func11 (by kernel_rfl) rfl #[.int .i64 a0, .slice A1 l1.length c1] (by rfl) rfl rfl av ?_
     with_reducible refine (impl_TreeRoot.calls k a0 _ _ l1 t607 _ ?side1 ?side2 A4.out).mono ?_
     (case side1 => exact cv ((Kd.C_below HR1.out HB.out)))
     (case side2 => exact HC1.out)
     rintro e w35 ⟨rfl, hb⟩
     refine ⟨_, rfl, ?_⟩
     have n0_ := Aside0.mk (blk_below (g := gb605) (o := .cells #[.int .i64 a2_0, .int .i64 a2_1, .slice A2_2 l2_2.length c2_2, .slice A2_3 l2_3.length c2_3] 31 (0, 0)) (mb BK605.out) hb)
     have n1_ := Aside0.mk (blk_below (g := gb606) (o := .cells #[.slice none 0 0, .slice none 0 0] 33 (0, 0)) (mb BK606.out) hb)
     have n2_ := Aside0.mk (below_step (b2 GE605.out GE606.out) hb)
     clear BK605
     clear BK606
     clear HB
     have BK605 := n0_
     have BK606 := n1_
     have HB := n2_
     clear n0_ n1_ n2_
     (try clear hb)
     (try clear hb2)
     (try clear hk)
     (try clear hi)
     refine hK.out _ _ ⟨(blk_cell BK605.out 0).trans rfl, (blk_cell BK605.out 1).trans rfl, (blk_cell BK605.out 2).trans rfl, (blk_cell BK605.out 3).trans rfl⟩ (fun hHeld => ?_)
     clear hK K
     refine nz (N := some 13) ?_
     refine one_ (i := 12) (N := some 22) #[true, true, true, true, true, true, true, true, true, true, true, true, true, false] rfl rfl (one_of HT_.out (by kernel_rfl)) (by decide) (fun K hK => ?_)
     refine goes_ Try.func14 (by kernel_rfl) rfl #[.int .i64 a0, .int .i64 t607, .int .i64 a2_0, .int .i64 a2_1, .slice A2_2 l2_2.length c2_2, .slice A2_3 l2_3.length c2_3] (by rfl) rfl rfl av ?_
     with_reducible refine (impl_Proven.calls k a0 t607 a2_0 a2_1 _ _ l2_2 _ _ l2_3 true _ ?side1 ?side2 ?side3 ?side4 A5.out).mono ?_
     (case side1 => exact cv ((Kd.C_below HR2_2.out HB.out)))
     (case side2 => exact HC2_2.out)
     (case side3 => exact cv ((Kd.C_below HR2_3.out HB.out)))
     (case side4 => exact HC2_3.out)
     rintro e w36 ⟨rfl, hb⟩
     refine ⟨_, rfl, ?_⟩
     have n0_ := Aside0.mk (blk_below (g := gb605) (o := .cells #[.int .i64 a2_0, .int .i64 a2_1, .slice A2_2 l2_2.length c2_2, .slice A2_3 l2_3.length c2_3] 31 (0, 0)) (mb BK605.out) hb)
     have n1_ := Aside0.mk (blk_below (g := gb606) (o := .cells #[.slice none 0 0, .slice none 0 0] 33 (0, 0)) (mb BK606.out) hb)
     have n2_ := Aside0.mk (below_step (b2 GE605.out GE606.out) hb)
     clear BK605
     clear BK606
     clear HB
     have BK605 := n0_
     have BK606 := n1_
     have HB := n2_
     clear n0_ n1_ n2_
     (try clear hb)
     (try clear hb2)
     (try clear hk)
     (try clear hi)
     refine hK.out _ _ ⟨(blk_cell BK605.out 0).trans rfl, (blk_cell BK605.out 1).trans rfl, (blk_cell BK605.out 2).trans rfl, (blk_cell BK605.out 3).trans rfl⟩ (fun hHeld => ?_)
     clear hK K
     refine nz (N := some 22) ?_
     refine pz (i := 13) (N := some 23) #[true, true, true, true, true, true, true, true, true, true, true, true, true, true] rfl rfl HT_.out ?_
     refine done_ (done_of HT_.out (by kernel_rfl)) ?_
     have hnb37 := NB605_606.out
     have hnc37 := NB606_605.out
     have hcz38_0 : w36.cell? ⟨gb605, 0, none⟩ = some (.int .i64 a2_0) := (blk_cell BK605.out 0).trans rfl
     have hcz38_1 : w36.cell? ⟨gb605, 1, none⟩ = some (.int .i64 a2_1) := (blk_cell BK605.out 1).trans rfl
     have hcz38_2 : w36.cell? ⟨gb605, 2, none⟩ = some (.slice A2_2 l2_2.length c2_2) := (blk_cell BK605.out 2).trans rfl
     have hcz38_3 : w36.cell? ⟨gb605, 3, none⟩ = some (.slice A2_3 l2_3.length c2_3) := (blk_cell BK605.out 3).trans rfl
     have hfz38_0 := blk_frozen BK605.out 0
     have hfz38_1 := blk_frozen BK605.out 1
     have hfz38_2 := blk_frozen BK605.out 2
     have hfz38_3 := blk_frozen BK605.out 3
     try go_wp2_with (first | ((with_reducible refine gate_callee (f := 59) rfl ?_); refine goesL_ (some 62) rfl rfl Try.func59 (by kernel_rfl) rfl #[.int .i64 a0, .int .i64 a2_0, .int .i64 a2_1, .slice A2_2 l2_2.length c2_2, .slice A2_3 l2_3.length c2_3] rfl av ?_; (with_reducible refine (impl_climb.calls k a0 a2_0 a2_1 _ _ l2_2 (fun k_ => k_ < w.heap.size) _ _ l2_3 t620 t623 _ ?side1 ?side2 ?side3 A27.out).mono ?_); (case side1 => exact cv ((Kd.C_below HR2_2.out HB.out))); (case side2 => exact HC2_2.out); (case side3 => exact Kd.V_mk HC2_3.out (Kd.F_below (Kd.C_F (Kd.heap_int .i64) HR2_3.out) (b2 GE605.out GE606.out))); rintro e w39 ⟨v621, rfl, ho0, hb⟩; refine ⟨_, rfl, ?_⟩; have HO622 := Aside0.mk (Kd.S_lower (Kd.S_mono (ok' := fun k_ => True) ho0 (fun _ hk_ => trivial)) (below_size (b2 GE605.out GE606.out))); replace BK605 := Aside0.mk (blk_below (g := gb605) (o := .cells #[.int .i64 a2_0, .int .i64 a2_1, .slice A2_2 l2_2.length c2_2, .slice A2_3 l2_3.length c2_3] 31 (0, 0)) (mb BK605.out) hb); replace BK606 := Aside0.mk (blk_below (g := gb606) (o := .cells #[.slice none 0 0, .slice none 0 0] 33 (0, 0)) (mb BK606.out) hb); replace HB := Aside0.mk (below_step (b2 GE605.out GE606.out) hb); (try clear hb); (try clear hb2); (try clear hk); (try clear hi); (try clear ho0)))
     have n0_ := Aside0.mk (Kd.S_drew HO622.out)
     have n1_ := Aside0.mk (blk_drew BK605.out)
     have n2_ := Aside0.mk (blk_drew BK606.out)
     have n3_ := Aside0.mk (below_drew1 HB.out)
     clear HO622
     clear BK605
     clear BK606
     clear HB
     have HO622 := n0_
     have BK605 := n1_
     have BK606 := n2_
     have HB := n3_
     clear n0_ n1_ n2_ n3_
     obtain ⟨Ao41, co41, eo41⟩ := Kd.S_slice HO622.out
     (first | subst eo41 | (injection eo41 with f1_ f2_ f3_; have f4_ := f1_.symm; have f5_ := f3_.symm; clear f1_ f2_ f3_; subst f4_; subst f5_))
     have p627 : 0 ≤ ((ji29) : Int) := of_decide_eq_true asm
     have q627 : (ji29) < (t620.length : Int) := of_decide_eq_true asm
     obtain ⟨ad627, A627_0, c627_0, e627, hx627_0, hl627_0, hi627_0⟩ := at_L2 (Kd.S_reads' HO622.out).2.2 (ji29) p627 q627
     cases e627
     obtain ⟨ce627, hce627, hMe627, hcc627⟩ := Kd.S_get HO622.out [] (ji29) p627 (by first | exact q627 | exact of_decide_eq_true asm | (have e_ := (Kd.S_reads' HO622.out).1; omega))
     obtain ⟨ve627_0, rfl, ge627_0⟩ := hMe627
     have hv627_0 := hcc627 0 _ rfl
     rw [Nat.add_zero, show ((Kd.slice 5 (Kd.int .u8))).sz = 1 from rfl, Nat.mul_one] at hv627_0
     replace hv627_0 := Option.some.inj (hv627_0.symm.trans hx627_0)
     rw [hv627_0] at ge627_0
     have HL627_0 := Aside0.mk (show Kd.R (Kd.int .u8) 5 _ _ _ _ (rd_L2 t620 (ji29)) from ge627_0)
     clear hv627_0 ge627_0
     clear hcc627 hce627
     have HR627_0 := Aside0.mk hi627_0
     have HC627_0 := Aside0.mk hl627_0
     clear hi627_0 hl627_0
     replace p627 := eq_true p627
     replace q627 := eq_true q627
     refine start_ (n := 12) (S := fun w' => w'.cell? (ad627.add ((ji29)).toNat) = some (.slice A627_0 (rd_L2 t620 (ji29)).length c627_0)) (ds := []) #[false, false, false, false, false, false, false, false, false, false, false, false] (by kernel_rfl) rfl rfl (hx627_0) (fun hHeld => ?_); refine with_tabW impl_Liar.tab6 impl_Liar.bits6 (fun HT_ HW_ => ?_)
     generalize w39.drew = w40 at HO622 BK605 BK606 HB HL627_0 HR627_0 hx627_0 hHeld ⊢
     refine pz (i := 0) (N := some 65) #[true, false, false, false, false, false, false, false, false, false, false, false] rfl rfl HT_.out ?_
     refine pz (i := 1) (N := some 66) #[true, true, false, false, false, false, false, false, false, false, false, false] rfl rfl HT_.out ?_
     refine pz (i := 3) (N := some 68) #[true, true, false, true, false, false, false, false, false, false, false, false] rfl rfl HT_.out ?_
     refine pz (i := 4) (N := some 69) #[true, true, false, true, true, false, false, false, false, false, false, false] rfl rfl HT_.out ?_
     refine pz (i := 5) (N := some 70) #[true, true, false, true, true, true, false, false, false, false, false, false] rfl rfl HT_.out ?_
     refine pz (i := 6) (N := some 71) #[true, true, false, true, true, true, true, false, false, false, false, false] rfl rfl HT_.out ?_
     refine pz (i := 7) (N := some 72) #[true, true, false, true, true, true, true, true, false, false, false, false] rfl rfl HT_.out ?_
     refine take_ (i := 8) (N := some 73) (v := ?_) (a' := ?_) #[true, true, false, true, true, true, true, true, true, false, false, false] rfl rfl (take_ofW HT_.out HW_.out (by kernel_rfl)) (fun _ _ _ h => h) (Or.inl ⟨by rfl, ?_⟩) hHeld ?_ ?_
     rotate_left
     ·intro w' s0
      go_simp
      with_reducible rfl
     rotate_left
     ·simp only [Act.put, List.setIfInBounds_toArray, List.set_cons_zero, List.set_cons_succ, i64_w, i32_w]
      rfl
     refine one_ (i := 2) (N := some 67) #[true, true, true, true, true, true, true, true, true, false, false, false] rfl rfl (one_of HT_.out (by kernel_rfl)) (by decide) (fun K hK => ?_)
     refine goes_ Try.func57 (by kernel_rfl) rfl #[.int .i64 a0, .slice A1 l1.length c1] (by rfl) rfl rfl av ?_
     with_reducible refine (impl_topOf.calls k a0 _ _ l1 t624 _ ?side1 ?side2 A28.out).mono ?_
     (case side1 => exact cv ((Kd.C_below HR1.out HB.out)))
     (case side2 => exact HC1.out)
     rintro e w42 ⟨v625, rfl, ho0, hb⟩
     have HS0_ := (hb.cell (World.block_lt_of_cell? _ _ (hHeld))).trans (hHeld)
     refine ⟨_, rfl, ?_⟩
     have n0_ := Aside0.mk (Kd.S_elder' (mv HO622.out) (Kd.R_base ho0) hb)
     have n1_ := Aside0.mk (Kd.R_elder' (mv HL627_0.out) (Kd.R_base ho0) hb)
     have n2_ := Aside0.mk (Kd.R_lower (Kd.R_new' ho0 (Kd.R_lt (mv HL627_0.out))) (below_size (b2 GE605.out GE606.out)))
     have n3_ := Aside0.mk (blk_below (g := gb605) (o := .cells #[.int .i64 a2_0, .int .i64 a2_1, .slice A2_2 l2_2.length c2_2, .slice A2_3 l2_3.length c2_3] 31 (0, 0)) (mb BK605.out) hb)
     have n4_ := Aside0.mk (blk_below (g := gb606) (o := .cells #[.slice none 0 0, .slice none 0 0] 33 (0, 0)) (mb BK606.out) hb)
     have n5_ := Aside0.mk (Kd.C_below (cv HR627_0.out) hb)
     have n6_ := Aside0.mk (below_step (b2 GE605.out GE606.out) hb)
     clear HO622
     clear HL627_0
     clear BK605
     clear BK606
     clear HR627_0
     clear HB
     have HO622 := n0_
     have HL627_0 := n1_
     have HO626 := n2_
     have BK605 := n3_
     have BK606 := n4_
     have HR627_0 := n5_
     have HB := n6_
     clear n0_ n1_ n2_ n3_ n4_ n5_ n6_
     (try clear hb)
     (try clear hb2)
     (try clear hk)
     (try clear hi)
     (try clear ho0)
     obtain ⟨Ao43, co43, eo43⟩ := Kd.R_slice HO626.out
     (first | subst eo43 | (injection eo43 with f1_ f2_ f3_; have f4_ := f1_.symm; have f5_ := f3_.symm; clear f1_ f2_ f3_; subst f4_; subst f5_))
     refine hK.out _ _ (HS0_) (fun hHeld => ?_)
     clear hK K
     refine nz (N := some 67) ?_
     refine pz (i := 9) (N := some 74) #[true, true, true, true, true, true, true, true, true, true, false, false] rfl rfl HT_.out ?_
     refine one_ (i := 10) (N := none) #[true, true, true, true, true, true, true, true, true, true, true, false] rfl rfl (one_of HT_.out (by kernel_rfl)) (by decide) (fun K hK => ?_)
     have hs44 : w42.cell? ⟨gb606, 0, none⟩ = some (.slice none 0 0) := (blk_cell BK606.out 0).trans rfl
     have hfs44 := blk_frozen BK606.out 0
     have hns44_0 := NB605_606.out
     have hms44_0 := NB606_605.out
     have hs45 : w42.cell? ⟨gb606, 1, none⟩ = some (.slice none 0 0) := (blk_cell BK606.out 1).trans rfl
     have hfs45 := blk_frozen BK606.out 1
     have hns45_0 := NB605_606.out
     have hms45_0 := NB606_605.out
     refine skip_ (w1 := ?_) (by rfl) rfl ?_ ?_
     rotate_left
     ·go_simp
      rfl
     refine hK.out _ _ (((cell_far (p := ⟨gb606, _, none⟩) (by first | exact Kd.own_blk (Kd.S_ne HO622.out BK606.out (by decide)) | (rw [add_block]; exact Kd.own_blk (Kd.S_ne HO622.out BK606.out (by decide))) | (show (Addr.add _ _).block ≠ _; rw [add_block]; exact Kd.own_blk (Kd.S_ne HO622.out BK606.out (by decide))) | (dsimp only; exact Kd.own_blk (Kd.S_ne HO622.out BK606.out (by decide)))) _).trans (((cell_far (p := ⟨gb606, _, none⟩) (by first | exact Kd.own_blk (Kd.S_ne HO622.out BK606.out (by decide)) | (rw [add_block]; exact Kd.own_blk (Kd.S_ne HO622.out BK606.out (by decide))) | (show (Addr.add _ _).block ≠ _; rw [add_block]; exact Kd.own_blk (Kd.S_ne HO622.out BK606.out (by decide))) | (dsimp only; exact Kd.own_blk (Kd.S_ne HO622.out BK606.out (by decide)))) _).trans (hHeld))))) (fun hHeld => ?_)
     clear hK K
     refine pz (i := 11) (N := some 7) #[true, true, true, true, true, true, true, true, true, true, true, true] rfl rfl HT_.out ?_
     refine done_ (done_of HT_.out (by kernel_rfl)) ?_
     (try simp only [Dig.setCell_drewN])
     try go_wp2
     refine bodyPost_ret (results_ct rfl _ _ gb606 33 #[.slice Ao43 t624.length co43, .slice A627_0 (rd_L2 t620 (ji29)).length c627_0] (0, 0) _ rfl (by (with_reducible repeat (first | refine blk_drewN ?_ _ | refine blk_drew ?_ | refine blk_alloc ?_ _)); refine blk_put (cs := #[.slice Ao43 t624.length co43, .slice none 0 0]) ?_ 1 _ rfl; (with_reducible repeat (first | refine blk_drewN ?_ _ | refine blk_drew ?_ | refine blk_alloc ?_ _)); refine blk_put (cs := #[.slice none 0 0, .slice none 0 0]) ?_ 0 _ rfl; (with_reducible repeat (first | refine blk_drewN ?_ _ | refine blk_drew ?_ | refine blk_alloc ?_ _)); exact BK606.out) Try.underlying33 rfl (by kernel_rfl)) rfl ?_
     exact ⟨_, _, by first | rfl | (simp [errW_none, errW_some] <;> rfl) | (simp only [← hji29]; first | rfl | (simp [errW_none, errW_some] <;> rfl)) | (simp [*, errW_none, errW_some] <;> rfl), by (with_reducible repeat (first | apply Kd.R_alloc | apply Kd.R_drewN | apply Kd.R_drew)); exact Kd.R_mono (Kd.R_far (p := ⟨gb606, 1, none⟩) (Kd.R_far (p := ⟨gb606, 0, none⟩) (Kd.R_types HO626.out BK606.out (by decide)) (fun _ hk => hk.2) (.slice Ao43 t624.length co43)) (fun _ hk => hk.2) (.slice A627_0 (rd_L2 t620 (ji29)).length c627_0)) (fun _ hk => hk.1.2), by (with_reducible repeat (first | apply Kd.R_alloc | apply Kd.R_drewN | apply Kd.R_drew)); exact Kd.R_mono (Kd.R_far (p := ⟨gb606, 1, none⟩) (Kd.R_far (p := ⟨gb606, 0, none⟩) (Kd.R_types HL627_0.out BK606.out (by decide)) (fun _ hk => hk.2) (.slice Ao43 t624.length co43)) (fun _ hk => hk.2) (.slice A627_0 (rd_L2 t620 (ji29)).length c627_0)) (fun _ hk => hk.1.2), b2 GE605.out GE606.out⟩
    ·rw [if_neg c31] at H
     exact absurd H (by simp)
   ·rw [if_neg c30] at H
    exact absurd H (by simp)
 ·replace c6 := Bool.eq_false_iff.mpr c6
  subst c6
  rw [if_neg (show ¬ (false = true) by decide)] at H
  simp only [Option.some.injEq, Prod.mk.injEq] at H
  obtain ⟨rfl, rfl, rfl⟩ := H
  go_enter Try.func12, Try.ntmps12
  try go_wp2_with (first | ((with_reducible refine gate_dst (N := 5) rfl ?_); refine box_event ?hg (N := 5) ?hd (cs := #[.int .i64 a2_0, .int .i64 a2_1, .slice A2_2 l2_2.length c2_2, .slice A2_3 l2_3.length c2_3]) (t := 31) ?hr ?_; (case hd => rfl); (case hg => rfl); (case hr => first | (go_simp; done) | (go_simp; rfl)); intro gb605 hg w46 hbox hb; have BK605 := Aside0.mk (hbox); have GW605 := Aside0.mk ((by rw [hg]; exact (below_size (bt)) : w.heap.size ≤ gb605)); have GE605 := Aside0.mk ((by rw [hg]; exact (below_size (bt)) : w.heap.size ≤ gb605)); replace HB := Aside0.mk (below_step (bt) hb); clear hb hbox hg) | ((with_reducible refine gate_dst (N := 6) rfl ?_); refine box_event ?hg (N := 6) ?hd (cs := #[.slice none 0 0, .slice none 0 0]) (t := 33) ?hr ?_; (case hd => rfl); (case hg => rfl); (case hr => first | (go_simp; done) | (go_simp; rfl)); intro gb606 hg w47 hbox hb; have BK606 := Aside0.mk (hbox); have GW606 := Aside0.mk ((by rw [hg]; exact (below_size (b1 GE605.out)) : w.heap.size ≤ gb606)); have GE606 := Aside0.mk ((by rw [hg]; exact (below_size (b1 GE605.out)) : w.heap.size ≤ gb606)); replace HB := Aside0.mk (below_step (b1 GE605.out) hb); have NB605_606 := Aside0.mk ((by rw [hg]; exact Nat.ne_of_lt (blk_lt (g := gb605) (o := .cells #[.int .i64 a2_0, .int .i64 a2_1, .slice A2_2 l2_2.length c2_2, .slice A2_3 l2_3.length c2_3] 31 (0, 0)) (mb BK605.out)) : gb605 ≠ gb606)); have NB606_605 := Aside0.mk ((by rw [hg]; exact Nat.ne_of_gt (blk_lt (g := gb605) (o := .cells #[.int .i64 a2_0, .int .i64 a2_1, .slice A2_2 l2_2.length c2_2, .slice A2_3 l2_3.length c2_3] 31 (0, 0)) (mb BK605.out)) : gb606 ≠ gb605)); replace BK605 := Aside0.mk (blk_below (g := gb605) (o := .cells #[.int .i64 a2_0, .int .i64 a2_1, .slice A2_2 l2_2.length c2_2, .slice A2_3 l2_3.length c2_3] 31 (0, 0)) (mb BK605.out) hb); clear hb hbox hg))
  have n0_ := Aside0.mk (blk_drew BK605.out)
  have n1_ := Aside0.mk (blk_drew BK606.out)
  have n2_ := Aside0.mk (below_drew1 HB.out)
  clear BK605
  clear BK606
  clear HB
  have BK605 := n0_
  have BK606 := n1_
  have HB := n2_
  clear n0_ n1_ n2_
  refine start_ (n := 14) (S := fun w' => w'.cell? ⟨gb605, 0, none⟩ = some (.int .i64 a2_0) ∧ w'.cell? ⟨gb605, 1, none⟩ = some (.int .i64 a2_1) ∧ w'.cell? ⟨gb605, 2, none⟩ = some (.slice A2_2 l2_2.length c2_2) ∧ w'.cell? ⟨gb605, 3, none⟩ = some (.slice A2_3 l2_3.length c2_3)) (ds := []) #[false, false, false, false, false, false, false, false, false, false, false, false, false, false] (by kernel_rfl) rfl rfl ⟨(blk_cell BK605.out 0).trans rfl, (blk_cell BK605.out 1).trans rfl, (blk_cell BK605.out 2).trans rfl, (blk_cell BK605.out 3).trans rfl⟩ (fun hHeld => ?_); refine with_tabW impl_Liar.tab1 impl_Liar.bits1 (fun HT_ HW_ => ?_)
  generalize w47.drew = w48 at BK605 BK606 HB hHeld ⊢
  refine pz (i := 0) (N := some 10) #[true, false, false, false, false, false, false, false, false, false, false, false, false, false] rfl rfl HT_.out ?_
  refine pz (i := 1) (N := some 11) #[true, true, false, false, false, false, false, false, false, false, false, false, false, false] rfl rfl HT_.out ?_
  refine pz (i := 2) (N := some 12) #[true, true, true, false, false, false, false, false, false, false, false, false, false, false] rfl rfl HT_.out ?_
  refine pz (i := 4) (N := some 14) #[true, true, true, false, true, false, false, false, false, false, false, false, false, false] rfl rfl HT_.out ?_
  refine pz (i := 6) (N := some 16) #[true, true, true, false, true, false, true, false, false, false, false, false, false, false] rfl rfl HT_.out ?_
  refine pz (i := 8) (N := some 18) #[true, true, true, false, true, false, true, false, true, false, false, false, false, false] rfl rfl HT_.out ?_
  refine pz (i := 10) (N := some 20) #[true, true, true, false, true, false, true, false, true, false, true, false, false, false] rfl rfl HT_.out ?_
  refine tz (i := 5) (N := some 15) #[true, true, true, false, true, true, true, false, true, false, true, false, false, false] rfl rfl HT_.out HW_.out hHeld (Or.inl ⟨by rfl, by rintro w' ⟨s0, s1, s2, s3⟩; go_simp; with_reducible rfl⟩) ?_
  refine tz (i := 7) (N := some 17) #[true, true, true, false, true, true, true, true, true, false, true, false, false, false] rfl rfl HT_.out HW_.out hHeld (Or.inl ⟨by rfl, by rintro w' ⟨s0, s1, s2, s3⟩; go_simp; with_reducible rfl⟩) ?_
  refine tz (i := 9) (N := some 19) #[true, true, true, false, true, true, true, true, true, true, true, false, false, false] rfl rfl HT_.out HW_.out hHeld (Or.inl ⟨by rfl, by rintro w' ⟨s0, s1, s2, s3⟩; go_simp; with_reducible rfl⟩) ?_
  refine tz (i := 11) (N := some 21) #[true, true, true, false, true, true, true, true, true, true, true, true, false, false] rfl rfl HT_.out HW_.out hHeld (Or.inl ⟨by rfl, by rintro w' ⟨s0, s1, s2, s3⟩; go_simp; with_reducible rfl⟩) ?_
  refine one_ (i := 3) (N := some 13) #[true, true, true, true, true, true, true, true, true, true, true, true, false, false] rfl rfl (one_of HT_.out (by kernel_rfl)) (by decide) (fun K hK => ?_)
  refine goes_ Try.func11 (by kernel_rfl) rfl #[.int .i64 a0, .slice A1 l1.length c1] (by rfl) rfl rfl av ?_
  with_reducible refine (impl_TreeRoot.calls k a0 _ _ l1 t607 _ ?side1 ?side2 A4.out).mono ?_
  (case side1 => exact cv ((Kd.C_below HR1.out HB.out)))
  (case side2 => exact HC1.out)
  rintro e w49 ⟨rfl, hb⟩
  refine ⟨_, rfl, ?_⟩
  have n0_ := Aside0.mk (blk_below (g := gb605) (o := .cells #[.int .i64 a2_0, .int .i64 a2_1, .slice A2_2 l2_2.length c2_2, .slice A2_3 l2_3.length c2_3] 31 (0, 0)) (mb BK605.out) hb)
  have n1_ := Aside0.mk (blk_below (g := gb606) (o := .cells #[.slice none 0 0, .slice none 0 0] 33 (0, 0)) (mb BK606.out) hb)
  have n2_ := Aside0.mk (below_step (b2 GE605.out GE606.out) hb)
  clear BK605
  clear BK606
  clear HB
  have BK605 := n0_
  have BK606 := n1_
  have HB := n2_
  clear n0_ n1_ n2_
  (try clear hb)
  (try clear hb2)
  (try clear hk)
  (try clear hi)
  refine hK.out _ _ ⟨(blk_cell BK605.out 0).trans rfl, (blk_cell BK605.out 1).trans rfl, (blk_cell BK605.out 2).trans rfl, (blk_cell BK605.out 3).trans rfl⟩ (fun hHeld => ?_)
  clear hK K
  refine nz (N := some 13) ?_
  refine one_ (i := 12) (N := some 22) #[true, true, true, true, true, true, true, true, true, true, true, true, true, false] rfl rfl (one_of HT_.out (by kernel_rfl)) (by decide) (fun K hK => ?_)
  refine goes_ Try.func14 (by kernel_rfl) rfl #[.int .i64 a0, .int .i64 t607, .int .i64 a2_0, .int .i64 a2_1, .slice A2_2 l2_2.length c2_2, .slice A2_3 l2_3.length c2_3] (by rfl) rfl rfl av ?_
  with_reducible refine (impl_Proven.calls k a0 t607 a2_0 a2_1 _ _ l2_2 _ _ l2_3 false _ ?side1 ?side2 ?side3 ?side4 A5.out).mono ?_
  (case side1 => exact cv ((Kd.C_below HR2_2.out HB.out)))
  (case side2 => exact HC2_2.out)
  (case side3 => exact cv ((Kd.C_below HR2_3.out HB.out)))
  (case side4 => exact HC2_3.out)
  rintro e w50 ⟨rfl, hb⟩
  refine ⟨_, rfl, ?_⟩
  have n0_ := Aside0.mk (blk_below (g := gb605) (o := .cells #[.int .i64 a2_0, .int .i64 a2_1, .slice A2_2 l2_2.length c2_2, .slice A2_3 l2_3.length c2_3] 31 (0, 0)) (mb BK605.out) hb)
  have n1_ := Aside0.mk (blk_below (g := gb606) (o := .cells #[.slice none 0 0, .slice none 0 0] 33 (0, 0)) (mb BK606.out) hb)
  have n2_ := Aside0.mk (below_step (b2 GE605.out GE606.out) hb)
  clear BK605
  clear BK606
  clear HB
  have BK605 := n0_
  have BK606 := n1_
  have HB := n2_
  clear n0_ n1_ n2_
  (try clear hb)
  (try clear hb2)
  (try clear hk)
  (try clear hi)
  refine hK.out _ _ ⟨(blk_cell BK605.out 0).trans rfl, (blk_cell BK605.out 1).trans rfl, (blk_cell BK605.out 2).trans rfl, (blk_cell BK605.out 3).trans rfl⟩ (fun hHeld => ?_)
  clear hK K
  refine nz (N := some 22) ?_
  refine pz (i := 13) (N := some 23) #[true, true, true, true, true, true, true, true, true, true, true, true, true, true] rfl rfl HT_.out ?_
  refine done_ (done_of HT_.out (by kernel_rfl)) ?_
  have hnb51 := NB606_605.out
  have hnc51 := NB605_606.out
  have hcz52_0 : w50.cell? ⟨gb606, 0, none⟩ = some (.slice none 0 0) := (blk_cell BK606.out 0).trans rfl
  have hcz52_1 : w50.cell? ⟨gb606, 1, none⟩ = some (.slice none 0 0) := (blk_cell BK606.out 1).trans rfl
  have hfz52_0 := blk_frozen BK606.out 0
  have hfz52_1 := blk_frozen BK606.out 1
  try go_wp2
  refine bodyPost_ret (results_ct rfl _ _ gb606 33 #[.slice none 0 0, .slice none 0 0] (0, 0) _ rfl (by (with_reducible repeat (first | refine blk_drewN ?_ _ | refine blk_drew ?_ | refine blk_alloc ?_ _)); refine blk_put (cs := #[.slice none 0 0, .slice none 0 0]) ?_ 1 _ rfl; (with_reducible repeat (first | refine blk_drewN ?_ _ | refine blk_drew ?_ | refine blk_alloc ?_ _)); refine blk_put (cs := #[.slice none 0 0, .slice none 0 0]) ?_ 0 _ rfl; (with_reducible repeat (first | refine blk_drewN ?_ _ | refine blk_drew ?_ | refine blk_alloc ?_ _)); exact BK606.out) Try.underlying33 rfl (by kernel_rfl)) rfl ?_
  exact ⟨_, _, by first | rfl | (simp [errW_none, errW_some] <;> rfl) | (simp [*, errW_none, errW_some] <;> rfl), by first | exact Kd.R_nil _ _ _ _ _ | exact Kd.N_nil _ _ _ _ _ | exact Kd.V_nil _ _ _ _ _ | exact Kd.Q_nil _ _ _ _ _ | exact Kd.S_nil _ _ _ _ _, by first | exact Kd.R_nil _ _ _ _ _ | exact Kd.N_nil _ _ _ _ _ | exact Kd.V_nil _ _ _ _ _ | exact Kd.Q_nil _ _ _ _ _ | exact Kd.S_nil _ _ _ _ _, b2 GE605.out GE606.out⟩

end Go.Proofs.Ytchjajbkaiefdaa.PFnClaims
