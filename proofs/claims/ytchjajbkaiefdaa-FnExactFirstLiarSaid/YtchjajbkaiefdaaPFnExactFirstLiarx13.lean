-- Written by a program of this workplace (wip/mp.py) out of the translation.
import Derived.Test.YtchjajbkaiefdaaPFnExactFirstLiarx0
import Derived.Test.YtchjajbkaiefdaaPFnExactFirstLiarx10
import Derived.Test.YtchjajbkaiefdaaPFnExactFirstLiarx11
import Derived.Test.YtchjajbkaiefdaaPFnExactFirstLiarx12
namespace Go.Proofs.Ytchjajbkaiefdaa.PFnExactFirstLiar
open Go.RowKit Go.Proofs.YtchjajbkaiefdaaW.PrintWords Go.Proofs.YtchjajbkaiefdaaW.PrintLast Go.Proofs.YtchjajbkaiefdaaW.PrintMore Go.Proofs.Ytchjajbkaiefdaa.Slim
attribute [local go_sem] max2_int min2_int max_two min_two max_three min_three max_four min_four   -- for this text's walks alone
set_option linter.unusedVariables false
set_option linter.unusedSimpArgs false

/-! ### impl_Liar: function 12 -/
def impl_Liar.f (k : Nat) (a0 : Int) (l1 : List (List Int)) (a2_0 : Int) (a2_1 : Int) (l2_2 : List Int) (l2_3 : List Int) : Option (List Int × List Int × Bool) := (impl_TreeRoot.f k a0 l1).bind fun t523 => ((impl_Proven.f k a0 t523 a2_0 a2_1 l2_2 l2_3).bind fun t524 => (if t524 = true then (if a2_0 = (l1.length : Int) then (if 0 ≤ a2_1 then (if a2_1 < (l1.length : Int) then ((impl_path.f k a0 l1 a2_1).bind fun t526 => ((impl_FromPaths.f k a0 a2_0 a2_1 (rd_L1 l1 a2_1) t526 l2_2 l2_3).bind fun bt529 => (some (bt529.1, bt529.2.1, bt529.2.2)))) else (none)) else (none)) else ((impl_climb.f k a0 a2_0 a2_1 l2_2 l2_3).bind fun bt536 => ((impl_topOf.f k a0 l1).bind fun t540 => (if 0 ≤ (wrap64 ((bt536.1.length : Int) - 1)) then (if (wrap64 ((bt536.1.length : Int) - 1)) < (bt536.1.length : Int) then (some (t540, rd_L1 bt536.1 (wrap64 ((bt536.1.length : Int) - 1)), true)) else (none)) else (none))))) else (some (([] : List Int), ([] : List Int), false))))
def impl_Liar.T1 : Bool × List (List Nat × List Nat) := (true, [([], []), ([], []), ([], []), ([1, 2], [1, 2]), ([], []), ([4], [4]), ([], []), ([6], [6]), ([], []), ([8], [8]), ([], []), ([10], [10]), ([0, 3, 5, 7, 9, 11, 3], [0, 3, 5, 7, 9, 11]), ([12], [12])])
def impl_Liar.B1 : List Nat := [0, 0, 0, 6, 0, 16, 0, 64, 0, 256, 0, 1024, 4095, 8191]
theorem impl_Liar.tab1 : rtab .any (opsOf Try.f12 1) = impl_Liar.T1 := by kernel_rfl
theorem impl_Liar.bits1 : waitsOk impl_Liar.T1.2 impl_Liar.B1 = true := by kernel_rfl
def impl_Liar.T4 : Bool × List (List Nat × List Nat) := (true, [([], []), ([], []), ([1], [1]), ([], []), ([3], [3]), ([], []), ([], []), ([6], [6]), ([5, 7], [5, 7]), ([8], [8]), ([], []), ([], []), ([], []), ([12], [12]), ([10, 11, 13], [10, 11, 13]), ([], []), ([15], [15]), ([], []), ([17], [17]), ([0, 2, 4, 9, 14, 16, 18, 14], [0, 2, 4, 9, 14, 16, 18]), ([19], [19]), ([19], [19]), ([20, 19, 0, 1, 2, 3, 4, 5, 6, 7, 8, 9, 10, 11, 12, 13, 14, 15, 16, 17, 18, 19, 20, 21], [20]), ([21, 22, 0, 1, 2, 3, 4, 5, 6, 7, 8, 9, 10, 11, 12, 13, 14, 15, 16, 17, 18, 19, 20, 21, 22], [21])])
def impl_Liar.B4 : List Nat := [0, 0, 2, 0, 8, 0, 0, 64, 224, 480, 0, 0, 0, 4096, 15360, 0, 32768, 0, 131072, 524287, 1048575, 1048575, 4194303, 8388607]
theorem impl_Liar.tab4 : rtab .any (opsOf Try.f12 4) = impl_Liar.T4 := by kernel_rfl
theorem impl_Liar.bits4 : waitsOk impl_Liar.T4.2 impl_Liar.B4 = true := by kernel_rfl
def impl_Liar.T6 : Bool × List (List Nat × List Nat) := (true, [([], []), ([], []), ([0, 1], [0, 1]), ([], []), ([], []), ([4], [4]), ([5], [5]), ([3, 6], [3, 6]), ([7], [7]), ([2, 8], [2, 8]), ([9, 2, 0, 1, 2, 3, 4, 5, 6, 7, 8, 9], [9]), ([10, 0, 1, 2, 3, 4, 5, 6, 7, 8, 9, 10], [])])
def impl_Liar.B6 : List Nat := [0, 0, 3, 0, 0, 16, 48, 120, 248, 511, 1023, 2047]
theorem impl_Liar.tab6 : rtab .any (opsOf Try.f12 6) = impl_Liar.T6 := by kernel_rfl
theorem impl_Liar.bits6 : waitsOk impl_Liar.T6.2 impl_Liar.B6 = true := by kernel_rfl
set_option maxHeartbeats 8000000 in
set_option maxRecDepth 100000 in
theorem impl_Liar.calls (k : Nat) (a0 : Int) (A1 : Option Addr) (c1 : Nat) (l1 : List (List Int)) (a2_0 : Int) (a2_1 : Int) (A2_2 : Option Addr) (c2_2 : Nat) (l2_2 : List Int) (A2_3 : Option Addr) (c2_3 : Nat) (l2_3 : List Int) (r1 : List Int) (r2 : List Int) (r3 : Bool) (w : World) (hr1 : Kd.C (Kd.slice 5 (Kd.int .u8)) w A1 l1.length l1) (hc1 : l1.length ≤ c1) (hr2_2 : Kd.C (Kd.int .u8) w A2_2 l2_2.length l2_2) (hc2_2 : l2_2.length ≤ c2_2) (hr2_3 : Kd.C (Kd.int .i64) w A2_3 l2_3.length l2_3) (hc2_3 : l2_3.length ≤ c2_3) (h : impl_Liar.f k a0 l1 a2_0 a2_1 l2_2 l2_3 = some (r1, r2, r3)) :
  Calls Try.prog 12 #[.int .i64 a0, .slice A1 l1.length c1, .agg #[.int .i64 a2_0, .int .i64 a2_1, .slice A2_2 l2_2.length c2_2, .slice A2_3 l2_3.length c2_3]] w fun e w' => ∃ v0_ v1_ : Value, e = .returned (.tuple #[.agg #[v0_, v1_], .bool r3]) ∧ Kd.R (Kd.int .u8) 5 w' w.heap.size (fun k_ => some k_ ≠ (v1_ : Value).ownBlock) v0_ r1 ∧ Kd.R (Kd.int .u8) 5 w' w.heap.size (fun k_ => some k_ ≠ (v0_ : Value).ownBlock) v1_ r2 ∧ Below w.heap.size w w' := by
 have hu31 := Try.underlying31
 have hu33 := Try.underlying33
 have HR1 := Aside0.mk hr1
 have HC1 := Aside0.mk hc1
 clear hr1 hc1
 have HR2_2 := Aside0.mk hr2_2
 have HC2_2 := Aside0.mk hc2_2
 clear hr2_2 hc2_2
 have HR2_3 := Aside0.mk hr2_3
 have HC2_3 := Aside0.mk hc2_3
 clear hr2_3 hc2_3
 have HB := Aside0.mk (Below.refl w.heap.size w)
 have H : ((impl_TreeRoot.f k a0 l1).bind fun t523 => ((impl_Proven.f k a0 t523 a2_0 a2_1 l2_2 l2_3).bind fun t524 => (if t524 = true then (if a2_0 = (l1.length : Int) then (if 0 ≤ a2_1 then (if a2_1 < (l1.length : Int) then ((impl_path.f k a0 l1 a2_1).bind fun t526 => ((impl_FromPaths.f k a0 a2_0 a2_1 (rd_L1 l1 a2_1) t526 l2_2 l2_3).bind fun bt529 => (some (bt529.1, bt529.2.1, bt529.2.2)))) else (none)) else (none)) else ((impl_climb.f k a0 a2_0 a2_1 l2_2 l2_3).bind fun bt536 => ((impl_topOf.f k a0 l1).bind fun t540 => (if 0 ≤ (wrap64 ((bt536.1.length : Int) - 1)) then (if (wrap64 ((bt536.1.length : Int) - 1)) < (bt536.1.length : Int) then (some (t540, rd_L1 bt536.1 (wrap64 ((bt536.1.length : Int) - 1)), true)) else (none)) else (none))))) else (some (([] : List Int), ([] : List Int), false))))) = some (r1, r2, r3) := h
 clear h
 replace H := Option.bind_eq_some_iff.mp H
 obtain ⟨t523, A40, H⟩ := H
 (try dsimp -simprocs only at H)
 have A4 := Aside0.mk A40
 clear A40
 replace H := Option.bind_eq_some_iff.mp H
 obtain ⟨t524, A50, H⟩ := H
 (try dsimp -simprocs only at H)
 have A5 := Aside0.mk A50
 clear A50
 by_cases c6 : t524 = true
 ·subst c6
  rw [if_pos rfl] at H
  by_cases c7 : a2_0 = (l1.length : Int)
  ·rw [if_pos c7] at H
   have c7b0 : (a2_0 == (l1.length : Int)) = true := beq_iff_eq.mpr c7
   have c7b1 : (a2_0 != (l1.length : Int)) = false := bne_eq_false_iff_eq.mpr c7
   clear c7
   by_cases c8 : 0 ≤ a2_1
   ·rw [if_pos c8] at H
    have c8b0 : decide (0 ≤ a2_1) = true := decide_eq_true c8
    clear c8
    by_cases c9 : a2_1 < (l1.length : Int)
    ·rw [if_pos c9] at H
     have c9b0 : decide (a2_1 < (l1.length : Int)) = true := decide_eq_true c9
     clear c9
     replace H := Option.bind_eq_some_iff.mp H
     obtain ⟨t526, A100, H⟩ := H
     (try dsimp -simprocs only at H)
     have A10 := Aside0.mk A100
     clear A100
     replace H := Option.bind_eq_some_iff.mp H
     obtain ⟨⟨t529, t532, t535⟩, A110, H⟩ := H
     (try dsimp -simprocs only at H)
     have A11 := Aside0.mk A110
     clear A110
     simp only [Option.some.injEq, Prod.mk.injEq] at H
     obtain ⟨rfl, rfl, rfl⟩ := H
     go_enter Try.func12, Try.ntmps12
     try go_wp2_with (first | ((with_reducible refine gate_dst (N := 5) rfl ?_); refine box_event ?hg (N := 5) ?hd (cs := #[.int .i64 a2_0, .int .i64 a2_1, .slice A2_2 l2_2.length c2_2, .slice A2_3 l2_3.length c2_3]) (t := 31) ?hr ?_; (case hd => rfl); (case hg => rfl); (case hr => first | (go_simp; done) | (go_simp; rfl)); intro gb521 hg w12 hbox hb; have BK521 := Aside0.mk (hbox); have GW521 := Aside0.mk ((by rw [hg]; exact (below_size (bt)) : w.heap.size ≤ gb521)); have GE521 := Aside0.mk ((by rw [hg]; exact (below_size (bt)) : w.heap.size ≤ gb521)); replace HB := Aside0.mk (below_step (bt) hb); clear hb hbox hg) | ((with_reducible refine gate_dst (N := 6) rfl ?_); refine box_event ?hg (N := 6) ?hd (cs := #[.slice none 0 0, .slice none 0 0]) (t := 33) ?hr ?_; (case hd => rfl); (case hg => rfl); (case hr => first | (go_simp; done) | (go_simp; rfl)); intro gb522 hg w13 hbox hb; have BK522 := Aside0.mk (hbox); have GW522 := Aside0.mk ((by rw [hg]; exact (below_size (b1 GE521.out)) : w.heap.size ≤ gb522)); have GE522 := Aside0.mk ((by rw [hg]; exact (below_size (b1 GE521.out)) : w.heap.size ≤ gb522)); replace HB := Aside0.mk (below_step (b1 GE521.out) hb); have NB521_522 := Aside0.mk ((by rw [hg]; exact Nat.ne_of_lt (blk_lt (g := gb521) (o := .cells #[.int .i64 a2_0, .int .i64 a2_1, .slice A2_2 l2_2.length c2_2, .slice A2_3 l2_3.length c2_3] 31 (0, 0)) (mb BK521.out)) : gb521 ≠ gb522)); have NB522_521 := Aside0.mk ((by rw [hg]; exact Nat.ne_of_gt (blk_lt (g := gb521) (o := .cells #[.int .i64 a2_0, .int .i64 a2_1, .slice A2_2 l2_2.length c2_2, .slice A2_3 l2_3.length c2_3] 31 (0, 0)) (mb BK521.out)) : gb522 ≠ gb521)); replace BK521 := Aside0.mk (blk_below (g := gb521) (o := .cells #[.int .i64 a2_0, .int .i64 a2_1, .slice A2_2 l2_2.length c2_2, .slice A2_3 l2_3.length c2_3] 31 (0, 0)) (mb BK521.out) hb); clear hb hbox hg))
     have n0_ := Aside0.mk (blk_drew BK521.out)
     have n1_ := Aside0.mk (blk_drew BK522.out)
     have n2_ := Aside0.mk (below_drew1 HB.out)
     clear BK521
     clear BK522
     clear HB
     have BK521 := n0_
     have BK522 := n1_
     have HB := n2_
     clear n0_ n1_ n2_
     refine start_ (n := 14) (S := fun w' => w'.cell? ⟨gb521, 0, none⟩ = some (.int .i64 a2_0) ∧ w'.cell? ⟨gb521, 1, none⟩ = some (.int .i64 a2_1) ∧ w'.cell? ⟨gb521, 2, none⟩ = some (.slice A2_2 l2_2.length c2_2) ∧ w'.cell? ⟨gb521, 3, none⟩ = some (.slice A2_3 l2_3.length c2_3)) (ds := []) #[false, false, false, false, false, false, false, false, false, false, false, false, false, false] (by kernel_rfl) rfl rfl ⟨(blk_cell BK521.out 0).trans rfl, (blk_cell BK521.out 1).trans rfl, (blk_cell BK521.out 2).trans rfl, (blk_cell BK521.out 3).trans rfl⟩ (fun hHeld => ?_); refine with_tabW impl_Liar.tab1 impl_Liar.bits1 (fun HT_ HW_ => ?_)
     generalize w13.drew = w14 at BK521 BK522 HB hHeld ⊢
     refine pz (i := 0) (N := some 10) #[true, false, false, false, false, false, false, false, false, false, false, false, false, false] rfl rfl HT_.out ?_
     refine pz (i := 1) (N := some 11) #[true, true, false, false, false, false, false, false, false, false, false, false, false, false] rfl rfl HT_.out ?_
     refine pz (i := 2) (N := some 12) #[true, true, true, false, false, false, false, false, false, false, false, false, false, false] rfl rfl HT_.out ?_
     refine pz (i := 4) (N := some 14) #[true, true, true, false, true, false, false, false, false, false, false, false, false, false] rfl rfl HT_.out ?_
     refine pz (i := 6) (N := some 16) #[true, true, true, false, true, false, true, false, false, false, false, false, false, false] rfl rfl HT_.out ?_
     refine pz (i := 8) (N := some 18) #[true, true, true, false, true, false, true, false, true, false, false, false, false, false] rfl rfl HT_.out ?_
     refine pz (i := 10) (N := some 20) #[true, true, true, false, true, false, true, false, true, false, true, false, false, false] rfl rfl HT_.out ?_
     refine tz (i := 5) (N := some 15) #[true, true, true, false, true, true, true, false, true, false, true, false, false, false] rfl rfl HT_.out HW_.out hHeld (Or.inl ⟨by rfl, by rintro w' ⟨s0, s1, s2, s3⟩; go_simp; with_reducible rfl⟩) ?_
     refine tz (i := 7) (N := some 17) #[true, true, true, false, true, true, true, true, true, false, true, false, false, false] rfl rfl HT_.out HW_.out hHeld (Or.inl ⟨by rfl, by rintro w' ⟨s0, s1, s2, s3⟩; go_simp; with_reducible rfl⟩) ?_
     refine tz (i := 9) (N := some 19) #[true, true, true, false, true, true, true, true, true, true, true, false, false, false] rfl rfl HT_.out HW_.out hHeld (Or.inl ⟨by rfl, by rintro w' ⟨s0, s1, s2, s3⟩; go_simp; with_reducible rfl⟩) ?_
     refine tz (i := 11) (N := some 21) #[true, true, true, false, true, true, true, true, true, true, true, true, false, false] rfl rfl HT_.out HW_.out hHeld (Or.inl ⟨by rfl, by rintro w' ⟨s0, s1, s2, s3⟩; go_simp; with_reducible rfl⟩) ?_
     refine one_ (i := 3) (N := some 13) #[true, true, true, true, true, true, true, true, true, true, true, true, false, false] rfl rfl (one_of HT_.out (by kernel_rfl)) (by decide) (fun K hK => ?_)
     refine goes_ Try.func11 (by kernel_rfl) rfl #[.int .i64 a0, .slice A1 l1.length c1] (by rfl) rfl rfl av ?_
     with_reducible refine (impl_TreeRoot.calls k a0 _ _ l1 t523 _ ?side1 ?side2 A4.out).mono ?_
     (case side1 => exact cv ((Kd.C_below HR1.out HB.out)))
     (case side2 => exact HC1.out)
     rintro e w15 ⟨rfl, hb⟩
     refine ⟨_, rfl, ?_⟩
     have n0_ := Aside0.mk (blk_below (g := gb521) (o := .cells #[.int .i64 a2_0, .int .i64 a2_1, .slice A2_2 l2_2.length c2_2, .slice A2_3 l2_3.length c2_3] 31 (0, 0)) (mb BK521.out) hb)
     have n1_ := Aside0.mk (blk_below (g := gb522) (o := .cells #[.slice none 0 0, .slice none 0 0] 33 (0, 0)) (mb BK522.out) hb)
     have n2_ := Aside0.mk (below_step (by repeat (first | (with_reducible first | exact HB.out | apply below_alloc | apply pw_below_drewN | apply below_drew1 | refine below_set ?_ GE521.out | refine below_set ?_ GE522.out) | exact HB.out)) hb)
     clear BK521
     clear BK522
     clear HB
     have BK521 := n0_
     have BK522 := n1_
     have HB := n2_
     clear n0_ n1_ n2_
     (try clear hb)
     (try clear hb2)
     (try clear hk)
     (try clear hi)
     refine hK.out _ _ ⟨(blk_cell BK521.out 0).trans rfl, (blk_cell BK521.out 1).trans rfl, (blk_cell BK521.out 2).trans rfl, (blk_cell BK521.out 3).trans rfl⟩ (fun hHeld => ?_)
     clear hK K
     refine nz (N := some 13) ?_
     refine one_ (i := 12) (N := some 22) #[true, true, true, true, true, true, true, true, true, true, true, true, true, false] rfl rfl (one_of HT_.out (by kernel_rfl)) (by decide) (fun K hK => ?_)
     refine goes_ Try.func14 (by kernel_rfl) rfl #[.int .i64 a0, .int .i64 t523, .int .i64 a2_0, .int .i64 a2_1, .slice A2_2 l2_2.length c2_2, .slice A2_3 l2_3.length c2_3] (by rfl) rfl rfl av ?_
     with_reducible refine (impl_Proven.calls k a0 t523 a2_0 a2_1 _ _ l2_2 _ _ l2_3 true _ ?side1 ?side2 ?side3 ?side4 A5.out).mono ?_
     (case side1 => exact cv ((Kd.C_below HR2_2.out HB.out)))
     (case side2 => exact HC2_2.out)
     (case side3 => exact cv ((Kd.C_below HR2_3.out HB.out)))
     (case side4 => exact HC2_3.out)
     rintro e w16 ⟨rfl, hb⟩
     refine ⟨_, rfl, ?_⟩
     have n0_ := Aside0.mk (blk_below (g := gb521) (o := .cells #[.int .i64 a2_0, .int .i64 a2_1, .slice A2_2 l2_2.length c2_2, .slice A2_3 l2_3.length c2_3] 31 (0, 0)) (mb BK521.out) hb)
     have n1_ := Aside0.mk (blk_below (g := gb522) (o := .cells #[.slice none 0 0, .slice none 0 0] 33 (0, 0)) (mb BK522.out) hb)
     have n2_ := Aside0.mk (below_step (by repeat (first | (with_reducible first | exact HB.out | apply below_alloc | apply pw_below_drewN | apply below_drew1 | refine below_set ?_ GE521.out | refine below_set ?_ GE522.out) | exact HB.out)) hb)
     clear BK521
     clear BK522
     clear HB
     have BK521 := n0_
     have BK522 := n1_
     have HB := n2_
     clear n0_ n1_ n2_
     (try clear hb)
     (try clear hb2)
     (try clear hk)
     (try clear hi)
     refine hK.out _ _ ⟨(blk_cell BK521.out 0).trans rfl, (blk_cell BK521.out 1).trans rfl, (blk_cell BK521.out 2).trans rfl, (blk_cell BK521.out 3).trans rfl⟩ (fun hHeld => ?_)
     clear hK K
     refine nz (N := some 22) ?_
     refine pz (i := 13) (N := some 23) #[true, true, true, true, true, true, true, true, true, true, true, true, true, true] rfl rfl HT_.out ?_
     refine done_ (done_of HT_.out (by kernel_rfl)) ?_
     have hnb17 := NB521_522.out
     have hnc17 := NB522_521.out
     have hcz18_0 : w16.cell? ⟨gb521, 0, none⟩ = some (.int .i64 a2_0) := (blk_cell BK521.out 0).trans rfl
     have hcz18_1 : w16.cell? ⟨gb521, 1, none⟩ = some (.int .i64 a2_1) := (blk_cell BK521.out 1).trans rfl
     have hcz18_2 : w16.cell? ⟨gb521, 2, none⟩ = some (.slice A2_2 l2_2.length c2_2) := (blk_cell BK521.out 2).trans rfl
     have hcz18_3 : w16.cell? ⟨gb521, 3, none⟩ = some (.slice A2_3 l2_3.length c2_3) := (blk_cell BK521.out 3).trans rfl
     have hfz18_0 := blk_frozen BK521.out 0
     have hfz18_1 := blk_frozen BK521.out 1
     have hfz18_2 := blk_frozen BK521.out 2
     have hfz18_3 := blk_frozen BK521.out 3
     try go_wp2
     have n0_ := Aside0.mk (blk_drew BK521.out)
     have n1_ := Aside0.mk (blk_drew BK522.out)
     have n2_ := Aside0.mk (below_drew1 HB.out)
     clear BK521
     clear BK522
     clear HB
     have BK521 := n0_
     have BK522 := n1_
     have HB := n2_
     clear n0_ n1_ n2_
     have p525 : 0 ≤ (a2_1 : Int) := of_decide_eq_true asm
     have q525 : a2_1 < (l1.length : Int) := of_decide_eq_true asm
     obtain ⟨ad525, A525_0, c525_0, e525, hx525_0, hl525_0, hi525_0⟩ := at_L1 HR1.out a2_1 p525 q525
     have hw525_0 := hx525_0
     cases e525
     replace hx525_0 := (HB.out.cell (World.block_lt_of_cell? w _ hx525_0)).trans hx525_0
     have HR525_0 := Aside0.mk hi525_0
     have HC525_0 := Aside0.mk hl525_0
     clear hi525_0 hl525_0
     replace p525 := eq_true p525
     replace q525 := eq_true q525
     refine start_ (n := 24) (S := fun w' => w'.cell? ⟨gb521, 0, none⟩ = some (.int .i64 a2_0) ∧ w'.cell? ⟨gb521, 1, none⟩ = some (.int .i64 a2_1) ∧ w'.cell? ⟨gb521, 2, none⟩ = some (.slice A2_2 l2_2.length c2_2) ∧ w'.cell? ⟨gb521, 3, none⟩ = some (.slice A2_3 l2_3.length c2_3) ∧ w'.cell? (ad525.add (a2_1).toNat) = some (.slice A525_0 (rd_L1 l1 a2_1).length c525_0)) (ds := []) #[false, false, false, false, false, false, false, false, false, false, false, false, false, false, false, false, false, false, false, false, false, false, false, false] (by kernel_rfl) rfl rfl ⟨(blk_cell BK521.out 0).trans rfl, (blk_cell BK521.out 1).trans rfl, (blk_cell BK521.out 2).trans rfl, (blk_cell BK521.out 3).trans rfl, ((HB.out.cell (World.block_lt_of_cell? w _ hw525_0)).trans hw525_0)⟩ (fun hHeld => ?_); refine with_tabW impl_Liar.tab4 impl_Liar.bits4 (fun HT_ HW_ => ?_)
     generalize w16.drew = w19 at BK521 BK522 HB HR525_0 hx525_0 hHeld ⊢
     refine pz (i := 0) (N := some 30) #[true, false, false, false, false, false, false, false, false, false, false, false, false, false, false, false, false, false, false, false, false, false, false, false] rfl rfl HT_.out ?_
     refine pz (i := 1) (N := some 31) #[true, true, false, false, false, false, false, false, false, false, false, false, false, false, false, false, false, false, false, false, false, false, false, false] rfl rfl HT_.out ?_
     refine pz (i := 3) (N := some 33) #[true, true, false, true, false, false, false, false, false, false, false, false, false, false, false, false, false, false, false, false, false, false, false, false] rfl rfl HT_.out ?_
     refine pz (i := 5) (N := some 35) #[true, true, false, true, false, true, false, false, false, false, false, false, false, false, false, false, false, false, false, false, false, false, false, false] rfl rfl HT_.out ?_
     refine pz (i := 6) (N := some 36) #[true, true, false, true, false, true, true, false, false, false, false, false, false, false, false, false, false, false, false, false, false, false, false, false] rfl rfl HT_.out ?_
     refine pz (i := 10) (N := some 40) #[true, true, false, true, false, true, true, false, false, false, true, false, false, false, false, false, false, false, false, false, false, false, false, false] rfl rfl HT_.out ?_
     refine pz (i := 11) (N := some 41) #[true, true, false, true, false, true, true, false, false, false, true, true, false, false, false, false, false, false, false, false, false, false, false, false] rfl rfl HT_.out ?_
     refine pz (i := 12) (N := some 42) #[true, true, false, true, false, true, true, false, false, false, true, true, true, false, false, false, false, false, false, false, false, false, false, false] rfl rfl HT_.out ?_
     refine pz (i := 15) (N := some 45) #[true, true, false, true, false, true, true, false, false, false, true, true, true, false, false, true, false, false, false, false, false, false, false, false] rfl rfl HT_.out ?_
     refine pz (i := 17) (N := some 47) #[true, true, false, true, false, true, true, false, false, false, true, true, true, false, false, true, false, true, false, false, false, false, false, false] rfl rfl HT_.out ?_
     refine tz (i := 2) (N := some 32) #[true, true, true, true, false, true, true, false, false, false, true, true, true, false, false, true, false, true, false, false, false, false, false, false] rfl rfl HT_.out HW_.out hHeld (Or.inl ⟨by rfl, by rintro w' ⟨s0, s1, s2, s3, s4⟩; go_simp; with_reducible rfl⟩) ?_
     refine tz (i := 4) (N := some 34) #[true, true, true, true, true, true, true, false, false, false, true, true, true, false, false, true, false, true, false, false, false, false, false, false] rfl rfl HT_.out HW_.out hHeld (Or.inl ⟨by rfl, by rintro w' ⟨s0, s1, s2, s3, s4⟩; go_simp; with_reducible rfl⟩) ?_
     refine tz (i := 7) (N := some 37) #[true, true, true, true, true, true, true, true, false, false, true, true, true, false, false, true, false, true, false, false, false, false, false, false] rfl rfl HT_.out HW_.out hHeld (Or.inl ⟨by rfl, by rintro w' ⟨s0, s1, s2, s3, s4⟩; go_simp; with_reducible rfl⟩) ?_
     refine pz (i := 8) (N := some 38) #[true, true, true, true, true, true, true, true, true, false, true, true, true, false, false, true, false, true, false, false, false, false, false, false] rfl rfl HT_.out ?_
     refine tz (i := 9) (N := some 39) #[true, true, true, true, true, true, true, true, true, true, true, true, true, false, false, true, false, true, false, false, false, false, false, false] rfl rfl HT_.out HW_.out hHeld (Or.inl ⟨by rfl, by rintro w' ⟨s0, s1, s2, s3, s4⟩; go_simp; with_reducible rfl⟩) ?_
     refine tz (i := 13) (N := some 43) #[true, true, true, true, true, true, true, true, true, true, true, true, true, true, false, true, false, true, false, false, false, false, false, false] rfl rfl HT_.out HW_.out hHeld (Or.inl ⟨by rfl, by rintro w' ⟨s0, s1, s2, s3, s4⟩; go_simp; with_reducible rfl⟩) ?_
     refine tz (i := 16) (N := some 46) #[true, true, true, true, true, true, true, true, true, true, true, true, true, true, false, true, true, true, false, false, false, false, false, false] rfl rfl HT_.out HW_.out hHeld (Or.inl ⟨by rfl, by rintro w' ⟨s0, s1, s2, s3, s4⟩; go_simp; with_reducible rfl⟩) ?_
     refine tz (i := 18) (N := some 48) #[true, true, true, true, true, true, true, true, true, true, true, true, true, true, false, true, true, true, true, false, false, false, false, false] rfl rfl HT_.out HW_.out hHeld (Or.inl ⟨by rfl, by rintro w' ⟨s0, s1, s2, s3, s4⟩; go_simp; with_reducible rfl⟩) ?_
     refine one_ (i := 14) (N := some 44) #[true, true, true, true, true, true, true, true, true, true, true, true, true, true, true, true, true, true, true, false, false, false, false, false] rfl rfl (one_of HT_.out (by kernel_rfl)) (by decide) (fun K hK => ?_)
     refine goes_ Try.func58 (by kernel_rfl) rfl #[.int .i64 a0, .slice (some ad525) l1.length c1, .int .i64 a2_1] (by rfl) rfl rfl av ?_
     with_reducible refine (impl_path.calls k a0 _ _ l1 a2_1 t526 _ ?side1 ?side2 A10.out).mono ?_
     (case side1 => exact cv ((Kd.C_below HR1.out HB.out)))
     (case side2 => exact HC1.out)
     rintro e w20 ⟨v527, rfl, ho0, hb⟩
     refine ⟨_, rfl, ?_⟩
     have n0_ := Aside0.mk (Kd.R_lower ho0 (below_size (by repeat (first | (with_reducible first | exact HB.out | apply below_alloc | apply pw_below_drewN | apply below_drew1 | refine below_set ?_ GE521.out | refine below_set ?_ GE522.out) | exact HB.out))))
     have n1_ := Aside0.mk (blk_below (g := gb521) (o := .cells #[.int .i64 a2_0, .int .i64 a2_1, .slice A2_2 l2_2.length c2_2, .slice A2_3 l2_3.length c2_3] 31 (0, 0)) (mb BK521.out) hb)
     have n2_ := Aside0.mk (blk_below (g := gb522) (o := .cells #[.slice none 0 0, .slice none 0 0] 33 (0, 0)) (mb BK522.out) hb)
     have n3_ := Aside0.mk (below_step (by repeat (first | (with_reducible first | exact HB.out | apply below_alloc | apply pw_below_drewN | apply below_drew1 | refine below_set ?_ GE521.out | refine below_set ?_ GE522.out) | exact HB.out)) hb)
     clear BK521
     clear BK522
     clear HB
     have HO528 := n0_
     have BK521 := n1_
     have BK522 := n2_
     have HB := n3_
     clear n0_ n1_ n2_ n3_
     (try clear hb)
     (try clear hb2)
     (try clear hk)
     (try clear hi)
     (try clear ho0)
     obtain ⟨Ao21, co21, eo21⟩ := Kd.R_slice HO528.out
     (first | subst eo21 | (injection eo21 with f1_ f2_ f3_; have f4_ := f1_.symm; have f5_ := f3_.symm; clear f1_ f2_ f3_; subst f4_; subst f5_))
     refine hK.out _ _ ⟨(blk_cell BK521.out 0).trans rfl, (blk_cell BK521.out 1).trans rfl, (blk_cell BK521.out 2).trans rfl, (blk_cell BK521.out 3).trans rfl, ((HB.out.cell (World.block_lt_of_cell? w _ hw525_0)).trans hw525_0)⟩ (fun hHeld => ?_)
     clear hK K
     refine nz (N := some 44) ?_
     refine one_ (i := 19) (N := some 49) #[true, true, true, true, true, true, true, true, true, true, true, true, true, true, true, true, true, true, true, true, false, false, false, false] rfl rfl (one_of HT_.out (by kernel_rfl)) (by decide) (fun K hK => ?_)
     refine goes_ Try.func21 (by kernel_rfl) rfl #[.int .i64 a0, .int .i64 a2_0, .int .i64 a2_1, .slice A525_0 (rd_L1 l1 a2_1).length c525_0, .slice Ao21 t526.length co21, .slice A2_2 l2_2.length c2_2, .slice A2_3 l2_3.length c2_3] (by rfl) rfl rfl av ?_
     with_reducible refine (impl_FromPaths.calls k a0 a2_0 a2_1 _ _ (rd_L1 l1 a2_1) _ _ t526 _ _ l2_2 _ _ l2_3 t529 t532 t535 _ ?side1 ?side2 ?side3 ?side4 ?side5 ?side6 ?side7 ?side8 A11.out).mono ?_
     (case side1 => exact cv ((Kd.C_below HR525_0.out HB.out)))
     (case side2 => exact HC525_0.out)
     (case side3 => exact cv ((Kd.R_reads' HO528.out).2.2))
     (case side4 => exact (Kd.R_reads' HO528.out).2.1)
     (case side5 => exact cv ((Kd.C_below HR2_2.out HB.out)))
     (case side6 => exact HC2_2.out)
     (case side7 => exact cv ((Kd.C_below HR2_3.out HB.out)))
     (case side8 => exact HC2_3.out)
     rintro e w22 ⟨v530, v533, rfl, ho0, ho1, hb⟩
     refine ⟨_, rfl, ?_⟩
     have n0_ := Aside0.mk (Kd.R_below (mv HO528.out) hb)
     have n1_ := Aside0.mk (Kd.R_lower ho0 (below_size (by repeat (first | (with_reducible first | exact HB.out | apply below_alloc | apply pw_below_drewN | apply below_drew1 | refine below_set ?_ GE521.out | refine below_set ?_ GE522.out) | exact HB.out))))
     have n2_ := Aside0.mk (Kd.R_lower ho1 (below_size (by repeat (first | (with_reducible first | exact HB.out | apply below_alloc | apply pw_below_drewN | apply below_drew1 | refine below_set ?_ GE521.out | refine below_set ?_ GE522.out) | exact HB.out))))
     have n3_ := Aside0.mk (blk_below (g := gb521) (o := .cells #[.int .i64 a2_0, .int .i64 a2_1, .slice A2_2 l2_2.length c2_2, .slice A2_3 l2_3.length c2_3] 31 (0, 0)) (mb BK521.out) hb)
     have n4_ := Aside0.mk (blk_below (g := gb522) (o := .cells #[.slice none 0 0, .slice none 0 0] 33 (0, 0)) (mb BK522.out) hb)
     have n5_ := Aside0.mk (below_step (by repeat (first | (with_reducible first | exact HB.out | apply below_alloc | apply pw_below_drewN | apply below_drew1 | refine below_set ?_ GE521.out | refine below_set ?_ GE522.out) | exact HB.out)) hb)
     clear HO528
     clear BK521
     clear BK522
     clear HB
     have HO528 := n0_
     have HO531 := n1_
     have HO534 := n2_
     have BK521 := n3_
     have BK522 := n4_
     have HB := n5_
     clear n0_ n1_ n2_ n3_ n4_ n5_
     (try clear hb)
     (try clear hb2)
     (try clear hk)
     (try clear hi)
     (try clear ho0)
     (try clear ho1)
     obtain ⟨Ao23, co23, eo23⟩ := Kd.R_slice HO531.out
     (first | subst eo23 | (injection eo23 with f1_ f2_ f3_; have f4_ := f1_.symm; have f5_ := f3_.symm; clear f1_ f2_ f3_; subst f4_; subst f5_))
     obtain ⟨Ao25, co25, eo25⟩ := Kd.R_slice HO534.out
     (first | subst eo25 | (injection eo25 with f1_ f2_ f3_; have f4_ := f1_.symm; have f5_ := f3_.symm; clear f1_ f2_ f3_; subst f4_; subst f5_))
     refine hK.out _ _ ⟨(blk_cell BK521.out 0).trans rfl, (blk_cell BK521.out 1).trans rfl, (blk_cell BK521.out 2).trans rfl, (blk_cell BK521.out 3).trans rfl, ((HB.out.cell (World.block_lt_of_cell? w _ hw525_0)).trans hw525_0)⟩ (fun hHeld => ?_)
     clear hK K
     refine nz (N := some 49) ?_
     refine pz (i := 20) (N := some 50) #[true, true, true, true, true, true, true, true, true, true, true, true, true, true, true, true, true, true, true, true, true, false, false, false] rfl rfl HT_.out ?_
     refine pz (i := 21) (N := some 51) #[true, true, true, true, true, true, true, true, true, true, true, true, true, true, true, true, true, true, true, true, true, true, false, false] rfl rfl HT_.out ?_
     refine one_ (i := 22) (N := none) #[true, true, true, true, true, true, true, true, true, true, true, true, true, true, true, true, true, true, true, true, true, true, true, false] rfl rfl (one_of HT_.out (by kernel_rfl)) (by decide) (fun K hK => ?_)
     have hs24 : w22.cell? ⟨gb522, 0, none⟩ = some (.slice none 0 0) := (blk_cell BK522.out 0).trans rfl
     have hfs24 := blk_frozen BK522.out 0
     have hns24_0 := NB521_522.out
     have hms24_0 := NB522_521.out
     have hs26 : w22.cell? ⟨gb522, 1, none⟩ = some (.slice none 0 0) := (blk_cell BK522.out 1).trans rfl
     have hfs26 := blk_frozen BK522.out 1
     have hns26_0 := NB521_522.out
     have hms26_0 := NB522_521.out
     refine skip_ (w1 := ?_) (by rfl) rfl ?_ ?_
     rotate_left
     ·go_simp
      rfl
     refine hK.out _ _ ⟨((cell_far (p := ⟨gb522, _, none⟩) NB521_522.out _).trans (((cell_far (p := ⟨gb522, _, none⟩) NB521_522.out _).trans (hHeld.1)))), ((cell_far (p := ⟨gb522, _, none⟩) NB521_522.out _).trans (((cell_far (p := ⟨gb522, _, none⟩) NB521_522.out _).trans (hHeld.2.1)))), ((cell_far (p := ⟨gb522, _, none⟩) NB521_522.out _).trans (((cell_far (p := ⟨gb522, _, none⟩) NB521_522.out _).trans (hHeld.2.2.1)))), ((cell_far (p := ⟨gb522, _, none⟩) NB521_522.out _).trans (((cell_far (p := ⟨gb522, _, none⟩) NB521_522.out _).trans (hHeld.2.2.2.1)))), ((cell_far (p := ⟨gb522, _, none⟩) (by first | exact Nat.ne_of_lt (Nat.lt_of_lt_of_le (by have := World.block_lt_of_cell? _ _ hw525_0; first | rwa [add_block] at this | exact this) GW522.out) | (rw [add_block]; exact Nat.ne_of_lt (Nat.lt_of_lt_of_le (by have := World.block_lt_of_cell? _ _ hw525_0; first | rwa [add_block] at this | exact this) GW522.out)) | (show (Addr.add _ _).block ≠ _; rw [add_block]; exact Nat.ne_of_lt (Nat.lt_of_lt_of_le (by have := World.block_lt_of_cell? _ _ hw525_0; first | rwa [add_block] at this | exact this) GW522.out)) | (dsimp only; exact Nat.ne_of_lt (Nat.lt_of_lt_of_le (by have := World.block_lt_of_cell? _ _ hw525_0; first | rwa [add_block] at this | exact this) GW522.out))) _).trans (((cell_far (p := ⟨gb522, _, none⟩) (by first | exact Nat.ne_of_lt (Nat.lt_of_lt_of_le (by have := World.block_lt_of_cell? _ _ hw525_0; first | rwa [add_block] at this | exact this) GW522.out) | (rw [add_block]; exact Nat.ne_of_lt (Nat.lt_of_lt_of_le (by have := World.block_lt_of_cell? _ _ hw525_0; first | rwa [add_block] at this | exact this) GW522.out)) | (show (Addr.add _ _).block ≠ _; rw [add_block]; exact Nat.ne_of_lt (Nat.lt_of_lt_of_le (by have := World.block_lt_of_cell? _ _ hw525_0; first | rwa [add_block] at this | exact this) GW522.out)) | (dsimp only; exact Nat.ne_of_lt (Nat.lt_of_lt_of_le (by have := World.block_lt_of_cell? _ _ hw525_0; first | rwa [add_block] at this | exact this) GW522.out))) _).trans (hHeld.2.2.2.2))))⟩ (fun hHeld => ?_)
     clear hK K
     refine pz (i := 23) (N := some 7) #[true, true, true, true, true, true, true, true, true, true, true, true, true, true, true, true, true, true, true, true, true, true, true, true] rfl rfl HT_.out ?_
     refine done_ (done_of HT_.out (by kernel_rfl)) ?_
     (try simp only [Dig.setCell_drewN])
     try go_wp2
     refine bodyPost_ret (results_ct rfl _ _ gb522 33 #[.slice Ao23 t529.length co23, .slice Ao25 t532.length co25] (0, 0) _ rfl (by (with_reducible repeat (first | refine blk_drewN ?_ _ | refine blk_drew ?_ | refine blk_alloc ?_ _)); refine blk_put (cs := #[.slice Ao23 t529.length co23, .slice none 0 0]) ?_ 1 _ rfl; (with_reducible repeat (first | refine blk_drewN ?_ _ | refine blk_drew ?_ | refine blk_alloc ?_ _)); refine blk_put (cs := #[.slice none 0 0, .slice none 0 0]) ?_ 0 _ rfl; (with_reducible repeat (first | refine blk_drewN ?_ _ | refine blk_drew ?_ | refine blk_alloc ?_ _)); exact BK522.out) Try.underlying33 rfl (by kernel_rfl)) rfl ?_
     exact ⟨_, _, by first | rfl | (simp [errW_none, errW_some] <;> rfl) | (simp [*, errW_none, errW_some] <;> rfl), by (with_reducible repeat (first | apply Kd.R_alloc | apply Kd.R_drewN | apply Kd.R_drew)); exact Kd.R_mono (Kd.R_far (p := ⟨gb522, 1, none⟩) (Kd.R_far (p := ⟨gb522, 0, none⟩) (Kd.R_types HO531.out BK522.out (by decide)) (fun _ hk => hk.2) (.slice Ao23 t529.length co23)) (fun _ hk => hk.2) (.slice Ao25 t532.length co25)) (fun _ hk => hk.1), by (with_reducible repeat (first | apply Kd.R_alloc | apply Kd.R_drewN | apply Kd.R_drew)); exact Kd.R_mono (Kd.R_far (p := ⟨gb522, 1, none⟩) (Kd.R_far (p := ⟨gb522, 0, none⟩) (Kd.R_types HO534.out BK522.out (by decide)) (fun _ hk => hk.2) (.slice Ao23 t529.length co23)) (fun _ hk => hk.2) (.slice Ao25 t532.length co25)) (fun _ hk => hk.1), by repeat (first | (with_reducible first | exact HB.out | apply below_alloc | apply pw_below_drewN | apply below_drew1 | refine below_set ?_ GE521.out | refine below_set ?_ GE522.out) | exact HB.out)⟩
    ·rw [if_neg c9] at H
     exact absurd H (by simp)
   ·rw [if_neg c8] at H
    exact absurd H (by simp)
  ·rw [if_neg c7] at H
   have c7b0 : (a2_0 == (l1.length : Int)) = false := beq_eq_false_iff_ne.mpr c7
   have c7b1 : (a2_0 != (l1.length : Int)) = true := bne_iff_ne.mpr c7
   replace H := Option.bind_eq_some_iff.mp H
   obtain ⟨⟨t536, t539⟩, A270, H⟩ := H
   (try dsimp -simprocs only at H)
   have A27 := Aside0.mk A270
   clear A270
   replace H := Option.bind_eq_some_iff.mp H
   obtain ⟨t540, A280, H⟩ := H
   (try dsimp -simprocs only at H)
   have A28 := Aside0.mk A280
   clear A280
   obtain ⟨ji29, hji29⟩ : ∃ j_ : Int, (wrap64 ((t536.length : Int) - 1)) = j_ := ⟨_, rfl⟩
   replace H : (if 0 ≤ (ji29) then (if (ji29) < (t536.length : Int) then (some (t540, rd_L1 t536 (ji29), true)) else (none)) else (none)) = some (r1, r2, r3) := by first | (rw [hji29] at H; exact H) | (simp only [hji29] at H ⊢; exact H)
   (try rw [hji29] at A4)
   (try rw [hji29] at A5)
   (try rw [hji29] at A27)
   (try rw [hji29] at A28)
   have hji29w : (IntKind.i64.wrap ((t536.length : Int) - 1)) = ji29 := (i64_w _).trans hji29
   by_cases c30 : 0 ≤ (ji29)
   ·rw [if_pos c30] at H
    have c30b0 : decide (0 ≤ (ji29)) = true := decide_eq_true c30
    clear c30
    by_cases c31 : (ji29) < (t536.length : Int)
    ·rw [if_pos c31] at H
     have c31b0 : decide ((ji29) < (t536.length : Int)) = true := decide_eq_true c31
     clear c31
     simp only [Option.some.injEq, Prod.mk.injEq] at H
     obtain ⟨rfl, rfl, rfl⟩ := H
     go_enter Try.func12, Try.ntmps12
     try go_wp2_with (first | ((with_reducible refine gate_dst (N := 5) rfl ?_); refine box_event ?hg (N := 5) ?hd (cs := #[.int .i64 a2_0, .int .i64 a2_1, .slice A2_2 l2_2.length c2_2, .slice A2_3 l2_3.length c2_3]) (t := 31) ?hr ?_; (case hd => rfl); (case hg => rfl); (case hr => first | (go_simp; done) | (go_simp; rfl)); intro gb521 hg w32 hbox hb; have BK521 := Aside0.mk (hbox); have GW521 := Aside0.mk ((by rw [hg]; exact (below_size (bt)) : w.heap.size ≤ gb521)); have GE521 := Aside0.mk ((by rw [hg]; exact (below_size (bt)) : w.heap.size ≤ gb521)); replace HB := Aside0.mk (below_step (bt) hb); clear hb hbox hg) | ((with_reducible refine gate_dst (N := 6) rfl ?_); refine box_event ?hg (N := 6) ?hd (cs := #[.slice none 0 0, .slice none 0 0]) (t := 33) ?hr ?_; (case hd => rfl); (case hg => rfl); (case hr => first | (go_simp; done) | (go_simp; rfl)); intro gb522 hg w33 hbox hb; have BK522 := Aside0.mk (hbox); have GW522 := Aside0.mk ((by rw [hg]; exact (below_size (b1 GE521.out)) : w.heap.size ≤ gb522)); have GE522 := Aside0.mk ((by rw [hg]; exact (below_size (b1 GE521.out)) : w.heap.size ≤ gb522)); replace HB := Aside0.mk (below_step (b1 GE521.out) hb); have NB521_522 := Aside0.mk ((by rw [hg]; exact Nat.ne_of_lt (blk_lt (g := gb521) (o := .cells #[.int .i64 a2_0, .int .i64 a2_1, .slice A2_2 l2_2.length c2_2, .slice A2_3 l2_3.length c2_3] 31 (0, 0)) (mb BK521.out)) : gb521 ≠ gb522)); have NB522_521 := Aside0.mk ((by rw [hg]; exact Nat.ne_of_gt (blk_lt (g := gb521) (o := .cells #[.int .i64 a2_0, .int .i64 a2_1, .slice A2_2 l2_2.length c2_2, .slice A2_3 l2_3.length c2_3] 31 (0, 0)) (mb BK521.out)) : gb522 ≠ gb521)); replace BK521 := Aside0.mk (blk_below (g := gb521) (o := .cells #[.int .i64 a2_0, .int .i64 a2_1, .slice A2_2 l2_2.length c2_2, .slice A2_3 l2_3.length c2_3] 31 (0, 0)) (mb BK521.out) hb); clear hb hbox hg))
     have n0_ := Aside0.mk (blk_drew BK521.out)
     have n1_ := Aside0.mk (blk_drew BK522.out)
     have n2_ := Aside0.mk (below_drew1 HB.out)
     clear BK521
     clear BK522
     clear HB
     have BK521 := n0_
     have BK522 := n1_
     have HB := n2_
     clear n0_ n1_ n2_
     refine start_ (n := 14) (S := fun w' => w'.cell? ⟨gb521, 0, none⟩ = some (.int .i64 a2_0) ∧ w'.cell? ⟨gb521, 1, none⟩ = some (.int .i64 a2_1) ∧ w'.cell? ⟨gb521, 2, none⟩ = some (.slice A2_2 l2_2.length c2_2) ∧ w'.cell? ⟨gb521, 3, none⟩ = some (.slice A2_3 l2_3.length c2_3)) (ds := []) #[false, false, false, false, false, false, false, false, false, false, false, false, false, false] (by kernel_rfl) rfl rfl ⟨(blk_cell BK521.out 0).trans rfl, (blk_cell BK521.out 1).trans rfl, (blk_cell BK521.out 2).trans rfl, (blk_cell BK521.out 3).trans rfl⟩ (fun hHeld => ?_); refine with_tabW impl_Liar.tab1 impl_Liar.bits1 (fun HT_ HW_ => ?_)
     generalize w33.drew = w34 at BK521 BK522 HB hHeld ⊢
     refine pz (i := 0) (N := some 10) #[true, false, false, false, false, false, false, false, false, false, false, false, false, false] rfl rfl HT_.out ?_
     refine pz (i := 1) (N := some 11) #[true, true, false, false, false, false, false, false, false, false, false, false, false, false] rfl rfl HT_.out ?_
     refine pz (i := 2) (N := some 12) #[true, true, true, false, false, false, false, false, false, false, false, false, false, false] rfl rfl HT_.out ?_
     refine pz (i := 4) (N := some 14) #[true, true, true, false, true, false, false, false, false, false, false, false, false, false] rfl rfl HT_.out ?_
     refine pz (i := 6) (N := some 16) #[true, true, true, false, true, false, true, false, false, false, false, false, false, false] rfl rfl HT_.out ?_
     refine pz (i := 8) (N := some 18) #[true, true, true, false, true, false, true, false, true, false, false, false, false, false] rfl rfl HT_.out ?_
     refine pz (i := 10) (N := some 20) #[true, true, true, false, true, false, true, false, true, false, true, false, false, false] rfl rfl HT_.out ?_
     refine tz (i := 5) (N := some 15) #[true, true, true, false, true, true, true, false, true, false, true, false, false, false] rfl rfl HT_.out HW_.out hHeld (Or.inl ⟨by rfl, by rintro w' ⟨s0, s1, s2, s3⟩; go_simp; with_reducible rfl⟩) ?_
     refine tz (i := 7) (N := some 17) #[true, true, true, false, true, true, true, true, true, false, true, false, false, false] rfl rfl HT_.out HW_.out hHeld (Or.inl ⟨by rfl, by rintro w' ⟨s0, s1, s2, s3⟩; go_simp; with_reducible rfl⟩) ?_
     refine tz (i := 9) (N := some 19) #[true, true, true, false, true, true, true, true, true, true, true, false, false, false] rfl rfl HT_.out HW_.out hHeld (Or.inl ⟨by rfl, by rintro w' ⟨s0, s1, s2, s3⟩; go_simp; with_reducible rfl⟩) ?_
     refine tz (i := 11) (N := some 21) #[true, true, true, false, true, true, true, true, true, true, true, true, false, false] rfl rfl HT_.out HW_.out hHeld (Or.inl ⟨by rfl, by rintro w' ⟨s0, s1, s2, s3⟩; go_simp; with_reducible rfl⟩) ?_
     refine one_ (i := 3) (N := some 13) #[true, true, true, true, true, true, true, true, true, true, true, true, false, false] rfl rfl (one_of HT_.out (by kernel_rfl)) (by decide) (fun K hK => ?_)
     refine goes_ Try.func11 (by kernel_rfl) rfl #[.int .i64 a0, .slice A1 l1.length c1] (by rfl) rfl rfl av ?_
     with_reducible refine (impl_TreeRoot.calls k a0 _ _ l1 t523 _ ?side1 ?side2 A4.out).mono ?_
     (case side1 => exact cv ((Kd.C_below HR1.out HB.out)))
     (case side2 => exact HC1.out)
     rintro e w35 ⟨rfl, hb⟩
     refine ⟨_, rfl, ?_⟩
     have n0_ := Aside0.mk (blk_below (g := gb521) (o := .cells #[.int .i64 a2_0, .int .i64 a2_1, .slice A2_2 l2_2.length c2_2, .slice A2_3 l2_3.length c2_3] 31 (0, 0)) (mb BK521.out) hb)
     have n1_ := Aside0.mk (blk_below (g := gb522) (o := .cells #[.slice none 0 0, .slice none 0 0] 33 (0, 0)) (mb BK522.out) hb)
     have n2_ := Aside0.mk (below_step (by repeat (first | (with_reducible first | exact HB.out | apply below_alloc | apply pw_below_drewN | apply below_drew1 | refine below_set ?_ GE521.out | refine below_set ?_ GE522.out) | exact HB.out)) hb)
     clear BK521
     clear BK522
     clear HB
     have BK521 := n0_
     have BK522 := n1_
     have HB := n2_
     clear n0_ n1_ n2_
     (try clear hb)
     (try clear hb2)
     (try clear hk)
     (try clear hi)
     refine hK.out _ _ ⟨(blk_cell BK521.out 0).trans rfl, (blk_cell BK521.out 1).trans rfl, (blk_cell BK521.out 2).trans rfl, (blk_cell BK521.out 3).trans rfl⟩ (fun hHeld => ?_)
     clear hK K
     refine nz (N := some 13) ?_
     refine one_ (i := 12) (N := some 22) #[true, true, true, true, true, true, true, true, true, true, true, true, true, false] rfl rfl (one_of HT_.out (by kernel_rfl)) (by decide) (fun K hK => ?_)
     refine goes_ Try.func14 (by kernel_rfl) rfl #[.int .i64 a0, .int .i64 t523, .int .i64 a2_0, .int .i64 a2_1, .slice A2_2 l2_2.length c2_2, .slice A2_3 l2_3.length c2_3] (by rfl) rfl rfl av ?_
     with_reducible refine (impl_Proven.calls k a0 t523 a2_0 a2_1 _ _ l2_2 _ _ l2_3 true _ ?side1 ?side2 ?side3 ?side4 A5.out).mono ?_
     (case side1 => exact cv ((Kd.C_below HR2_2.out HB.out)))
     (case side2 => exact HC2_2.out)
     (case side3 => exact cv ((Kd.C_below HR2_3.out HB.out)))
     (case side4 => exact HC2_3.out)
     rintro e w36 ⟨rfl, hb⟩
     refine ⟨_, rfl, ?_⟩
     have n0_ := Aside0.mk (blk_below (g := gb521) (o := .cells #[.int .i64 a2_0, .int .i64 a2_1, .slice A2_2 l2_2.length c2_2, .slice A2_3 l2_3.length c2_3] 31 (0, 0)) (mb BK521.out) hb)
     have n1_ := Aside0.mk (blk_below (g := gb522) (o := .cells #[.slice none 0 0, .slice none 0 0] 33 (0, 0)) (mb BK522.out) hb)
     have n2_ := Aside0.mk (below_step (by repeat (first | (with_reducible first | exact HB.out | apply below_alloc | apply pw_below_drewN | apply below_drew1 | refine below_set ?_ GE521.out | refine below_set ?_ GE522.out) | exact HB.out)) hb)
     clear BK521
     clear BK522
     clear HB
     have BK521 := n0_
     have BK522 := n1_
     have HB := n2_
     clear n0_ n1_ n2_
     (try clear hb)
     (try clear hb2)
     (try clear hk)
     (try clear hi)
     refine hK.out _ _ ⟨(blk_cell BK521.out 0).trans rfl, (blk_cell BK521.out 1).trans rfl, (blk_cell BK521.out 2).trans rfl, (blk_cell BK521.out 3).trans rfl⟩ (fun hHeld => ?_)
     clear hK K
     refine nz (N := some 22) ?_
     refine pz (i := 13) (N := some 23) #[true, true, true, true, true, true, true, true, true, true, true, true, true, true] rfl rfl HT_.out ?_
     refine done_ (done_of HT_.out (by kernel_rfl)) ?_
     have hnb37 := NB521_522.out
     have hnc37 := NB522_521.out
     have hcz38_0 : w36.cell? ⟨gb521, 0, none⟩ = some (.int .i64 a2_0) := (blk_cell BK521.out 0).trans rfl
     have hcz38_1 : w36.cell? ⟨gb521, 1, none⟩ = some (.int .i64 a2_1) := (blk_cell BK521.out 1).trans rfl
     have hcz38_2 : w36.cell? ⟨gb521, 2, none⟩ = some (.slice A2_2 l2_2.length c2_2) := (blk_cell BK521.out 2).trans rfl
     have hcz38_3 : w36.cell? ⟨gb521, 3, none⟩ = some (.slice A2_3 l2_3.length c2_3) := (blk_cell BK521.out 3).trans rfl
     have hfz38_0 := blk_frozen BK521.out 0
     have hfz38_1 := blk_frozen BK521.out 1
     have hfz38_2 := blk_frozen BK521.out 2
     have hfz38_3 := blk_frozen BK521.out 3
     try go_wp2_with (first | ((with_reducible refine gate_callee (f := 59) rfl ?_); refine goesL_ (some 62) rfl rfl Try.func59 (by kernel_rfl) rfl #[.int .i64 a0, .int .i64 a2_0, .int .i64 a2_1, .slice A2_2 l2_2.length c2_2, .slice A2_3 l2_3.length c2_3] rfl av ?_; (with_reducible refine (impl_climb.calls k a0 a2_0 a2_1 _ _ l2_2 (fun k_ => k_ < w.heap.size) _ _ l2_3 t536 t539 _ ?side1 ?side2 ?side3 A27.out).mono ?_); (case side1 => exact cv ((Kd.C_below HR2_2.out HB.out))); (case side2 => exact HC2_2.out); (case side3 => exact Kd.V_mk HC2_3.out (Kd.F_below (Kd.C_F (Kd.heap_int .i64) HR2_3.out) (by repeat (first | (with_reducible first | exact HB.out | apply below_alloc | apply pw_below_drewN | apply below_drew1 | refine below_set ?_ GE521.out | refine below_set ?_ GE522.out) | exact HB.out)))); rintro e w39 ⟨v537, rfl, ho0, hb⟩; refine ⟨_, rfl, ?_⟩; have HO538 := Aside0.mk (Kd.S_lower (Kd.S_mono (ok' := fun k_ => True) ho0 (fun _ hk_ => trivial)) (below_size (by repeat (first | (with_reducible first | exact HB.out | apply below_alloc | apply pw_below_drewN | apply below_drew1 | refine below_set ?_ GE521.out | refine below_set ?_ GE522.out) | exact HB.out)))); replace BK521 := Aside0.mk (blk_below (g := gb521) (o := .cells #[.int .i64 a2_0, .int .i64 a2_1, .slice A2_2 l2_2.length c2_2, .slice A2_3 l2_3.length c2_3] 31 (0, 0)) (mb BK521.out) hb); replace BK522 := Aside0.mk (blk_below (g := gb522) (o := .cells #[.slice none 0 0, .slice none 0 0] 33 (0, 0)) (mb BK522.out) hb); replace HB := Aside0.mk (below_step (by repeat (first | (with_reducible first | exact HB.out | apply below_alloc | apply pw_below_drewN | apply below_drew1 | refine below_set ?_ GE521.out | refine below_set ?_ GE522.out) | exact HB.out)) hb); (try clear hb); (try clear hb2); (try clear hk); (try clear hi); (try clear ho0)))
     have n0_ := Aside0.mk (Kd.S_drew HO538.out)
     have n1_ := Aside0.mk (blk_drew BK521.out)
     have n2_ := Aside0.mk (blk_drew BK522.out)
     have n3_ := Aside0.mk (below_drew1 HB.out)
     clear HO538
     clear BK521
     clear BK522
     clear HB
     have HO538 := n0_
     have BK521 := n1_
     have BK522 := n2_
     have HB := n3_
     clear n0_ n1_ n2_ n3_
     obtain ⟨Ao41, co41, eo41⟩ := Kd.S_slice HO538.out
     (first | subst eo41 | (injection eo41 with f1_ f2_ f3_; have f4_ := f1_.symm; have f5_ := f3_.symm; clear f1_ f2_ f3_; subst f4_; subst f5_))
     have p543 : 0 ≤ ((ji29) : Int) := of_decide_eq_true asm
     have q543 : (ji29) < (t536.length : Int) := of_decide_eq_true asm
     obtain ⟨ad543, A543_0, c543_0, e543, hx543_0, hl543_0, hi543_0⟩ := at_L1 (Kd.S_reads' HO538.out).2.2 (ji29) p543 q543
     cases e543
     obtain ⟨ce543, hce543, hMe543, hcc543⟩ := Kd.S_get HO538.out [] (ji29) p543 (by first | exact q543 | exact of_decide_eq_true asm | (have e_ := (Kd.S_reads' HO538.out).1; omega))
     obtain ⟨ve543_0, rfl, ge543_0⟩ := hMe543
     have hv543_0 := hcc543 0 _ rfl
     rw [Nat.add_zero, show ((Kd.slice 5 (Kd.int .u8))).sz = 1 from rfl, Nat.mul_one] at hv543_0
     replace hv543_0 := Option.some.inj (hv543_0.symm.trans hx543_0)
     rw [hv543_0] at ge543_0
     have HL543_0 := Aside0.mk (show Kd.R (Kd.int .u8) 5 _ _ _ _ (rd_L1 t536 (ji29)) from ge543_0)
     clear hv543_0 ge543_0
     clear hcc543 hce543
     have HR543_0 := Aside0.mk hi543_0
     have HC543_0 := Aside0.mk hl543_0
     clear hi543_0 hl543_0
     replace p543 := eq_true p543
     replace q543 := eq_true q543
     refine start_ (n := 12) (S := fun w' => w'.cell? (ad543.add ((ji29)).toNat) = some (.slice A543_0 (rd_L1 t536 (ji29)).length c543_0)) (ds := []) #[false, false, false, false, false, false, false, false, false, false, false, false] (by kernel_rfl) rfl rfl (hx543_0) (fun hHeld => ?_); refine with_tabW impl_Liar.tab6 impl_Liar.bits6 (fun HT_ HW_ => ?_)
     generalize w39.drew = w40 at HO538 BK521 BK522 HB HL543_0 HR543_0 hx543_0 hHeld ⊢
     refine pz (i := 0) (N := some 65) #[true, false, false, false, false, false, false, false, false, false, false, false] rfl rfl HT_.out ?_
     refine pz (i := 1) (N := some 66) #[true, true, false, false, false, false, false, false, false, false, false, false] rfl rfl HT_.out ?_
     refine pz (i := 3) (N := some 68) #[true, true, false, true, false, false, false, false, false, false, false, false] rfl rfl HT_.out ?_
     refine pz (i := 4) (N := some 69) #[true, true, false, true, true, false, false, false, false, false, false, false] rfl rfl HT_.out ?_
     refine pz (i := 5) (N := some 70) #[true, true, false, true, true, true, false, false, false, false, false, false] rfl rfl HT_.out ?_
     refine pz (i := 6) (N := some 71) #[true, true, false, true, true, true, true, false, false, false, false, false] rfl rfl HT_.out ?_
     refine pz (i := 7) (N := some 72) #[true, true, false, true, true, true, true, true, false, false, false, false] rfl rfl HT_.out ?_
     refine take_ (i := 8) (N := some 73) (v := ?_) (a' := ?_) #[true, true, false, true, true, true, true, true, true, false, false, false] rfl rfl (take_ofW HT_.out HW_.out (by kernel_rfl)) (fun _ _ _ h => h) (Or.inl ⟨by rfl, ?_⟩) hHeld ?_ ?_
     rotate_left
     ·intro w' s0
      go_simp
      with_reducible rfl
     rotate_left
     ·simp only [Act.put, List.setIfInBounds_toArray, List.set_cons_zero, List.set_cons_succ, i64_w, i32_w]
      rfl
     refine one_ (i := 2) (N := some 67) #[true, true, true, true, true, true, true, true, true, false, false, false] rfl rfl (one_of HT_.out (by kernel_rfl)) (by decide) (fun K hK => ?_)
     refine goes_ Try.func57 (by kernel_rfl) rfl #[.int .i64 a0, .slice A1 l1.length c1] (by rfl) rfl rfl av ?_
     with_reducible refine (impl_topOf.calls k a0 _ _ l1 t540 _ ?side1 ?side2 A28.out).mono ?_
     (case side1 => exact cv ((Kd.C_below HR1.out HB.out)))
     (case side2 => exact HC1.out)
     rintro e w42 ⟨v541, rfl, ho0, hb⟩
     have HS0_ := (hb.cell (World.block_lt_of_cell? _ _ (hHeld))).trans (hHeld)
     refine ⟨_, rfl, ?_⟩
     have n0_ := Aside0.mk (Kd.S_elder' (mv HO538.out) (Kd.R_base ho0) hb)
     have n1_ := Aside0.mk (Kd.R_elder' (mv HL543_0.out) (Kd.R_base ho0) hb)
     have n2_ := Aside0.mk (Kd.R_lower (Kd.R_new' ho0 (Kd.R_lt (mv HL543_0.out))) (below_size (by repeat (first | (with_reducible first | exact HB.out | apply below_alloc | apply pw_below_drewN | apply below_drew1 | refine below_set ?_ GE521.out | refine below_set ?_ GE522.out) | exact HB.out))))
     have n3_ := Aside0.mk (blk_below (g := gb521) (o := .cells #[.int .i64 a2_0, .int .i64 a2_1, .slice A2_2 l2_2.length c2_2, .slice A2_3 l2_3.length c2_3] 31 (0, 0)) (mb BK521.out) hb)
     have n4_ := Aside0.mk (blk_below (g := gb522) (o := .cells #[.slice none 0 0, .slice none 0 0] 33 (0, 0)) (mb BK522.out) hb)
     have n5_ := Aside0.mk (Kd.C_below (by repeat (first | (with_reducible exact HR543_0.out) | (with_reducible refine Kd.C_alloc ?_ _) | (with_reducible refine Kd.C_drewN ?_ _) | (with_reducible refine Kd.C_drew ?_) | exact HR543_0.out)) hb)
     have n6_ := Aside0.mk (below_step (by repeat (first | (with_reducible first | exact HB.out | apply below_alloc | apply pw_below_drewN | apply below_drew1 | refine below_set ?_ GE521.out | refine below_set ?_ GE522.out) | exact HB.out)) hb)
     clear HO538
     clear HL543_0
     clear BK521
     clear BK522
     clear HR543_0
     clear HB
     have HO538 := n0_
     have HL543_0 := n1_
     have HO542 := n2_
     have BK521 := n3_
     have BK522 := n4_
     have HR543_0 := n5_
     have HB := n6_
     clear n0_ n1_ n2_ n3_ n4_ n5_ n6_
     (try clear hb)
     (try clear hb2)
     (try clear hk)
     (try clear hi)
     (try clear ho0)
     obtain ⟨Ao43, co43, eo43⟩ := Kd.R_slice HO542.out
     (first | subst eo43 | (injection eo43 with f1_ f2_ f3_; have f4_ := f1_.symm; have f5_ := f3_.symm; clear f1_ f2_ f3_; subst f4_; subst f5_))
     refine hK.out _ _ (HS0_) (fun hHeld => ?_)
     clear hK K
     refine nz (N := some 67) ?_
     refine pz (i := 9) (N := some 74) #[true, true, true, true, true, true, true, true, true, true, false, false] rfl rfl HT_.out ?_
     refine one_ (i := 10) (N := none) #[true, true, true, true, true, true, true, true, true, true, true, false] rfl rfl (one_of HT_.out (by kernel_rfl)) (by decide) (fun K hK => ?_)
     have hs44 : w42.cell? ⟨gb522, 0, none⟩ = some (.slice none 0 0) := (blk_cell BK522.out 0).trans rfl
     have hfs44 := blk_frozen BK522.out 0
     have hns44_0 := NB521_522.out
     have hms44_0 := NB522_521.out
     have hs45 : w42.cell? ⟨gb522, 1, none⟩ = some (.slice none 0 0) := (blk_cell BK522.out 1).trans rfl
     have hfs45 := blk_frozen BK522.out 1
     have hns45_0 := NB521_522.out
     have hms45_0 := NB522_521.out
     refine skip_ (w1 := ?_) (by rfl) rfl ?_ ?_
     rotate_left
     ·go_simp
      rfl
     refine hK.out _ _ (((cell_far (p := ⟨gb522, _, none⟩) (by first | exact Kd.own_blk (Kd.S_ne HO538.out BK522.out (by decide)) | (rw [add_block]; exact Kd.own_blk (Kd.S_ne HO538.out BK522.out (by decide))) | (show (Addr.add _ _).block ≠ _; rw [add_block]; exact Kd.own_blk (Kd.S_ne HO538.out BK522.out (by decide))) | (dsimp only; exact Kd.own_blk (Kd.S_ne HO538.out BK522.out (by decide)))) _).trans (((cell_far (p := ⟨gb522, _, none⟩) (by first | exact Kd.own_blk (Kd.S_ne HO538.out BK522.out (by decide)) | (rw [add_block]; exact Kd.own_blk (Kd.S_ne HO538.out BK522.out (by decide))) | (show (Addr.add _ _).block ≠ _; rw [add_block]; exact Kd.own_blk (Kd.S_ne HO538.out BK522.out (by decide))) | (dsimp only; exact Kd.own_blk (Kd.S_ne HO538.out BK522.out (by decide)))) _).trans (hHeld))))) (fun hHeld => ?_)
     clear hK K
     refine pz (i := 11) (N := some 7) #[true, true, true, true, true, true, true, true, true, true, true, true] rfl rfl HT_.out ?_
     refine done_ (done_of HT_.out (by kernel_rfl)) ?_
     (try simp only [Dig.setCell_drewN])
     try go_wp2
     refine bodyPost_ret (results_ct rfl _ _ gb522 33 #[.slice Ao43 t540.length co43, .slice A543_0 (rd_L1 t536 (ji29)).length c543_0] (0, 0) _ rfl (by (with_reducible repeat (first | refine blk_drewN ?_ _ | refine blk_drew ?_ | refine blk_alloc ?_ _)); refine blk_put (cs := #[.slice Ao43 t540.length co43, .slice none 0 0]) ?_ 1 _ rfl; (with_reducible repeat (first | refine blk_drewN ?_ _ | refine blk_drew ?_ | refine blk_alloc ?_ _)); refine blk_put (cs := #[.slice none 0 0, .slice none 0 0]) ?_ 0 _ rfl; (with_reducible repeat (first | refine blk_drewN ?_ _ | refine blk_drew ?_ | refine blk_alloc ?_ _)); exact BK522.out) Try.underlying33 rfl (by kernel_rfl)) rfl ?_
     exact ⟨_, _, by first | rfl | (simp [errW_none, errW_some] <;> rfl) | (simp only [← hji29]; first | rfl | (simp [errW_none, errW_some] <;> rfl)) | (simp [*, errW_none, errW_some] <;> rfl), by (with_reducible repeat (first | apply Kd.R_alloc | apply Kd.R_drewN | apply Kd.R_drew)); exact Kd.R_mono (Kd.R_far (p := ⟨gb522, 1, none⟩) (Kd.R_far (p := ⟨gb522, 0, none⟩) (Kd.R_types HO542.out BK522.out (by decide)) (fun _ hk => hk.2) (.slice Ao43 t540.length co43)) (fun _ hk => hk.2) (.slice A543_0 (rd_L1 t536 (ji29)).length c543_0)) (fun _ hk => hk.1.2), by (with_reducible repeat (first | apply Kd.R_alloc | apply Kd.R_drewN | apply Kd.R_drew)); exact Kd.R_mono (Kd.R_far (p := ⟨gb522, 1, none⟩) (Kd.R_far (p := ⟨gb522, 0, none⟩) (Kd.R_types HL543_0.out BK522.out (by decide)) (fun _ hk => hk.2) (.slice Ao43 t540.length co43)) (fun _ hk => hk.2) (.slice A543_0 (rd_L1 t536 (ji29)).length c543_0)) (fun _ hk => hk.1.2), by repeat (first | (with_reducible first | exact HB.out | apply below_alloc | apply pw_below_drewN | apply below_drew1 | refine below_set ?_ GE521.out | refine below_set ?_ GE522.out) | exact HB.out)⟩
    ·rw [if_neg c31] at H
     exact absurd H (by simp)
   ·rw [if_neg c30] at H
    exact absurd H (by simp)
 ·replace c6 := Bool.eq_false_iff.mpr c6
  subst c6
  rw [if_neg (show ¬ (false = true) by decide)] at H
  simp only [Option.some.injEq, Prod.mk.injEq] at H
  obtain ⟨rfl, rfl, rfl⟩ := H
  go_enter Try.func12, Try.ntmps12
  try go_wp2_with (first | ((with_reducible refine gate_dst (N := 5) rfl ?_); refine box_event ?hg (N := 5) ?hd (cs := #[.int .i64 a2_0, .int .i64 a2_1, .slice A2_2 l2_2.length c2_2, .slice A2_3 l2_3.length c2_3]) (t := 31) ?hr ?_; (case hd => rfl); (case hg => rfl); (case hr => first | (go_simp; done) | (go_simp; rfl)); intro gb521 hg w46 hbox hb; have BK521 := Aside0.mk (hbox); have GW521 := Aside0.mk ((by rw [hg]; exact (below_size (bt)) : w.heap.size ≤ gb521)); have GE521 := Aside0.mk ((by rw [hg]; exact (below_size (bt)) : w.heap.size ≤ gb521)); replace HB := Aside0.mk (below_step (bt) hb); clear hb hbox hg) | ((with_reducible refine gate_dst (N := 6) rfl ?_); refine box_event ?hg (N := 6) ?hd (cs := #[.slice none 0 0, .slice none 0 0]) (t := 33) ?hr ?_; (case hd => rfl); (case hg => rfl); (case hr => first | (go_simp; done) | (go_simp; rfl)); intro gb522 hg w47 hbox hb; have BK522 := Aside0.mk (hbox); have GW522 := Aside0.mk ((by rw [hg]; exact (below_size (b1 GE521.out)) : w.heap.size ≤ gb522)); have GE522 := Aside0.mk ((by rw [hg]; exact (below_size (b1 GE521.out)) : w.heap.size ≤ gb522)); replace HB := Aside0.mk (below_step (b1 GE521.out) hb); have NB521_522 := Aside0.mk ((by rw [hg]; exact Nat.ne_of_lt (blk_lt (g := gb521) (o := .cells #[.int .i64 a2_0, .int .i64 a2_1, .slice A2_2 l2_2.length c2_2, .slice A2_3 l2_3.length c2_3] 31 (0, 0)) (mb BK521.out)) : gb521 ≠ gb522)); have NB522_521 := Aside0.mk ((by rw [hg]; exact Nat.ne_of_gt (blk_lt (g := gb521) (o := .cells #[.int .i64 a2_0, .int .i64 a2_1, .slice A2_2 l2_2.length c2_2, .slice A2_3 l2_3.length c2_3] 31 (0, 0)) (mb BK521.out)) : gb522 ≠ gb521)); replace BK521 := Aside0.mk (blk_below (g := gb521) (o := .cells #[.int .i64 a2_0, .int .i64 a2_1, .slice A2_2 l2_2.length c2_2, .slice A2_3 l2_3.length c2_3] 31 (0, 0)) (mb BK521.out) hb); clear hb hbox hg))
  have n0_ := Aside0.mk (blk_drew BK521.out)
  have n1_ := Aside0.mk (blk_drew BK522.out)
  have n2_ := Aside0.mk (below_drew1 HB.out)
  clear BK521
  clear BK522
  clear HB
  have BK521 := n0_
  have BK522 := n1_
  have HB := n2_
  clear n0_ n1_ n2_
  refine start_ (n := 14) (S := fun w' => w'.cell? ⟨gb521, 0, none⟩ = some (.int .i64 a2_0) ∧ w'.cell? ⟨gb521, 1, none⟩ = some (.int .i64 a2_1) ∧ w'.cell? ⟨gb521, 2, none⟩ = some (.slice A2_2 l2_2.length c2_2) ∧ w'.cell? ⟨gb521, 3, none⟩ = some (.slice A2_3 l2_3.length c2_3)) (ds := []) #[false, false, false, false, false, false, false, false, false, false, false, false, false, false] (by kernel_rfl) rfl rfl ⟨(blk_cell BK521.out 0).trans rfl, (blk_cell BK521.out 1).trans rfl, (blk_cell BK521.out 2).trans rfl, (blk_cell BK521.out 3).trans rfl⟩ (fun hHeld => ?_); refine with_tabW impl_Liar.tab1 impl_Liar.bits1 (fun HT_ HW_ => ?_)
  generalize w47.drew = w48 at BK521 BK522 HB hHeld ⊢
  refine pz (i := 0) (N := some 10) #[true, false, false, false, false, false, false, false, false, false, false, false, false, false] rfl rfl HT_.out ?_
  refine pz (i := 1) (N := some 11) #[true, true, false, false, false, false, false, false, false, false, false, false, false, false] rfl rfl HT_.out ?_
  refine pz (i := 2) (N := some 12) #[true, true, true, false, false, false, false, false, false, false, false, false, false, false] rfl rfl HT_.out ?_
  refine pz (i := 4) (N := some 14) #[true, true, true, false, true, false, false, false, false, false, false, false, false, false] rfl rfl HT_.out ?_
  refine pz (i := 6) (N := some 16) #[true, true, true, false, true, false, true, false, false, false, false, false, false, false] rfl rfl HT_.out ?_
  refine pz (i := 8) (N := some 18) #[true, true, true, false, true, false, true, false, true, false, false, false, false, false] rfl rfl HT_.out ?_
  refine pz (i := 10) (N := some 20) #[true, true, true, false, true, false, true, false, true, false, true, false, false, false] rfl rfl HT_.out ?_
  refine tz (i := 5) (N := some 15) #[true, true, true, false, true, true, true, false, true, false, true, false, false, false] rfl rfl HT_.out HW_.out hHeld (Or.inl ⟨by rfl, by rintro w' ⟨s0, s1, s2, s3⟩; go_simp; with_reducible rfl⟩) ?_
  refine tz (i := 7) (N := some 17) #[true, true, true, false, true, true, true, true, true, false, true, false, false, false] rfl rfl HT_.out HW_.out hHeld (Or.inl ⟨by rfl, by rintro w' ⟨s0, s1, s2, s3⟩; go_simp; with_reducible rfl⟩) ?_
  refine tz (i := 9) (N := some 19) #[true, true, true, false, true, true, true, true, true, true, true, false, false, false] rfl rfl HT_.out HW_.out hHeld (Or.inl ⟨by rfl, by rintro w' ⟨s0, s1, s2, s3⟩; go_simp; with_reducible rfl⟩) ?_
  refine tz (i := 11) (N := some 21) #[true, true, true, false, true, true, true, true, true, true, true, true, false, false] rfl rfl HT_.out HW_.out hHeld (Or.inl ⟨by rfl, by rintro w' ⟨s0, s1, s2, s3⟩; go_simp; with_reducible rfl⟩) ?_
  refine one_ (i := 3) (N := some 13) #[true, true, true, true, true, true, true, true, true, true, true, true, false, false] rfl rfl (one_of HT_.out (by kernel_rfl)) (by decide) (fun K hK => ?_)
  refine goes_ Try.func11 (by kernel_rfl) rfl #[.int .i64 a0, .slice A1 l1.length c1] (by rfl) rfl rfl av ?_
  with_reducible refine (impl_TreeRoot.calls k a0 _ _ l1 t523 _ ?side1 ?side2 A4.out).mono ?_
  (case side1 => exact cv ((Kd.C_below HR1.out HB.out)))
  (case side2 => exact HC1.out)
  rintro e w49 ⟨rfl, hb⟩
  refine ⟨_, rfl, ?_⟩
  have n0_ := Aside0.mk (blk_below (g := gb521) (o := .cells #[.int .i64 a2_0, .int .i64 a2_1, .slice A2_2 l2_2.length c2_2, .slice A2_3 l2_3.length c2_3] 31 (0, 0)) (mb BK521.out) hb)
  have n1_ := Aside0.mk (blk_below (g := gb522) (o := .cells #[.slice none 0 0, .slice none 0 0] 33 (0, 0)) (mb BK522.out) hb)
  have n2_ := Aside0.mk (below_step (by repeat (first | (with_reducible first | exact HB.out | apply below_alloc | apply pw_below_drewN | apply below_drew1 | refine below_set ?_ GE521.out | refine below_set ?_ GE522.out) | exact HB.out)) hb)
  clear BK521
  clear BK522
  clear HB
  have BK521 := n0_
  have BK522 := n1_
  have HB := n2_
  clear n0_ n1_ n2_
  (try clear hb)
  (try clear hb2)
  (try clear hk)
  (try clear hi)
  refine hK.out _ _ ⟨(blk_cell BK521.out 0).trans rfl, (blk_cell BK521.out 1).trans rfl, (blk_cell BK521.out 2).trans rfl, (blk_cell BK521.out 3).trans rfl⟩ (fun hHeld => ?_)
  clear hK K
  refine nz (N := some 13) ?_
  refine one_ (i := 12) (N := some 22) #[true, true, true, true, true, true, true, true, true, true, true, true, true, false] rfl rfl (one_of HT_.out (by kernel_rfl)) (by decide) (fun K hK => ?_)
  refine goes_ Try.func14 (by kernel_rfl) rfl #[.int .i64 a0, .int .i64 t523, .int .i64 a2_0, .int .i64 a2_1, .slice A2_2 l2_2.length c2_2, .slice A2_3 l2_3.length c2_3] (by rfl) rfl rfl av ?_
  with_reducible refine (impl_Proven.calls k a0 t523 a2_0 a2_1 _ _ l2_2 _ _ l2_3 false _ ?side1 ?side2 ?side3 ?side4 A5.out).mono ?_
  (case side1 => exact cv ((Kd.C_below HR2_2.out HB.out)))
  (case side2 => exact HC2_2.out)
  (case side3 => exact cv ((Kd.C_below HR2_3.out HB.out)))
  (case side4 => exact HC2_3.out)
  rintro e w50 ⟨rfl, hb⟩
  refine ⟨_, rfl, ?_⟩
  have n0_ := Aside0.mk (blk_below (g := gb521) (o := .cells #[.int .i64 a2_0, .int .i64 a2_1, .slice A2_2 l2_2.length c2_2, .slice A2_3 l2_3.length c2_3] 31 (0, 0)) (mb BK521.out) hb)
  have n1_ := Aside0.mk (blk_below (g := gb522) (o := .cells #[.slice none 0 0, .slice none 0 0] 33 (0, 0)) (mb BK522.out) hb)
  have n2_ := Aside0.mk (below_step (by repeat (first | (with_reducible first | exact HB.out | apply below_alloc | apply pw_below_drewN | apply below_drew1 | refine below_set ?_ GE521.out | refine below_set ?_ GE522.out) | exact HB.out)) hb)
  clear BK521
  clear BK522
  clear HB
  have BK521 := n0_
  have BK522 := n1_
  have HB := n2_
  clear n0_ n1_ n2_
  (try clear hb)
  (try clear hb2)
  (try clear hk)
  (try clear hi)
  refine hK.out _ _ ⟨(blk_cell BK521.out 0).trans rfl, (blk_cell BK521.out 1).trans rfl, (blk_cell BK521.out 2).trans rfl, (blk_cell BK521.out 3).trans rfl⟩ (fun hHeld => ?_)
  clear hK K
  refine nz (N := some 22) ?_
  refine pz (i := 13) (N := some 23) #[true, true, true, true, true, true, true, true, true, true, true, true, true, true] rfl rfl HT_.out ?_
  refine done_ (done_of HT_.out (by kernel_rfl)) ?_
  have hnb51 := NB522_521.out
  have hnc51 := NB521_522.out
  have hcz52_0 : w50.cell? ⟨gb522, 0, none⟩ = some (.slice none 0 0) := (blk_cell BK522.out 0).trans rfl
  have hcz52_1 : w50.cell? ⟨gb522, 1, none⟩ = some (.slice none 0 0) := (blk_cell BK522.out 1).trans rfl
  have hfz52_0 := blk_frozen BK522.out 0
  have hfz52_1 := blk_frozen BK522.out 1
  try go_wp2
  refine bodyPost_ret (results_ct rfl _ _ gb522 33 #[.slice none 0 0, .slice none 0 0] (0, 0) _ rfl (by (with_reducible repeat (first | refine blk_drewN ?_ _ | refine blk_drew ?_ | refine blk_alloc ?_ _)); refine blk_put (cs := #[.slice none 0 0, .slice none 0 0]) ?_ 1 _ rfl; (with_reducible repeat (first | refine blk_drewN ?_ _ | refine blk_drew ?_ | refine blk_alloc ?_ _)); refine blk_put (cs := #[.slice none 0 0, .slice none 0 0]) ?_ 0 _ rfl; (with_reducible repeat (first | refine blk_drewN ?_ _ | refine blk_drew ?_ | refine blk_alloc ?_ _)); exact BK522.out) Try.underlying33 rfl (by kernel_rfl)) rfl ?_
  exact ⟨_, _, by first | rfl | (simp [errW_none, errW_some] <;> rfl) | (simp [*, errW_none, errW_some] <;> rfl), by first | exact Kd.R_nil _ _ _ _ _ | exact Kd.N_nil _ _ _ _ _ | exact Kd.V_nil _ _ _ _ _ | exact Kd.Q_nil _ _ _ _ _ | exact Kd.S_nil _ _ _ _ _, by first | exact Kd.R_nil _ _ _ _ _ | exact Kd.N_nil _ _ _ _ _ | exact Kd.V_nil _ _ _ _ _ | exact Kd.Q_nil _ _ _ _ _ | exact Kd.S_nil _ _ _ _ _, by repeat (first | (with_reducible first | exact HB.out | apply below_alloc | apply pw_below_drewN | apply below_drew1 | refine below_set ?_ GE521.out | refine below_set ?_ GE522.out) | exact HB.out)⟩

end Go.Proofs.Ytchjajbkaiefdaa.PFnExactFirstLiar
