-- Written by a program of this workplace (wip/mp.py) out of the translation.
import Derived.Test.YtaacidhgnappdaaPFnExactFromManyx0
namespace Go.Proofs.Ytaacidhgnappdaa.PFnExactFromMany
open Go.RowKit Go.Proofs.YtaacidhgnappdaaW.PrintWords Go.Proofs.YtaacidhgnappdaaW.PrintLast Go.Proofs.YtaacidhgnappdaaW.PrintMore Go.Proofs.Ytaacidhgnappdaa.Slim
attribute [local go_sem] max2_int min2_int max_two min_two max_three min_three max_four min_four   -- for this text's walks alone
set_option linter.unusedVariables false
set_option linter.unusedSimpArgs false

/-! ### spec_l1In: function 79 -/
def spec_l1In.f (a0 : Int) (a1 : Int) (a2 : Int) : Option (Bool) := if a0 ≥ a1 then (some (decide (a0 ≤ a2))) else (some false)
set_option maxHeartbeats 8000000 in
set_option maxRecDepth 100000 in
theorem spec_l1In.calls (a0 : Int) (a1 : Int) (a2 : Int) (r : Bool) (w : World) (h : spec_l1In.f a0 a1 a2 = some r) :
  Calls Try.prog 79 #[.int .i64 a0, .int .i64 a1, .int .i64 a2] w fun e w' => e = .returned (.bool r) ∧ Drawn0 w w' := by
 have H : (if a0 ≥ a1 then (some (decide (a0 ≤ a2))) else (some false)) = some r := h
 clear h
 by_cases c4 : a0 ≥ a1
 ·rw [if_pos c4] at H
  have c4b0 : decide (a1 ≤ a0) = true := decide_eq_true c4
  clear c4
  obtain rfl := Option.some.inj H
  go_enter Try.func79, Try.ntmps79
  go_wp2
  go_ret
  exact ⟨by first | rfl | (simp; done) | (simp [*]; done), by repeat (first | exact Drawn0.refl _ | apply Drawn0.step)⟩
 ·rw [if_neg c4] at H
  have c4b0 : decide (a1 ≤ a0) = false := decide_eq_false c4
  clear c4
  obtain rfl := Option.some.inj H
  go_enter Try.func79, Try.ntmps79
  go_wp2
  go_ret
  exact ⟨by first | rfl | (simp; done) | (simp [*]; done), by repeat (first | exact Drawn0.refl _ | apply Drawn0.step)⟩

/-! ### spec_l1Turn: function 126 -/
def spec_l1Turn.f (a0 : Int) (a1 : Int) : Option (Int) := if 0 ≤ a1 then (if 0 ≤ (wrap64 (64 - a1)) then (some (Go.bits .or .u64 (shl .u64 a0 a1) (shr .u64 a0 (wrap64 (64 - a1))))) else (none)) else (none)
set_option maxHeartbeats 8000000 in
set_option maxRecDepth 100000 in
theorem spec_l1Turn.calls (a0 : Int) (a1 : Int) (r : Int) (w : World) (h : spec_l1Turn.f a0 a1 = some r) :
  Calls Try.prog 126 #[.int .u64 a0, .int .i64 a1] w fun e w' => e = .returned (.int .u64 r) ∧ Drawn0 w w' := by
 have H : (if 0 ≤ a1 then (if 0 ≤ (wrap64 (64 - a1)) then (some (Go.bits .or .u64 (shl .u64 a0 a1) (shr .u64 a0 (wrap64 (64 - a1))))) else (none)) else (none)) = some r := h
 clear h
 by_cases c3 : 0 ≤ a1
 ·rw [if_pos c3] at H
  have c3b0 := eq_true c3
  have c3b1 : decide (0 ≤ a1) = true := decide_eq_true c3
  clear c3
  obtain ⟨ji4, hji4⟩ : ∃ j_ : Int, (shl .u64 a0 a1) = j_ := ⟨_, rfl⟩
  replace H : (if 0 ≤ (wrap64 (64 - a1)) then (some (Go.bits .or .u64 (ji4) (shr .u64 a0 (wrap64 (64 - a1))))) else (none)) = some r := by first | (rw [hji4] at H; exact H) | (simp only [hji4] at H ⊢; exact H)
  have hji4_ : (IntKind.u64.wrap (a0 * 2 ^ min a1.toNat 64)) = ji4 := hji4
  have hji4z : a1 ≤ 64 → (IntKind.u64.wrap (a0 * 2 ^ a1.toNat)) = ji4 := shl_small hji4
  obtain ⟨ji5, hji5⟩ : ∃ j_ : Int, (wrap64 (64 - a1)) = j_ := ⟨_, rfl⟩
  replace H : (if 0 ≤ (ji5) then (some (Go.bits .or .u64 (ji4) (shr .u64 a0 (ji5)))) else (none)) = some r := by first | (rw [hji5] at H; exact H) | (simp only [hji5] at H ⊢; exact H)
  have hji5w : (IntKind.i64.wrap (64 - a1)) = ji5 := (i64_w _).trans hji5
  by_cases c6 : 0 ≤ (ji5)
  ·rw [if_pos c6] at H
   have c6b0 := eq_true c6
   have c6b1 : decide (0 ≤ (ji5)) = true := decide_eq_true c6
   clear c6
   obtain ⟨ji7, hji7⟩ : ∃ j_ : Int, (shr .u64 a0 (ji5)) = j_ := ⟨_, rfl⟩
   replace H : (some (Go.bits .or .u64 (ji4) (ji7))) = some r := by first | (rw [hji7] at H; exact H) | (simp only [hji7] at H ⊢; exact H)
   have hji7_ : (a0 / 2 ^ min (ji5).toNat 64) = ji7 := hji7
   have hji7z : (ji5) ≤ 64 → (a0 / 2 ^ (ji5).toNat) = ji7 := shr_small hji7
   obtain rfl := Option.some.inj H
   go_enter Try.func126, Try.ntmps126
   go_wp2
   repeat (go_quiet (fail); try go_wp2)
   go_ret
   exact ⟨by first | rfl | (simp; done) | (simp only [← hji4, ← hji5, ← hji7] <;> (first | rfl | simp)) | (simp [*]; done), by repeat (first | exact Drawn0.refl _ | apply Drawn0.step)⟩
  ·rw [if_neg c6] at H
   exact absurd H (by simp)
 ·rw [if_neg c3] at H
  exact absurd H (by simp)

/-! ### spec_l1Round: function 111 -/
def spec_l1Round.f (a0_0 : Int) (a0_1 : Int) (a0_2 : Int) : Option (Int × Int × Int) := (spec_l1Turn.f a0_1 13).bind fun t103 => ((spec_l1Turn.f a0_2 29).bind fun t104 => ((spec_l1Turn.f (IntKind.u64.wrap ((IntKind.u64.wrap (a0_0 + t103)) + 2654435761)) 41).bind fun t105 => (some (IntKind.u64.wrap ((IntKind.u64.wrap (a0_0 + t103)) + 2654435761), Go.bits .xor .u64 (Go.bits .xor .u64 a0_1 t104) (IntKind.u64.wrap ((IntKind.u64.wrap (a0_0 + t103)) + 2654435761)), IntKind.u64.wrap ((IntKind.u64.wrap (a0_2 + t105)) + (Go.bits .xor .u64 (Go.bits .xor .u64 (Go.bits .xor .u64 a0_1 t104) (IntKind.u64.wrap ((IntKind.u64.wrap (a0_0 + t103)) + 2654435761))) 40503))))))
def spec_l1Round.T1 : Bool × List (List Nat × List Nat) := (true, [([], []), ([0], [0]), ([], []), ([2], [2]), ([3], [3]), ([1, 4], [1, 4]), ([5], [5]), ([0, 1, 2, 3, 4, 5, 6], []), ([7, 6, 4, 0, 1, 2, 3, 4, 5, 6], [6, 7])])
def spec_l1Round.B1 : List Nat := [0, 1, 0, 4, 12, 31, 63, 127, 255]
theorem spec_l1Round.tab1 : rtab .any (opsOf Try.f111 1) = spec_l1Round.T1 := by kernel_rfl
theorem spec_l1Round.bits1 : waitsOk spec_l1Round.T1.2 spec_l1Round.B1 = true := by kernel_rfl
def spec_l1Round.T2 : Bool × List (List Nat × List Nat) := (true, [([], []), ([0], [0]), ([], []), ([2], [2]), ([3], [3]), ([1, 4], [1, 4]), ([], []), ([6], [6]), ([5, 7], [5, 7]), ([0, 1, 2, 3, 4, 5, 6, 7, 8], []), ([9, 8, 4, 0, 1, 2, 3, 4, 5, 6, 7, 8], [8, 9])])
def spec_l1Round.B2 : List Nat := [0, 1, 0, 4, 12, 31, 0, 64, 255, 511, 1023]
theorem spec_l1Round.tab2 : rtab .any (opsOf Try.f111 2) = spec_l1Round.T2 := by kernel_rfl
theorem spec_l1Round.bits2 : waitsOk spec_l1Round.T2.2 spec_l1Round.B2 = true := by kernel_rfl
def spec_l1Round.T3 : Bool × List (List Nat × List Nat) := (true, [([], []), ([0], [0]), ([], []), ([2], [2]), ([3], [3]), ([1, 4], [1, 4]), ([], []), ([6], [6]), ([7], [7]), ([5, 8], [5, 8]), ([0, 1, 2, 3, 4, 5, 6, 7, 8, 9], []), ([10, 9, 4, 0, 1, 2, 3, 4, 5, 6, 7, 8, 9], [9, 10])])
def spec_l1Round.B3 : List Nat := [0, 1, 0, 4, 12, 31, 0, 64, 192, 511, 1023, 2047]
theorem spec_l1Round.tab3 : rtab .any (opsOf Try.f111 3) = spec_l1Round.T3 := by kernel_rfl
theorem spec_l1Round.bits3 : waitsOk spec_l1Round.T3.2 spec_l1Round.B3 = true := by kernel_rfl
set_option maxHeartbeats 8000000 in
set_option maxRecDepth 100000 in
theorem spec_l1Round.calls (a0_0 : Int) (a0_1 : Int) (a0_2 : Int) (r1 : Int) (r2 : Int) (r3 : Int) (w : World) (h : spec_l1Round.f a0_0 a0_1 a0_2 = some (r1, r2, r3)) :
  Calls Try.prog 111 #[.agg #[.int .u64 a0_0, .int .u64 a0_1, .int .u64 a0_2]] w fun e w' => e = .returned (.agg #[.int .u64 r1, .int .u64 r2, .int .u64 r3]) ∧ Below w.heap.size w w' := by
 have hu107 := Try.underlying107
 have HB := Aside0.mk (Below.refl w.heap.size w)
 have H : ((spec_l1Turn.f a0_1 13).bind fun t103 => ((spec_l1Turn.f a0_2 29).bind fun t104 => ((spec_l1Turn.f (IntKind.u64.wrap ((IntKind.u64.wrap (a0_0 + t103)) + 2654435761)) 41).bind fun t105 => (some (IntKind.u64.wrap ((IntKind.u64.wrap (a0_0 + t103)) + 2654435761), Go.bits .xor .u64 (Go.bits .xor .u64 a0_1 t104) (IntKind.u64.wrap ((IntKind.u64.wrap (a0_0 + t103)) + 2654435761)), IntKind.u64.wrap ((IntKind.u64.wrap (a0_2 + t105)) + (Go.bits .xor .u64 (Go.bits .xor .u64 (Go.bits .xor .u64 a0_1 t104) (IntKind.u64.wrap ((IntKind.u64.wrap (a0_0 + t103)) + 2654435761))) 40503))))))) = some (r1, r2, r3) := h
 clear h
 replace H := Option.bind_eq_some_iff.mp H
 obtain ⟨t103, A20, H⟩ := H
 (try dsimp -simprocs only at H)
 have A2 := Aside0.mk A20
 clear A20
 replace H := Option.bind_eq_some_iff.mp H
 obtain ⟨t104, A30, H⟩ := H
 (try dsimp -simprocs only at H)
 have A3 := Aside0.mk A30
 clear A30
 replace H := Option.bind_eq_some_iff.mp H
 obtain ⟨t105, A40, H⟩ := H
 (try dsimp -simprocs only at H)
 have A4 := Aside0.mk A40
 clear A40
 simp only [Option.some.injEq, Prod.mk.injEq] at H
 obtain ⟨rfl, rfl, rfl⟩ := H
 go_enter Try.func111, Try.ntmps111
 try go_wp2_with (first | ((with_reducible refine gate_dst (N := 1) rfl ?_); refine box_event ?hg (N := 1) ?hd (cs := #[.int .u64 a0_0, .int .u64 a0_1, .int .u64 a0_2]) (t := 107) ?hr ?_; (case hd => rfl); (case hg => rfl); (case hr => first | (go_simp; done) | (go_simp; rfl)); intro gb101 hg w5 hbox hb; have BK101 := Aside0.mk (hbox); have GW101 := Aside0.mk ((by rw [hg]; exact (below_size (bt)) : w.heap.size ≤ gb101)); have GE101 := Aside0.mk ((by rw [hg]; exact (below_size (bt)) : w.heap.size ≤ gb101)); replace HB := Aside0.mk (below_step (bt) hb); clear hb hbox hg) | ((with_reducible refine gate_dst (N := 2) rfl ?_); refine box_event ?hg (N := 2) ?hd (cs := #[.int .u64 0, .int .u64 0, .int .u64 0]) (t := 107) ?hr ?_; (case hd => rfl); (case hg => rfl); (case hr => first | (go_simp; done) | (go_simp; rfl)); intro gb102 hg w6 hbox hb; have BK102 := Aside0.mk (hbox); have GW102 := Aside0.mk ((by rw [hg]; exact (below_size (b1 GE101.out)) : w.heap.size ≤ gb102)); have GE102 := Aside0.mk ((by rw [hg]; exact (below_size (b1 GE101.out)) : w.heap.size ≤ gb102)); replace HB := Aside0.mk (below_step (b1 GE101.out) hb); have NB101_102 := Aside0.mk ((by rw [hg]; exact Nat.ne_of_lt (blk_lt (g := gb101) (o := .cells #[.int .u64 a0_0, .int .u64 a0_1, .int .u64 a0_2] 107 (0, 0)) (mb BK101.out)) : gb101 ≠ gb102)); have NB102_101 := Aside0.mk ((by rw [hg]; exact Nat.ne_of_gt (blk_lt (g := gb101) (o := .cells #[.int .u64 a0_0, .int .u64 a0_1, .int .u64 a0_2] 107 (0, 0)) (mb BK101.out)) : gb102 ≠ gb101)); replace BK101 := Aside0.mk (blk_below (g := gb101) (o := .cells #[.int .u64 a0_0, .int .u64 a0_1, .int .u64 a0_2] 107 (0, 0)) (mb BK101.out) hb); clear hb hbox hg))
 have n0_ := Aside0.mk (blk_drew BK101.out)
 have n1_ := Aside0.mk (blk_drew BK102.out)
 have n2_ := Aside0.mk (below_drew1 HB.out)
 clear BK101
 clear BK102
 clear HB
 have BK101 := n0_
 have BK102 := n1_
 have HB := n2_
 clear n0_ n1_ n2_
 refine start_ (n := 9) (S := fun w' => w'.cell? ⟨gb101, 0, none⟩ = some (.int .u64 a0_0) ∧ w'.cell? ⟨gb101, 1, none⟩ = some (.int .u64 a0_1) ∧ w'.cell? ⟨gb101, 2, none⟩ = some (.int .u64 a0_2)) (ds := [8]) #[false, false, false, false, false, false, false, false, false] (by kernel_rfl) rfl rfl ⟨(blk_cell BK101.out 0).trans rfl, (blk_cell BK101.out 1).trans rfl, (blk_cell BK101.out 2).trans rfl⟩ (fun hHeld => ?_); refine with_tabW spec_l1Round.tab1 spec_l1Round.bits1 (fun HT_ HW_ => ?_)
 generalize w6.drew = w7 at BK101 BK102 HB hHeld ⊢
 refine pz (i := 0) (N := some 3) #[true, false, false, false, false, false, false, false, false] rfl rfl HT_.out ?_
 refine pz (i := 2) (N := some 5) #[true, false, true, false, false, false, false, false, false] rfl rfl HT_.out ?_
 refine tz (i := 1) (N := some 4) #[true, true, true, false, false, false, false, false, false] rfl rfl HT_.out HW_.out hHeld (Or.inl ⟨by rfl, by rintro w' ⟨s0, s1, s2⟩; go_simp; with_reducible rfl⟩) ?_
 refine tz (i := 3) (N := some 6) #[true, true, true, true, false, false, false, false, false] rfl rfl HT_.out HW_.out hHeld (Or.inl ⟨by rfl, by rintro w' ⟨s0, s1, s2⟩; go_simp; with_reducible rfl⟩) ?_
 refine one_ (i := 4) (N := some 7) #[true, true, true, true, true, false, false, false, false] rfl rfl (one_of HT_.out (by kernel_rfl)) (by decide) (fun K hK => ?_)
 refine goes_ Try.func126 (by kernel_rfl) rfl #[.int .u64 a0_1, .int .i64 13] (by rfl) rfl rfl av ?_
 with_reducible refine (spec_l1Turn.calls a0_1 13 t103 _ A2.out).mono ?_
 rintro e w' ⟨rfl, ⟨nd, rfl⟩⟩
 refine ⟨_, rfl, ?_⟩
 refine hK.out _ _ ⟨(blk_cell BK101.out 0).trans rfl, (blk_cell BK101.out 1).trans rfl, (blk_cell BK101.out 2).trans rfl⟩ (fun hHeld => ?_)
 clear hK K
 refine nz (N := some 7) ?_
 refine pz (i := 5) (N := some 8) #[true, true, true, true, true, true, false, false, false] rfl rfl HT_.out ?_
 refine pz (i := 6) (N := some 9) #[true, true, true, true, true, true, true, false, false] rfl rfl HT_.out ?_
 refine pz (i := 7) (N := some 10) #[true, true, true, true, true, true, true, true, false] rfl rfl HT_.out ?_
 refine last_ (i := 8) (N := none) #[true, true, true, true, true, true, true, true, true] rfl rfl (one_of HT_.out (by kernel_rfl)) (by decide) (fun K hK => ?_)
 have hs8 : w7.cell? ⟨gb101, 0, none⟩ = some (.int .u64 a0_0) := (blk_cell BK101.out 0).trans rfl
 have hfs8 := blk_frozen BK101.out 0
 have hns8_1 := NB102_101.out
 have hms8_1 := NB101_102.out
 refine skip_ (w1 := ?_) (by rfl) rfl ?_ ?_
 rotate_left
 ·go_simp
  rfl
 refine hK.out _ _ ?_
 clear hK K
 refine done_ (done_of HT_.out (by kernel_rfl)) ?_
 (try simp only [Dig.setCell_drewN])
 try go_wp2
 have n0_ : Aside0 ((w7.setCell ⟨gb101, 0, none⟩ (.int .u64 (IntKind.u64.wrap ((IntKind.u64.wrap (a0_0 + t103)) + 2654435761)))).heap[gb101]? = some (.cells #[.int .u64 (IntKind.u64.wrap ((IntKind.u64.wrap (a0_0 + t103)) + 2654435761)), .int .u64 a0_1, .int .u64 a0_2] 107 (0, 0))) := ⟨by (with_reducible repeat (first | refine blk_drewN ?_ _ | refine blk_drew ?_ | refine blk_alloc ?_ _)); refine blk_put (cs := #[.int .u64 a0_0, .int .u64 a0_1, .int .u64 a0_2]) ?_ 0 _ rfl; (with_reducible repeat (first | refine blk_drewN ?_ _ | refine blk_drew ?_ | refine blk_alloc ?_ _)); exact BK101.out⟩
 have n1_ : Aside0 ((w7.setCell ⟨gb101, 0, none⟩ (.int .u64 (IntKind.u64.wrap ((IntKind.u64.wrap (a0_0 + t103)) + 2654435761)))).heap[gb102]? = some (.cells #[.int .u64 0, .int .u64 0, .int .u64 0] 107 (0, 0))) := ⟨by (with_reducible repeat (first | refine blk_drewN ?_ _ | refine blk_drew ?_ | refine blk_alloc ?_ _)); refine blk_far ?_ NB102_101.out _; (with_reducible repeat (first | refine blk_drewN ?_ _ | refine blk_drew ?_ | refine blk_alloc ?_ _)); exact BK102.out⟩
 have n2_ : Aside0 (Below w.heap.size w (w7.setCell ⟨gb101, 0, none⟩ (.int .u64 (IntKind.u64.wrap ((IntKind.u64.wrap (a0_0 + t103)) + 2654435761))))) := ⟨by repeat (first | (with_reducible first | exact HB.out | apply below_alloc | apply pw_below_drewN | apply below_drew1 | refine below_set ?_ GE101.out | refine below_set ?_ GE102.out) | exact HB.out)⟩
 (try clear BK101)
 (try clear BK102)
 (try clear HB)
 generalize (w7.setCell ⟨gb101, 0, none⟩ (.int .u64 (IntKind.u64.wrap ((IntKind.u64.wrap (a0_0 + t103)) + 2654435761)))) = w9 at n0_ n1_ n2_ ⊢
 have BK101 := n0_
 have BK102 := n1_
 have HB := n2_
 clear n0_ n1_ n2_
 (try (rw [drewN_self w9]; generalize hq_ : World.drewN w9 _ = w9; have n0_ : Aside0 (w9.heap[gb101]? = some (.cells #[.int .u64 (IntKind.u64.wrap ((IntKind.u64.wrap (a0_0 + t103)) + 2654435761)), .int .u64 a0_1, .int .u64 a0_2] 107 (0, 0))) := ⟨by rw [← hq_]; exact (mb BK101.out)⟩; have n1_ : Aside0 (w9.heap[gb102]? = some (.cells #[.int .u64 0, .int .u64 0, .int .u64 0] 107 (0, 0))) := ⟨by rw [← hq_]; exact (mb BK102.out)⟩; have n2_ : Aside0 (Below w.heap.size w w9) := ⟨by rw [← hq_]; exact (by repeat (first | (with_reducible first | exact HB.out | apply below_alloc | apply pw_below_drewN | apply below_drew1 | refine below_set ?_ GE101.out | refine below_set ?_ GE102.out) | exact HB.out))⟩; clear BK101 BK102 HB hq_; have BK101 := n0_; have BK102 := n1_; have HB := n2_; clear n0_ n1_ n2_))
 have n0_ := Aside0.mk (blk_drew BK101.out)
 have n1_ := Aside0.mk (blk_drew BK102.out)
 have n2_ := Aside0.mk (below_drew1 HB.out)
 clear BK101
 clear BK102
 clear HB
 have BK101 := n0_
 have BK102 := n1_
 have HB := n2_
 clear n0_ n1_ n2_
 refine start_ (n := 11) (S := fun w' => w'.cell? ⟨gb101, 0, none⟩ = some (.int .u64 (IntKind.u64.wrap ((IntKind.u64.wrap (a0_0 + t103)) + 2654435761))) ∧ w'.cell? ⟨gb101, 1, none⟩ = some (.int .u64 a0_1) ∧ w'.cell? ⟨gb101, 2, none⟩ = some (.int .u64 a0_2)) (ds := [10]) #[false, false, false, false, false, false, false, false, false, false, false] (by kernel_rfl) rfl rfl ⟨(blk_cell BK101.out 0).trans rfl, (blk_cell BK101.out 1).trans rfl, (blk_cell BK101.out 2).trans rfl⟩ (fun hHeld => ?_); refine with_tabW spec_l1Round.tab2 spec_l1Round.bits2 (fun HT_ HW_ => ?_)
 generalize w9.drew = w10 at BK101 BK102 HB hHeld ⊢
 refine pz (i := 0) (N := some 11) #[true, false, false, false, false, false, false, false, false, false, false] rfl rfl HT_.out ?_
 refine pz (i := 2) (N := some 13) #[true, false, true, false, false, false, false, false, false, false, false] rfl rfl HT_.out ?_
 refine pz (i := 6) (N := some 17) #[true, false, true, false, false, false, true, false, false, false, false] rfl rfl HT_.out ?_
 refine tz (i := 1) (N := some 12) #[true, true, true, false, false, false, true, false, false, false, false] rfl rfl HT_.out HW_.out hHeld (Or.inl ⟨by rfl, by rintro w' ⟨s0, s1, s2⟩; go_simp; with_reducible rfl⟩) ?_
 refine tz (i := 3) (N := some 14) #[true, true, true, true, false, false, true, false, false, false, false] rfl rfl HT_.out HW_.out hHeld (Or.inl ⟨by rfl, by rintro w' ⟨s0, s1, s2⟩; go_simp; with_reducible rfl⟩) ?_
 refine tz (i := 7) (N := some 18) #[true, true, true, true, false, false, true, true, false, false, false] rfl rfl HT_.out HW_.out hHeld (Or.inl ⟨by rfl, by rintro w' ⟨s0, s1, s2⟩; go_simp; with_reducible rfl⟩) ?_
 refine one_ (i := 4) (N := some 15) #[true, true, true, true, true, false, true, true, false, false, false] rfl rfl (one_of HT_.out (by kernel_rfl)) (by decide) (fun K hK => ?_)
 refine goes_ Try.func126 (by kernel_rfl) rfl #[.int .u64 a0_2, .int .i64 29] (by rfl) rfl rfl av ?_
 with_reducible refine (spec_l1Turn.calls a0_2 29 t104 _ A3.out).mono ?_
 rintro e w' ⟨rfl, ⟨nd, rfl⟩⟩
 refine ⟨_, rfl, ?_⟩
 refine hK.out _ _ ⟨(blk_cell BK101.out 0).trans rfl, (blk_cell BK101.out 1).trans rfl, (blk_cell BK101.out 2).trans rfl⟩ (fun hHeld => ?_)
 clear hK K
 refine nz (N := some 15) ?_
 refine pz (i := 5) (N := some 16) #[true, true, true, true, true, true, true, true, false, false, false] rfl rfl HT_.out ?_
 refine pz (i := 8) (N := some 19) #[true, true, true, true, true, true, true, true, true, false, false] rfl rfl HT_.out ?_
 refine pz (i := 9) (N := some 20) #[true, true, true, true, true, true, true, true, true, true, false] rfl rfl HT_.out ?_
 refine last_ (i := 10) (N := none) #[true, true, true, true, true, true, true, true, true, true, true] rfl rfl (one_of HT_.out (by kernel_rfl)) (by decide) (fun K hK => ?_)
 have hs11 : w10.cell? ⟨gb101, 1, none⟩ = some (.int .u64 a0_1) := (blk_cell BK101.out 1).trans rfl
 have hfs11 := blk_frozen BK101.out 1
 have hns11_1 := NB102_101.out
 have hms11_1 := NB101_102.out
 refine skip_ (w1 := ?_) (by rfl) rfl ?_ ?_
 rotate_left
 ·go_simp
  rfl
 refine hK.out _ _ ?_
 clear hK K
 refine done_ (done_of HT_.out (by kernel_rfl)) ?_
 (try simp only [Dig.setCell_drewN])
 try go_wp2
 have n0_ : Aside0 ((w10.setCell ⟨gb101, 1, none⟩ (.int .u64 (Go.bits .xor .u64 (Go.bits .xor .u64 a0_1 t104) (IntKind.u64.wrap ((IntKind.u64.wrap (a0_0 + t103)) + 2654435761))))).heap[gb101]? = some (.cells #[.int .u64 (IntKind.u64.wrap ((IntKind.u64.wrap (a0_0 + t103)) + 2654435761)), .int .u64 (Go.bits .xor .u64 (Go.bits .xor .u64 a0_1 t104) (IntKind.u64.wrap ((IntKind.u64.wrap (a0_0 + t103)) + 2654435761))), .int .u64 a0_2] 107 (0, 0))) := ⟨by (with_reducible repeat (first | refine blk_drewN ?_ _ | refine blk_drew ?_ | refine blk_alloc ?_ _)); refine blk_put (cs := #[.int .u64 (IntKind.u64.wrap ((IntKind.u64.wrap (a0_0 + t103)) + 2654435761)), .int .u64 a0_1, .int .u64 a0_2]) ?_ 1 _ rfl; (with_reducible repeat (first | refine blk_drewN ?_ _ | refine blk_drew ?_ | refine blk_alloc ?_ _)); exact BK101.out⟩
 have n1_ : Aside0 ((w10.setCell ⟨gb101, 1, none⟩ (.int .u64 (Go.bits .xor .u64 (Go.bits .xor .u64 a0_1 t104) (IntKind.u64.wrap ((IntKind.u64.wrap (a0_0 + t103)) + 2654435761))))).heap[gb102]? = some (.cells #[.int .u64 0, .int .u64 0, .int .u64 0] 107 (0, 0))) := ⟨by (with_reducible repeat (first | refine blk_drewN ?_ _ | refine blk_drew ?_ | refine blk_alloc ?_ _)); refine blk_far ?_ NB102_101.out _; (with_reducible repeat (first | refine blk_drewN ?_ _ | refine blk_drew ?_ | refine blk_alloc ?_ _)); exact BK102.out⟩
 have n2_ : Aside0 (Below w.heap.size w (w10.setCell ⟨gb101, 1, none⟩ (.int .u64 (Go.bits .xor .u64 (Go.bits .xor .u64 a0_1 t104) (IntKind.u64.wrap ((IntKind.u64.wrap (a0_0 + t103)) + 2654435761)))))) := ⟨by repeat (first | (with_reducible first | exact HB.out | apply below_alloc | apply pw_below_drewN | apply below_drew1 | refine below_set ?_ GE101.out | refine below_set ?_ GE102.out) | exact HB.out)⟩
 (try clear BK101)
 (try clear BK102)
 (try clear HB)
 generalize (w10.setCell ⟨gb101, 1, none⟩ (.int .u64 (Go.bits .xor .u64 (Go.bits .xor .u64 a0_1 t104) (IntKind.u64.wrap ((IntKind.u64.wrap (a0_0 + t103)) + 2654435761))))) = w12 at n0_ n1_ n2_ ⊢
 have BK101 := n0_
 have BK102 := n1_
 have HB := n2_
 clear n0_ n1_ n2_
 (try (rw [drewN_self w12]; generalize hq_ : World.drewN w12 _ = w12; have n0_ : Aside0 (w12.heap[gb101]? = some (.cells #[.int .u64 (IntKind.u64.wrap ((IntKind.u64.wrap (a0_0 + t103)) + 2654435761)), .int .u64 (Go.bits .xor .u64 (Go.bits .xor .u64 a0_1 t104) (IntKind.u64.wrap ((IntKind.u64.wrap (a0_0 + t103)) + 2654435761))), .int .u64 a0_2] 107 (0, 0))) := ⟨by rw [← hq_]; exact (mb BK101.out)⟩; have n1_ : Aside0 (w12.heap[gb102]? = some (.cells #[.int .u64 0, .int .u64 0, .int .u64 0] 107 (0, 0))) := ⟨by rw [← hq_]; exact (mb BK102.out)⟩; have n2_ : Aside0 (Below w.heap.size w w12) := ⟨by rw [← hq_]; exact (by repeat (first | (with_reducible first | exact HB.out | apply below_alloc | apply pw_below_drewN | apply below_drew1 | refine below_set ?_ GE101.out | refine below_set ?_ GE102.out) | exact HB.out))⟩; clear BK101 BK102 HB hq_; have BK101 := n0_; have BK102 := n1_; have HB := n2_; clear n0_ n1_ n2_))
 have n0_ := Aside0.mk (blk_drew BK101.out)
 have n1_ := Aside0.mk (blk_drew BK102.out)
 have n2_ := Aside0.mk (below_drew1 HB.out)
 clear BK101
 clear BK102
 clear HB
 have BK101 := n0_
 have BK102 := n1_
 have HB := n2_
 clear n0_ n1_ n2_
 refine start_ (n := 12) (S := fun w' => w'.cell? ⟨gb101, 0, none⟩ = some (.int .u64 (IntKind.u64.wrap ((IntKind.u64.wrap (a0_0 + t103)) + 2654435761))) ∧ w'.cell? ⟨gb101, 1, none⟩ = some (.int .u64 (Go.bits .xor .u64 (Go.bits .xor .u64 a0_1 t104) (IntKind.u64.wrap ((IntKind.u64.wrap (a0_0 + t103)) + 2654435761)))) ∧ w'.cell? ⟨gb101, 2, none⟩ = some (.int .u64 a0_2)) (ds := [11]) #[false, false, false, false, false, false, false, false, false, false, false, false] (by kernel_rfl) rfl rfl ⟨(blk_cell BK101.out 0).trans rfl, (blk_cell BK101.out 1).trans rfl, (blk_cell BK101.out 2).trans rfl⟩ (fun hHeld => ?_); refine with_tabW spec_l1Round.tab3 spec_l1Round.bits3 (fun HT_ HW_ => ?_)
 generalize w12.drew = w13 at BK101 BK102 HB hHeld ⊢
 refine pz (i := 0) (N := some 21) #[true, false, false, false, false, false, false, false, false, false, false, false] rfl rfl HT_.out ?_
 refine pz (i := 2) (N := some 23) #[true, false, true, false, false, false, false, false, false, false, false, false] rfl rfl HT_.out ?_
 refine pz (i := 6) (N := some 27) #[true, false, true, false, false, false, true, false, false, false, false, false] rfl rfl HT_.out ?_
 refine tz (i := 1) (N := some 22) #[true, true, true, false, false, false, true, false, false, false, false, false] rfl rfl HT_.out HW_.out hHeld (Or.inl ⟨by rfl, by rintro w' ⟨s0, s1, s2⟩; go_simp; with_reducible rfl⟩) ?_
 refine tz (i := 3) (N := some 24) #[true, true, true, true, false, false, true, false, false, false, false, false] rfl rfl HT_.out HW_.out hHeld (Or.inl ⟨by rfl, by rintro w' ⟨s0, s1, s2⟩; go_simp; with_reducible rfl⟩) ?_
 refine tz (i := 7) (N := some 28) #[true, true, true, true, false, false, true, true, false, false, false, false] rfl rfl HT_.out HW_.out hHeld (Or.inl ⟨by rfl, by rintro w' ⟨s0, s1, s2⟩; go_simp; with_reducible rfl⟩) ?_
 refine pz (i := 8) (N := some 29) #[true, true, true, true, false, false, true, true, true, false, false, false] rfl rfl HT_.out ?_
 refine one_ (i := 4) (N := some 25) #[true, true, true, true, true, false, true, true, true, false, false, false] rfl rfl (one_of HT_.out (by kernel_rfl)) (by decide) (fun K hK => ?_)
 refine goes_ Try.func126 (by kernel_rfl) rfl #[.int .u64 (IntKind.u64.wrap ((IntKind.u64.wrap (a0_0 + t103)) + 2654435761)), .int .i64 41] (by rfl) rfl rfl av ?_
 with_reducible refine (spec_l1Turn.calls (IntKind.u64.wrap ((IntKind.u64.wrap (a0_0 + t103)) + 2654435761)) 41 t105 _ A4.out).mono ?_
 rintro e w' ⟨rfl, ⟨nd, rfl⟩⟩
 refine ⟨_, rfl, ?_⟩
 refine hK.out _ _ ⟨(blk_cell BK101.out 0).trans rfl, (blk_cell BK101.out 1).trans rfl, (blk_cell BK101.out 2).trans rfl⟩ (fun hHeld => ?_)
 clear hK K
 refine nz (N := some 25) ?_
 refine pz (i := 5) (N := some 26) #[true, true, true, true, true, true, true, true, true, false, false, false] rfl rfl HT_.out ?_
 refine pz (i := 9) (N := some 30) #[true, true, true, true, true, true, true, true, true, true, false, false] rfl rfl HT_.out ?_
 refine pz (i := 10) (N := some 31) #[true, true, true, true, true, true, true, true, true, true, true, false] rfl rfl HT_.out ?_
 refine last_ (i := 11) (N := none) #[true, true, true, true, true, true, true, true, true, true, true, true] rfl rfl (one_of HT_.out (by kernel_rfl)) (by decide) (fun K hK => ?_)
 have hs14 : w13.cell? ⟨gb101, 2, none⟩ = some (.int .u64 a0_2) := (blk_cell BK101.out 2).trans rfl
 have hfs14 := blk_frozen BK101.out 2
 have hns14_1 := NB102_101.out
 have hms14_1 := NB101_102.out
 refine skip_ (w1 := ?_) (by rfl) rfl ?_ ?_
 rotate_left
 ·go_simp
  rfl
 refine hK.out _ _ ?_
 clear hK K
 refine done_ (done_of HT_.out (by kernel_rfl)) ?_
 have hnb15 := NB101_102.out
 have hnc15 := NB102_101.out
 have hcz16_0 : w13.cell? ⟨gb101, 0, none⟩ = some (.int .u64 (IntKind.u64.wrap ((IntKind.u64.wrap (a0_0 + t103)) + 2654435761))) := (blk_cell BK101.out 0).trans rfl
 have hcz16_1 : w13.cell? ⟨gb101, 1, none⟩ = some (.int .u64 (Go.bits .xor .u64 (Go.bits .xor .u64 a0_1 t104) (IntKind.u64.wrap ((IntKind.u64.wrap (a0_0 + t103)) + 2654435761)))) := (blk_cell BK101.out 1).trans rfl
 have hcz16_2 : w13.cell? ⟨gb101, 2, none⟩ = some (.int .u64 a0_2) := (blk_cell BK101.out 2).trans rfl
 have hfz16_0 := blk_frozen BK101.out 0
 have hfz16_1 := blk_frozen BK101.out 1
 have hfz16_2 := blk_frozen BK101.out 2
 have hcz17_0 : w13.cell? ⟨gb102, 0, none⟩ = some (.int .u64 0) := (blk_cell BK102.out 0).trans rfl
 have hcz17_1 : w13.cell? ⟨gb102, 1, none⟩ = some (.int .u64 0) := (blk_cell BK102.out 1).trans rfl
 have hcz17_2 : w13.cell? ⟨gb102, 2, none⟩ = some (.int .u64 0) := (blk_cell BK102.out 2).trans rfl
 have hfz17_0 := blk_frozen BK102.out 0
 have hfz17_1 := blk_frozen BK102.out 1
 have hfz17_2 := blk_frozen BK102.out 2
 try go_wp2
 refine bodyPost_ret (results_cell_row rfl _ _ gb102 107 #[.int .u64 (IntKind.u64.wrap ((IntKind.u64.wrap (a0_0 + t103)) + 2654435761)), .int .u64 (Go.bits .xor .u64 (Go.bits .xor .u64 a0_1 t104) (IntKind.u64.wrap ((IntKind.u64.wrap (a0_0 + t103)) + 2654435761))), .int .u64 (IntKind.u64.wrap ((IntKind.u64.wrap (a0_2 + t105)) + (Go.bits .xor .u64 (Go.bits .xor .u64 (Go.bits .xor .u64 a0_1 t104) (IntKind.u64.wrap ((IntKind.u64.wrap (a0_0 + t103)) + 2654435761))) 40503)))] (0, 0) _ rfl (by (with_reducible repeat (first | refine blk_drewN ?_ _ | refine blk_drew ?_ | refine blk_alloc ?_ _)); refine blk_put (cs := #[.int .u64 (IntKind.u64.wrap ((IntKind.u64.wrap (a0_0 + t103)) + 2654435761)), .int .u64 (Go.bits .xor .u64 (Go.bits .xor .u64 a0_1 t104) (IntKind.u64.wrap ((IntKind.u64.wrap (a0_0 + t103)) + 2654435761))), .int .u64 0]) ?_ 2 _ rfl; (with_reducible repeat (first | refine blk_drewN ?_ _ | refine blk_drew ?_ | refine blk_alloc ?_ _)); refine blk_put (cs := #[.int .u64 (IntKind.u64.wrap ((IntKind.u64.wrap (a0_0 + t103)) + 2654435761)), .int .u64 0, .int .u64 0]) ?_ 1 _ rfl; (with_reducible repeat (first | refine blk_drewN ?_ _ | refine blk_drew ?_ | refine blk_alloc ?_ _)); refine blk_put (cs := #[.int .u64 0, .int .u64 0, .int .u64 0]) ?_ 0 _ rfl; (with_reducible repeat (first | refine blk_drewN ?_ _ | refine blk_drew ?_ | refine blk_alloc ?_ _)); refine blk_far ?_ NB102_101.out _; (with_reducible repeat (first | refine blk_drewN ?_ _ | refine blk_drew ?_ | refine blk_alloc ?_ _)); exact BK102.out) Try.underlying107 rfl (by kernel_rfl)) rfl ?_
 exact ⟨by first | rfl | (simp [errW_none, errW_some] <;> rfl) | (simp [*, errW_none, errW_some] <;> rfl), by repeat (first | (with_reducible first | exact HB.out | apply below_alloc | apply pw_below_drewN | apply below_drew1 | refine below_set ?_ GE101.out | refine below_set ?_ GE102.out) | exact HB.out)⟩

/-! ### spec_l1Out: function 112 -/
def spec_l1Out.l0 : Nat → Int → Int → Int → Int → Int → Int → Option (Int)
 | 0, _, _, _, _, _, _ => none
 | k + 1, x0, x2, x7, x107000, x107001, x107002 => if x7 < x2 then ((spec_l1Round.f x107000 x107001 x107002).bind fun bt107 => (spec_l1Out.l0 k x0 x2 (wrap64 (x7 + 1)) bt107.1 bt107.2.1 bt107.2.2)) else (if 0 ≤ x0 then (some (wrap64 (Go.bits .and .u64 (Go.bits .xor .u64 (Go.bits .xor .u64 x107000 x107001) x107002) (IntKind.u64.wrap ((shl .u64 1 x0) - 1))))) else (none))
def spec_l1Out.f (k : Nat) (a0 : Int) (a1_0 : Int) (a1_1 : Int) (a1_2 : Int) (a2 : Int) : Option (Int) := spec_l1Out.l0 k a0 a2 0 a1_0 a1_1 a1_2
set_option maxHeartbeats 8000000 in
set_option maxRecDepth 100000 in
theorem spec_l1Out.calls (k : Nat) (a0 : Int) (a1_0 : Int) (a1_1 : Int) (a1_2 : Int) (a2 : Int) (r : Int) (w : World) (h : spec_l1Out.f k a0 a1_0 a1_1 a1_2 a2 = some r) :
  Calls Try.prog 112 #[.int .i64 a0, .agg #[.int .u64 a1_0, .int .u64 a1_1, .int .u64 a1_2], .int .i64 a2] w fun e w' => e = .returned (.int .i64 r) ∧ Below w.heap.size w w' := by
 have hu107 := Try.underlying107
 have HB := Aside0.mk (Below.refl w.heap.size w)
 have H : (spec_l1Out.l0 k a0 a2 0 a1_0 a1_1 a1_2) = some r := h
 clear h
 have H' := Aside0.mk H
 clear H
 go_enter Try.func112, Try.ntmps112
 go_wp2_with (first | ((with_reducible refine gate_dst (N := 4) rfl ?_); refine box_event ?hg (N := 4) ?hd (cs := #[.int .u64 a1_0, .int .u64 a1_1, .int .u64 a1_2]) (t := 107) ?hr ?_; (case hd => rfl); (case hg => rfl); (case hr => first | (go_simp; done) | (go_simp; rfl)); intro gb106 hg w4 hbox hb; have BK106 := Aside0.mk (hbox); have GW106 := Aside0.mk ((by rw [hg]; exact (below_size (bt)) : w.heap.size ≤ gb106)); have GE106 := Aside0.mk ((by rw [hg]; exact (below_size (bt)) : w.heap.size ≤ gb106)); replace HB := Aside0.mk (below_step (bt) hb); clear hb hbox hg))
 go_loopg [7] k (fun kq v7 w' => ∃ (x7_1 : Int) (x107000_1 : Int) (x107001_1 : Int) (x107002_1 : Int), v7 = .int .i64 x7_1 ∧ Aside0 (spec_l1Out.l0 kq a0 a2 x7_1 x107000_1 x107001_1 x107002_1 = some r) ∧ Aside0 (kq ≤ k) ∧ Aside0 (w'.heap[gb106]? = some (.cells #[.int .u64 x107000_1, .int .u64 x107001_1, .int .u64 x107002_1] 107 (0, 0))) ∧ Aside0 (Below w.heap.size w w'))
 case atStart => exact ⟨(0), (a1_0), (a1_1), (a1_2), (by first | rfl | (simp; done) | (simp [*]; done)), H', ⟨Nat.le_refl _⟩, ⟨mb BK106.out⟩, ⟨b1 GE106.out⟩⟩
 case round =>
  clear H'
  try clear c1
  try clear p2
  obtain ⟨x7_1, x107000_1, x107001_1, x107002_1, rfl, HA, HK1, BK106, HB⟩ := hrel
  cases gk with
  | zero => exact absurd HA.out (by simp [spec_l1Out.l0])
  | succ k1 =>
   have H := HA.out
   clear HA
   simp only [spec_l1Out.l0] at H
   by_cases c5 : x7_1 < a2
   ·rw [if_pos c5] at H
    have c5b0 : decide (x7_1 < a2) = true := decide_eq_true c5
    clear c5
    replace H := Option.bind_eq_some_iff.mp H
    obtain ⟨⟨t107, t108, t109⟩, A60, H⟩ := H
    (try dsimp -simprocs only at H)
    have A6 := Aside0.mk A60
    clear A60
    have H' := Aside0.mk H
    clear H
    have hcz7_0 : wr.cell? ⟨gb106, 0, none⟩ = some (.int .u64 x107000_1) := (blk_cell BK106.out 0).trans rfl
    have hcz7_1 : wr.cell? ⟨gb106, 1, none⟩ = some (.int .u64 x107001_1) := (blk_cell BK106.out 1).trans rfl
    have hcz7_2 : wr.cell? ⟨gb106, 2, none⟩ = some (.int .u64 x107002_1) := (blk_cell BK106.out 2).trans rfl
    have hfz7_0 := blk_frozen BK106.out 0
    have hfz7_1 := blk_frozen BK106.out 1
    have hfz7_2 := blk_frozen BK106.out 2
    go_wp2_with (first | (go_at_call 111; (with_reducible refine (spec_l1Round.calls x107000_1 x107001_1 x107002_1 t107 t108 t109 _ A6.out).mono ?_); rintro e w8 ⟨rfl, hb⟩; replace BK106 := Aside0.mk (blk_below (g := gb106) (o := .cells #[.int .u64 x107000_1, .int .u64 x107001_1, .int .u64 x107002_1] 107 (0, 0)) (mb BK106.out) hb); replace HB := Aside0.mk (below_step (b1 GE106.out) hb); (try clear hb); (try clear hb2); (try clear hk); (try clear hi); have hcz9_0 : w8.cell? ⟨gb106, 0, none⟩ = some (.int .u64 x107000_1) := (blk_cell BK106.out 0).trans rfl; have hcz9_1 : w8.cell? ⟨gb106, 1, none⟩ = some (.int .u64 x107001_1) := (blk_cell BK106.out 1).trans rfl; have hcz9_2 : w8.cell? ⟨gb106, 2, none⟩ = some (.int .u64 x107002_1) := (blk_cell BK106.out 2).trans rfl; have hfz9_0 := blk_frozen BK106.out 0; have hfz9_1 := blk_frozen BK106.out 1; have hfz9_2 := blk_frozen BK106.out 2))
    go_roundg k1
    case measure => have := HK1.out; omega
    case rel => exact ⟨(wrap64 (x7_1 + 1)), (t107), (t108), (t109), (by first | rfl | (simp; done) | (simp [*]; done)), H', ⟨by have := HK1.out; omega⟩, ⟨by (with_reducible repeat (first | refine blk_drewN ?_ _ | refine blk_drew ?_ | refine blk_alloc ?_ _)); refine blk_put (cs := #[.int .u64 t107, .int .u64 t108, .int .u64 x107002_1]) ?_ 2 _ rfl; (with_reducible repeat (first | refine blk_drewN ?_ _ | refine blk_drew ?_ | refine blk_alloc ?_ _)); refine blk_put (cs := #[.int .u64 t107, .int .u64 x107001_1, .int .u64 x107002_1]) ?_ 1 _ rfl; (with_reducible repeat (first | refine blk_drewN ?_ _ | refine blk_drew ?_ | refine blk_alloc ?_ _)); refine blk_put (cs := #[.int .u64 x107000_1, .int .u64 x107001_1, .int .u64 x107002_1]) ?_ 0 _ rfl; (with_reducible repeat (first | refine blk_drewN ?_ _ | refine blk_drew ?_ | refine blk_alloc ?_ _)); exact BK106.out⟩, ⟨b1 GE106.out⟩⟩
   ·rw [if_neg c5] at H
    have c5b0 : decide (x7_1 < a2) = false := decide_eq_false c5
    clear c5
    by_cases c10 : 0 ≤ a0
    ·rw [if_pos c10] at H
     have c10b0 := eq_true c10
     have c10b1 : decide (0 ≤ a0) = true := decide_eq_true c10
     clear c10
     obtain ⟨ji11, hji11⟩ : ∃ j_ : Int, (shl .u64 1 a0) = j_ := ⟨_, rfl⟩
     replace H : (some (wrap64 (Go.bits .and .u64 (Go.bits .xor .u64 (Go.bits .xor .u64 x107000_1 x107001_1) x107002_1) (IntKind.u64.wrap ((ji11) - 1))))) = some r := by first | (rw [hji11] at H; exact H) | (simp only [hji11] at H ⊢; exact H)
     have hji11_ : (IntKind.u64.wrap (1 * 2 ^ min a0.toNat 64)) = ji11 := hji11
     have hji11z : a0 ≤ 64 → (IntKind.u64.wrap (1 * 2 ^ a0.toNat)) = ji11 := shl_small hji11
     have hji11u : (IntKind.u64.wrap (2 ^ min a0.toNat 64)) = ji11 := by have h_ := hji11_; rw [Int.one_mul] at h_; exact h_
     have hji11v : a0 ≤ 64 → (IntKind.u64.wrap (2 ^ a0.toNat)) = ji11 := fun hle_ => by have h_ := hji11z hle_; rw [Int.one_mul] at h_; exact h_
     obtain rfl := Option.some.inj H
     have hcz12_0 : wr.cell? ⟨gb106, 0, none⟩ = some (.int .u64 x107000_1) := (blk_cell BK106.out 0).trans rfl
     have hcz12_1 : wr.cell? ⟨gb106, 1, none⟩ = some (.int .u64 x107001_1) := (blk_cell BK106.out 1).trans rfl
     have hcz12_2 : wr.cell? ⟨gb106, 2, none⟩ = some (.int .u64 x107002_1) := (blk_cell BK106.out 2).trans rfl
     have hfz12_0 := blk_frozen BK106.out 0
     have hfz12_1 := blk_frozen BK106.out 1
     have hfz12_2 := blk_frozen BK106.out 2
     go_wp2
     repeat (go_quiet (fail); try go_wp2)
     go_ret
     exact ⟨by first | rfl | (simp [errW_none, errW_some] <;> rfl) | (simp only [← hji11]; first | rfl | (simp [errW_none, errW_some] <;> rfl)) | (simp [*, errW_none, errW_some] <;> rfl), b1 GE106.out⟩
    ·rw [if_neg c10] at H
     exact absurd H (by simp)

/-! ### spec_Digest: function 77 -/
mutual
def spec_Digest.j0 : Nat → Int → List Int → Bool → Option (Int)
 | 0, _, _, _ => none
 | k + 1, x0, x1, x14 => if x14 = true then (some (-1)) else (spec_Digest.l0 k x0 x1 0 1 2 3)
def spec_Digest.l0 : Nat → Int → List Int → Int → Int → Int → Int → Option (Int)
 | 0, _, _, _, _, _, _ => none
 | k + 1, x0, x1, x6, x112000, x112001, x112002 => if x6 < (x1.length : Int) then (if 0 ≤ x6 then ((spec_l1Round.f (Go.bits .xor .u64 x112000 (IntKind.u64.wrap (rd x1 x6))) x112001 x112002).bind fun bt113 => ((spec_l1Round.f bt113.1 bt113.2.1 bt113.2.2).bind fun bt116 => (spec_Digest.l0 k x0 x1 (wrap64 (x6 + 1)) bt116.1 bt116.2.1 bt116.2.2))) else (none)) else ((spec_l1Out.f k x0 (Go.bits .xor .u64 x112000 (IntKind.u64.wrap ((x1.length : Int)))) x112001 x112002 6).bind fun t119 => (some t119))
end
def spec_Digest.f (k : Nat) (a0 : Int) (l1 : List Int) : Option (Int) := (spec_l1In.f a0 2 60).bind fun t110 => (if t110 = true then (spec_Digest.j0 k a0 l1 (decide ((l1.length : Int) > 4000))) else (spec_Digest.j0 k a0 l1 true))
def spec_Digest.T7 : Bool × List (List Nat × List Nat) := (true, [([], []), ([0], [0]), ([], []), ([], []), ([2, 3], [2, 3]), ([4], [4]), ([5], [5]), ([1, 6], [1, 6]), ([0, 1, 2, 3, 4, 5, 6, 7], []), ([8, 7, 0, 1, 2, 3, 4, 5, 6, 7], [7, 8])])
def spec_Digest.B7 : List Nat := [0, 1, 0, 0, 12, 28, 60, 127, 255, 511]
theorem spec_Digest.tab7 : rtab .any (opsOf Try.f77 7) = spec_Digest.T7 := by kernel_rfl
theorem spec_Digest.bits7 : waitsOk spec_Digest.T7.2 spec_Digest.B7 = true := by kernel_rfl
set_option maxHeartbeats 8000000 in
set_option maxRecDepth 100000 in
theorem spec_Digest.calls (k : Nat) (a0 : Int) (A1 : Option Addr) (c1 : Nat) (l1 : List Int) (r : Int) (w : World) (hr1 : Kd.C (Kd.int .u8) w A1 l1.length l1) (hc1 : l1.length ≤ c1) (h : spec_Digest.f k a0 l1 = some r) :
  Calls Try.prog 77 #[.int .i64 a0, .slice A1 l1.length c1] w fun e w' => e = .returned (.int .i64 r) ∧ Below w.heap.size w w' := by
 have hu107 := Try.underlying107
 have HR1 := Aside0.mk hr1
 have HC1 := Aside0.mk hc1
 clear hr1 hc1
 have HB := Aside0.mk (Below.refl w.heap.size w)
 have H : ((spec_l1In.f a0 2 60).bind fun t110 => (if t110 = true then (spec_Digest.j0 k a0 l1 (decide ((l1.length : Int) > 4000))) else (spec_Digest.j0 k a0 l1 true))) = some r := h
 clear h
 have HC3 := Aside0.mk H
 clear H
 go_enter Try.func77, Try.ntmps77
 go_upto_region 1 with (fail)
 go_cut [14] (fun v14 wc => ∃ (kq : Nat) (x14_2 : Bool), v14 = .bool x14_2 ∧ Aside0 (spec_Digest.j0 kq a0 l1 x14_2 = some r) ∧ Aside0 (kq ≤ k) ∧ Aside0 (Below w.heap.size w wc))
 case first =>
  have H := HC3.out
  clear HC3
  replace H := Option.bind_eq_some_iff.mp H
  obtain ⟨t110, A40, H⟩ := H
  (try dsimp -simprocs only at H)
  have A4 := Aside0.mk A40
  clear A40
  by_cases c5 : t110 = true
  ·subst c5
   rw [if_pos rfl] at H
   have H' := Aside0.mk H
   clear H
   go_wp2_with (first | ((with_reducible refine gate_callee (f := 79) rfl ?_); refine goesL_ (some 8) rfl rfl Try.func79 (by kernel_rfl) rfl #[.int .i64 a0, .int .i64 2, .int .i64 60] rfl av ?_; (with_reducible refine (spec_l1In.calls a0 2 60 true _ A4.out).mono ?_); rintro e w' ⟨rfl, ⟨nd, rfl⟩⟩; refine ⟨_, rfl, ?_⟩))
   go_meet
   case rel => exact ⟨_, (decide ((l1.length : Int) > 4000)), (by first | rfl | (simp; done) | (simp [*]; done)), H', ⟨by first | omega | exact Nat.le_refl _⟩, ⟨bt⟩⟩
  ·replace c5 := Bool.eq_false_iff.mpr c5
   subst c5
   rw [if_neg (show ¬ (false = true) by decide)] at H
   have H' := Aside0.mk H
   clear H
   go_wp2_with (first | ((with_reducible refine gate_callee (f := 79) rfl ?_); refine goesL_ (some 8) rfl rfl Try.func79 (by kernel_rfl) rfl #[.int .i64 a0, .int .i64 2, .int .i64 60] rfl av ?_; (with_reducible refine (spec_l1In.calls a0 2 60 false _ A4.out).mono ?_); rintro e w' ⟨rfl, ⟨nd, rfl⟩⟩; refine ⟨_, rfl, ?_⟩))
   go_meet
   case rel => exact ⟨_, (true), (by first | rfl | (simp; done) | (simp [*]; done)), H', ⟨by first | omega | exact Nat.le_refl _⟩, ⟨bt⟩⟩
 case rest =>
  clear HC3
  try clear c1
  try clear p2
  try clear c5
  obtain ⟨kq, x14_2, rfl, HA, HJ2, HB⟩ := hcut
  cases kq with
  | zero => exact absurd HA.out (by simp [spec_Digest.j0])
  | succ kj2 =>
   have H := HA.out
   clear HA
   simp only [spec_Digest.j0] at H
   by_cases c6 : x14_2 = true
   ·subst c6
    rw [if_pos rfl] at H
    obtain rfl := Option.some.inj H
    go_wp2
    go_ret
    exact ⟨by first | rfl | (simp [errW_none, errW_some] <;> rfl) | (simp [*, errW_none, errW_some] <;> rfl), bt⟩
   ·replace c6 := Bool.eq_false_iff.mpr c6
    subst c6
    rw [if_neg (show ¬ (false = true) by decide)] at H
    have H' := Aside0.mk H
    clear H
    go_wp2_with (first | ((with_reducible refine gate_dst (N := 5) rfl ?_); (try (refine gate_guard (by rfl) ?_; dsimp only)); refine box_event ?hg (N := 5) ?hd (cs := #[.int .u64 0, .int .u64 0, .int .u64 0]) (t := 107) ?hr ?_; (case hd => rfl); (case hg => rfl); (case hr => first | (go_simp; done) | (go_simp; rfl)); intro gb111 hg w7 hbox hb; have BK111 := Aside0.mk (hbox); have GW111 := Aside0.mk ((by rw [hg]; exact (below_size (bt)) : w.heap.size ≤ gb111)); have GE111 := Aside0.mk ((by rw [hg]; exact (below_size (bt)) : w.heap.size ≤ gb111)); replace HB := Aside0.mk (below_step (bt) hb); clear hb hbox hg; have hcz8_0 : w7.cell? ⟨gb111, 0, none⟩ = some (.int .u64 0) := (blk_cell BK111.out 0).trans rfl; have hcz8_1 : w7.cell? ⟨gb111, 1, none⟩ = some (.int .u64 0) := (blk_cell BK111.out 1).trans rfl; have hcz8_2 : w7.cell? ⟨gb111, 2, none⟩ = some (.int .u64 0) := (blk_cell BK111.out 2).trans rfl; have hfz8_0 := blk_frozen BK111.out 0; have hfz8_1 := blk_frozen BK111.out 1; have hfz8_2 := blk_frozen BK111.out 2))
    go_loopg [6] kj2 (fun kq v6 w' => ∃ (x6_2 : Int) (x112000_2 : Int) (x112001_2 : Int) (x112002_2 : Int), v6 = .int .i64 x6_2 ∧ Aside0 (spec_Digest.l0 kq a0 l1 x6_2 x112000_2 x112001_2 x112002_2 = some r) ∧ Aside0 (kq ≤ kj2) ∧ Aside0 (w'.heap[gb111]? = some (.cells #[.int .u64 x112000_2, .int .u64 x112001_2, .int .u64 x112002_2] 107 (0, 0))) ∧ Aside0 (Below w.heap.size w w'))
    case atStart => exact ⟨(0), (1), (2), (3), (by first | rfl | (simp; done) | (simp [*]; done)), H', ⟨Nat.le_refl _⟩, ⟨by (with_reducible repeat (first | refine blk_drewN ?_ _ | refine blk_drew ?_ | refine blk_alloc ?_ _)); refine blk_put (cs := #[.int .u64 1, .int .u64 2, .int .u64 0]) ?_ 2 _ rfl; (with_reducible repeat (first | refine blk_drewN ?_ _ | refine blk_drew ?_ | refine blk_alloc ?_ _)); refine blk_put (cs := #[.int .u64 1, .int .u64 0, .int .u64 0]) ?_ 1 _ rfl; (with_reducible repeat (first | refine blk_drewN ?_ _ | refine blk_drew ?_ | refine blk_alloc ?_ _)); refine blk_put (cs := #[.int .u64 0, .int .u64 0, .int .u64 0]) ?_ 0 _ rfl; (with_reducible repeat (first | refine blk_drewN ?_ _ | refine blk_drew ?_ | refine blk_alloc ?_ _)); exact BK111.out⟩, ⟨b1 GE111.out⟩⟩
    case round =>
     clear H'
     try clear c1
     try clear p2
     try clear c5
     try clear c6
     try clear c7
     try clear hcz8_0
     try clear hcz8_1
     try clear hcz8_2
     try clear hfz8_0
     try clear hfz8_1
     try clear hfz8_2
     try clear p2
     obtain ⟨x6_2, x112000_2, x112001_2, x112002_2, rfl, HA, HK2, BK111, HB⟩ := hrel
     cases gk with
     | zero => exact absurd HA.out (by simp [spec_Digest.l0])
     | succ k2 =>
      have H := HA.out
      clear HA
      simp only [spec_Digest.l0] at H
      by_cases c9 : x6_2 < (l1.length : Int)
      ·rw [if_pos c9] at H
       have c9b0 : decide (x6_2 < (l1.length : Int)) = true := decide_eq_true c9
       clear c9
       by_cases c10 : 0 ≤ x6_2
       ·rw [if_pos c10] at H
        have c10b0 : decide (0 ≤ x6_2) = true := decide_eq_true c10
        clear c10
        replace H := Option.bind_eq_some_iff.mp H
        obtain ⟨⟨t113, t114, t115⟩, A110, H⟩ := H
        (try dsimp -simprocs only at H)
        have A11 := Aside0.mk A110
        clear A110
        replace H := Option.bind_eq_some_iff.mp H
        obtain ⟨⟨t116, t117, t118⟩, A120, H⟩ := H
        (try dsimp -simprocs only at H)
        have A12 := Aside0.mk A120
        clear A120
        have H' := Aside0.mk H
        clear H
        try go_wp2
        have n0_ := Aside0.mk (blk_drew BK111.out)
        have n1_ := Aside0.mk (below_drew1 HB.out)
        clear BK111
        clear HB
        have BK111 := n0_
        have HB := n1_
        clear n0_ n1_
        have p112 : 0 ≤ (x6_2 : Int) := of_decide_eq_true asm
        have q112 : x6_2 < (l1.length : Int) := of_decide_eq_true asm
        obtain ⟨ad112, e112, hx112_0⟩ := Kd.at_int HR1.out x6_2 p112 q112
        have hw112_0 := hx112_0
        cases e112
        replace hx112_0 := (HB.out.cell (World.block_lt_of_cell? w _ hx112_0)).trans hx112_0
        replace p112 := eq_true p112
        replace q112 := eq_true q112
        refine start_ (n := 10) (S := fun w' => w'.cell? ⟨gb111, 0, none⟩ = some (.int .u64 x112000_2) ∧ w'.cell? ⟨gb111, 1, none⟩ = some (.int .u64 x112001_2) ∧ w'.cell? ⟨gb111, 2, none⟩ = some (.int .u64 x112002_2) ∧ w'.cell? (ad112.add (x6_2).toNat) = some (.int .u8 (rd l1 x6_2))) (ds := [9]) #[false, false, false, false, false, false, false, false, false, false] (by kernel_rfl) rfl rfl ⟨(blk_cell BK111.out 0).trans rfl, (blk_cell BK111.out 1).trans rfl, (blk_cell BK111.out 2).trans rfl, ((HB.out.cell (World.block_lt_of_cell? w _ hw112_0)).trans hw112_0)⟩ (fun hHeld => ?_); refine with_tabW spec_Digest.tab7 spec_Digest.bits7 (fun HT_ HW_ => ?_)
        generalize wr.drew = w13 at BK111 HB hx112_0 hHeld ⊢
        refine pz (i := 0) (N := some 22) #[true, false, false, false, false, false, false, false, false, false] rfl rfl HT_.out ?_
        refine pz (i := 2) (N := some 24) #[true, false, true, false, false, false, false, false, false, false] rfl rfl HT_.out ?_
        refine pz (i := 3) (N := some 25) #[true, false, true, true, false, false, false, false, false, false] rfl rfl HT_.out ?_
        refine pz (i := 4) (N := some 26) #[true, false, true, true, true, false, false, false, false, false] rfl rfl HT_.out ?_
        refine tz (i := 1) (N := some 23) #[true, true, true, true, true, false, false, false, false, false] rfl rfl HT_.out HW_.out hHeld (Or.inl ⟨by rfl, by rintro w' ⟨s0, s1, s2, s3⟩; go_simp; with_reducible rfl⟩) ?_
        refine tz (i := 5) (N := some 27) #[true, true, true, true, true, true, false, false, false, false] rfl rfl HT_.out HW_.out hHeld (Or.inl ⟨by rfl, by rintro w' ⟨s0, s1, s2, s3⟩; go_simp; with_reducible rfl⟩) ?_
        refine pz (i := 6) (N := some 28) #[true, true, true, true, true, true, true, false, false, false] rfl rfl HT_.out ?_
        refine pz (i := 7) (N := some 29) #[true, true, true, true, true, true, true, true, false, false] rfl rfl HT_.out ?_
        refine pz (i := 8) (N := some 30) #[true, true, true, true, true, true, true, true, true, false] rfl rfl HT_.out ?_
        refine last_ (i := 9) (N := none) #[true, true, true, true, true, true, true, true, true, true] rfl rfl (one_of HT_.out (by kernel_rfl)) (by decide) (fun K hK => ?_)
        have hs14 : w13.cell? ⟨gb111, 0, none⟩ = some (.int .u64 x112000_2) := (blk_cell BK111.out 0).trans rfl
        have hfs14 := blk_frozen BK111.out 0
        refine skip_ (w1 := ?_) (by rfl) rfl ?_ ?_
        rotate_left
        ·go_simp
         rfl
        refine hK.out _ _ ?_
        clear hK K
        refine done_ (done_of HT_.out (by kernel_rfl)) ?_
        have hcz15_0 : w13.cell? ⟨gb111, 0, none⟩ = some (.int .u64 x112000_2) := (blk_cell BK111.out 0).trans rfl
        have hcz15_1 : w13.cell? ⟨gb111, 1, none⟩ = some (.int .u64 x112001_2) := (blk_cell BK111.out 1).trans rfl
        have hcz15_2 : w13.cell? ⟨gb111, 2, none⟩ = some (.int .u64 x112002_2) := (blk_cell BK111.out 2).trans rfl
        have hfz15_0 := blk_frozen BK111.out 0
        have hfz15_1 := blk_frozen BK111.out 1
        have hfz15_2 := blk_frozen BK111.out 2
        try go_wp2_with (first | ((with_reducible refine gate_callee (f := 111) rfl ?_); refine goesL_ (some 32) rfl rfl Try.func111 (by kernel_rfl) rfl #[.agg #[.int .u64 (Go.bits .xor .u64 x112000_2 (IntKind.u64.wrap (rd l1 x6_2))), .int .u64 x112001_2, .int .u64 x112002_2]] rfl av ?_; (with_reducible refine (spec_l1Round.calls (Go.bits .xor .u64 x112000_2 (IntKind.u64.wrap (rd l1 x6_2))) x112001_2 x112002_2 t113 t114 t115 _ A11.out).mono ?_); rintro e w16 ⟨rfl, hb⟩; refine ⟨_, rfl, ?_⟩; replace BK111 := Aside0.mk (blk_below (g := gb111) (o := .cells #[.int .u64 (Go.bits .xor .u64 x112000_2 (IntKind.u64.wrap (rd l1 x6_2))), .int .u64 x112001_2, .int .u64 x112002_2] 107 (0, 0)) (by (with_reducible repeat (first | refine blk_drewN ?_ _ | refine blk_drew ?_ | refine blk_alloc ?_ _)); refine blk_put (cs := #[.int .u64 x112000_2, .int .u64 x112001_2, .int .u64 x112002_2]) ?_ 0 _ rfl; (with_reducible repeat (first | refine blk_drewN ?_ _ | refine blk_drew ?_ | refine blk_alloc ?_ _)); exact BK111.out) hb); replace HB := Aside0.mk (below_step (b1 GE111.out) hb); (try clear hb); (try clear hb2); (try clear hk); (try clear hi)) | ((with_reducible refine gate_callee (f := 111) rfl ?_); refine goesL_ (some 33) rfl rfl Try.func111 (by kernel_rfl) rfl #[.agg #[.int .u64 t113, .int .u64 t114, .int .u64 t115]] rfl av ?_; (with_reducible refine (spec_l1Round.calls t113 t114 t115 t116 t117 t118 _ A12.out).mono ?_); rintro e w17 ⟨rfl, hb⟩; refine ⟨_, rfl, ?_⟩; replace BK111 := Aside0.mk (blk_below (g := gb111) (o := .cells #[.int .u64 (Go.bits .xor .u64 x112000_2 (IntKind.u64.wrap (rd l1 x6_2))), .int .u64 x112001_2, .int .u64 x112002_2] 107 (0, 0)) (mb BK111.out) hb); replace HB := Aside0.mk (below_step (b1 GE111.out) hb); (try clear hb); (try clear hb2); (try clear hk); (try clear hi); have hcz18_0 : w17.cell? ⟨gb111, 0, none⟩ = some (.int .u64 (Go.bits .xor .u64 x112000_2 (IntKind.u64.wrap (rd l1 x6_2)))) := (blk_cell BK111.out 0).trans rfl; have hcz18_1 : w17.cell? ⟨gb111, 1, none⟩ = some (.int .u64 x112001_2) := (blk_cell BK111.out 1).trans rfl; have hcz18_2 : w17.cell? ⟨gb111, 2, none⟩ = some (.int .u64 x112002_2) := (blk_cell BK111.out 2).trans rfl; have hfz18_0 := blk_frozen BK111.out 0; have hfz18_1 := blk_frozen BK111.out 1; have hfz18_2 := blk_frozen BK111.out 2))
        go_roundg k2
        case measure => have := HJ2.out; have := HK2.out; omega
        case rel => exact ⟨(wrap64 (x6_2 + 1)), (t116), (t117), (t118), (by first | rfl | (simp; done) | (simp [*]; done)), H', ⟨by have := HJ2.out; have := HK2.out; omega⟩, ⟨by (with_reducible repeat (first | refine blk_drewN ?_ _ | refine blk_drew ?_ | refine blk_alloc ?_ _)); refine blk_put (cs := #[.int .u64 t116, .int .u64 t117, .int .u64 x112002_2]) ?_ 2 _ rfl; (with_reducible repeat (first | refine blk_drewN ?_ _ | refine blk_drew ?_ | refine blk_alloc ?_ _)); refine blk_put (cs := #[.int .u64 t116, .int .u64 x112001_2, .int .u64 x112002_2]) ?_ 1 _ rfl; (with_reducible repeat (first | refine blk_drewN ?_ _ | refine blk_drew ?_ | refine blk_alloc ?_ _)); refine blk_put (cs := #[.int .u64 (Go.bits .xor .u64 x112000_2 (IntKind.u64.wrap (rd l1 x6_2))), .int .u64 x112001_2, .int .u64 x112002_2]) ?_ 0 _ rfl; (with_reducible repeat (first | refine blk_drewN ?_ _ | refine blk_drew ?_ | refine blk_alloc ?_ _)); exact BK111.out⟩, ⟨b1 GE111.out⟩⟩
       ·rw [if_neg c10] at H
        exact absurd H (by simp)
      ·rw [if_neg c9] at H
       have c9b0 : decide (x6_2 < (l1.length : Int)) = false := decide_eq_false c9
       clear c9
       replace H := Option.bind_eq_some_iff.mp H
       obtain ⟨t119, A190, H⟩ := H
       (try dsimp -simprocs only at H)
       have A19 := Aside0.mk A190
       clear A190
       obtain rfl := Option.some.inj H
       have hcz20_0 : wr.cell? ⟨gb111, 0, none⟩ = some (.int .u64 x112000_2) := (blk_cell BK111.out 0).trans rfl
       have hcz20_1 : wr.cell? ⟨gb111, 1, none⟩ = some (.int .u64 x112001_2) := (blk_cell BK111.out 1).trans rfl
       have hcz20_2 : wr.cell? ⟨gb111, 2, none⟩ = some (.int .u64 x112002_2) := (blk_cell BK111.out 2).trans rfl
       have hfz20_0 := blk_frozen BK111.out 0
       have hfz20_1 := blk_frozen BK111.out 1
       have hfz20_2 := blk_frozen BK111.out 2
       go_wp2_with (first | ((with_reducible refine gate_callee (f := 112) rfl ?_); refine goesL_ (some 43) rfl rfl Try.func112 (by kernel_rfl) rfl #[.int .i64 a0, .agg #[.int .u64 (Go.bits .xor .u64 x112000_2 (IntKind.u64.wrap ((l1.length : Int)))), .int .u64 x112001_2, .int .u64 x112002_2], .int .i64 6] rfl av ?_; (with_reducible refine (spec_l1Out.calls k2 a0 (Go.bits .xor .u64 x112000_2 (IntKind.u64.wrap ((l1.length : Int)))) x112001_2 x112002_2 6 t119 _ A19.out).mono ?_); rintro e w21 ⟨rfl, hb⟩; refine ⟨_, rfl, ?_⟩; replace BK111 := Aside0.mk (blk_below (g := gb111) (o := .cells #[.int .u64 (Go.bits .xor .u64 x112000_2 (IntKind.u64.wrap ((l1.length : Int)))), .int .u64 x112001_2, .int .u64 x112002_2] 107 (0, 0)) (by (with_reducible repeat (first | refine blk_drewN ?_ _ | refine blk_drew ?_ | refine blk_alloc ?_ _)); refine blk_put (cs := #[.int .u64 x112000_2, .int .u64 x112001_2, .int .u64 x112002_2]) ?_ 0 _ rfl; (with_reducible repeat (first | refine blk_drewN ?_ _ | refine blk_drew ?_ | refine blk_alloc ?_ _)); exact BK111.out) hb); replace HB := Aside0.mk (below_step (b1 GE111.out) hb); (try clear hb); (try clear hb2); (try clear hk); (try clear hi)))
       go_ret
       exact ⟨by first | rfl | (simp [errW_none, errW_some] <;> rfl) | (simp [*, errW_none, errW_some] <;> rfl), b1 GE111.out⟩

end Go.Proofs.Ytaacidhgnappdaa.PFnExactFromMany
