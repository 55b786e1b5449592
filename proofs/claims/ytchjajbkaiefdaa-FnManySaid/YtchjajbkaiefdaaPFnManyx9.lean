-- Written by a program of this workplace (wip/mp.py) out of the translation.
import Derived.Test.YtchjajbkaiefdaaPFnManyx0
import Derived.Test.YtchjajbkaiefdaaPFnManyx8
namespace Go.Proofs.Ytchjajbkaiefdaa.PFnMany
open Go.RowKit Go.Proofs.YtchjajbkaiefdaaW.PrintWords Go.Proofs.YtchjajbkaiefdaaW.PrintLast Go.Proofs.YtchjajbkaiefdaaW.PrintMore Go.Proofs.Ytchjajbkaiefdaa.Slim
attribute [local go_sem] max2_int min2_int max_two min_two max_three min_three max_four min_four   -- for this text's walks alone
set_option maxHeartbeats 8000000
set_option maxRecDepth 100000
set_option linter.unusedVariables false
set_option linter.unusedSimpArgs false

/-! ### spec_l1Round: function 136 -/
def spec_l1Round.f (a0_0 : Int) (a0_1 : Int) (a0_2 : Int) : Option (Int × Int × Int) := (spec_l1Turn.f a0_1 13).bind fun t421 => ((spec_l1Turn.f a0_2 29).bind fun t422 => ((spec_l1Turn.f (IntKind.u64.wrap ((IntKind.u64.wrap (a0_0 + t421)) + 2654435761)) 41).bind fun t423 => (some (IntKind.u64.wrap ((IntKind.u64.wrap (a0_0 + t421)) + 2654435761), Go.bits .xor .u64 (Go.bits .xor .u64 a0_1 t422) (IntKind.u64.wrap ((IntKind.u64.wrap (a0_0 + t421)) + 2654435761)), IntKind.u64.wrap ((IntKind.u64.wrap (a0_2 + t423)) + (Go.bits .xor .u64 (Go.bits .xor .u64 (Go.bits .xor .u64 a0_1 t422) (IntKind.u64.wrap ((IntKind.u64.wrap (a0_0 + t421)) + 2654435761))) 40503))))))
def spec_l1Round.T1 : Bool × List (List Nat × List Nat) := (true, [([], []), ([0], [0]), ([], []), ([2], [2]), ([3], [3]), ([1, 4], [1, 4]), ([5], [5]), ([0, 1, 2, 3, 4, 5, 6], []), ([7, 6, 4, 0, 1, 2, 3, 4, 5, 6], [6, 7])])
def spec_l1Round.B1 : List Nat := [0, 1, 0, 4, 12, 31, 63, 127, 255]
theorem spec_l1Round.tab1 : rtab .any (opsOf Try.f136 1) = spec_l1Round.T1 := by kernel_rfl
theorem spec_l1Round.bits1 : waitsOk spec_l1Round.T1.2 spec_l1Round.B1 = true := by kernel_rfl
def spec_l1Round.T2 : Bool × List (List Nat × List Nat) := (true, [([], []), ([0], [0]), ([], []), ([2], [2]), ([3], [3]), ([1, 4], [1, 4]), ([], []), ([6], [6]), ([5, 7], [5, 7]), ([0, 1, 2, 3, 4, 5, 6, 7, 8], []), ([9, 8, 4, 0, 1, 2, 3, 4, 5, 6, 7, 8], [8, 9])])
def spec_l1Round.B2 : List Nat := [0, 1, 0, 4, 12, 31, 0, 64, 255, 511, 1023]
theorem spec_l1Round.tab2 : rtab .any (opsOf Try.f136 2) = spec_l1Round.T2 := by kernel_rfl
theorem spec_l1Round.bits2 : waitsOk spec_l1Round.T2.2 spec_l1Round.B2 = true := by kernel_rfl
def spec_l1Round.T3 : Bool × List (List Nat × List Nat) := (true, [([], []), ([0], [0]), ([], []), ([2], [2]), ([3], [3]), ([1, 4], [1, 4]), ([], []), ([6], [6]), ([7], [7]), ([5, 8], [5, 8]), ([0, 1, 2, 3, 4, 5, 6, 7, 8, 9], []), ([10, 9, 4, 0, 1, 2, 3, 4, 5, 6, 7, 8, 9], [9, 10])])
def spec_l1Round.B3 : List Nat := [0, 1, 0, 4, 12, 31, 0, 64, 192, 511, 1023, 2047]
theorem spec_l1Round.tab3 : rtab .any (opsOf Try.f136 3) = spec_l1Round.T3 := by kernel_rfl
theorem spec_l1Round.bits3 : waitsOk spec_l1Round.T3.2 spec_l1Round.B3 = true := by kernel_rfl
theorem spec_l1Round.calls (a0_0 : Int) (a0_1 : Int) (a0_2 : Int) (r1 : Int) (r2 : Int) (r3 : Int) (w : World) (h : spec_l1Round.f a0_0 a0_1 a0_2 = some (r1, r2, r3)) :
  Calls Try.prog 136 #[.agg #[.int .u64 a0_0, .int .u64 a0_1, .int .u64 a0_2]] w fun e w' => e = .returned (.agg #[.int .u64 r1, .int .u64 r2, .int .u64 r3]) ∧ Below w.heap.size w w' := by
 have hu136 := Try.underlying136
 have HB := am (Below.refl w.heap.size w)
 have H : ((spec_l1Turn.f a0_1 13).bind fun t421 => ((spec_l1Turn.f a0_2 29).bind fun t422 => ((spec_l1Turn.f (IntKind.u64.wrap ((IntKind.u64.wrap (a0_0 + t421)) + 2654435761)) 41).bind fun t423 => (some (IntKind.u64.wrap ((IntKind.u64.wrap (a0_0 + t421)) + 2654435761), Go.bits .xor .u64 (Go.bits .xor .u64 a0_1 t422) (IntKind.u64.wrap ((IntKind.u64.wrap (a0_0 + t421)) + 2654435761)), IntKind.u64.wrap ((IntKind.u64.wrap (a0_2 + t423)) + (Go.bits .xor .u64 (Go.bits .xor .u64 (Go.bits .xor .u64 a0_1 t422) (IntKind.u64.wrap ((IntKind.u64.wrap (a0_0 + t421)) + 2654435761))) 40503))))))) = some (r1, r2, r3) := h
 clear h
 obtain ⟨t421, A2, H⟩ := bm H
 (try dsimp -simprocs only at H)
 obtain ⟨t422, A3, H⟩ := bm H
 (try dsimp -simprocs only at H)
 obtain ⟨t423, A4, H⟩ := bm H
 (try dsimp -simprocs only at H)
 simp only [Option.some.injEq, Prod.mk.injEq] at H
 obtain ⟨rfl, rfl, rfl⟩ := H
 go_enter Try.func136, Try.ntmps136
 try go_wp2_with (first | ((with_reducible refine gate_dst (N := 1) rfl ?_); refine box_event ?hg (N := 1) ?hd (cs := #[.int .u64 a0_0, .int .u64 a0_1, .int .u64 a0_2]) (t := 136) ?hr ?_; (case hd => rfl); (case hg => rfl); (case hr => first | (go_simp; done) | (go_simp; rfl)); intro gb419 hg w5 hbox hb; have BK419 := am (hbox); have GW419 := am ((by rw [hg]; exact (below_size (bt)) : w.heap.size ≤ gb419)); have GE419 := am ((by rw [hg]; exact (below_size (bt)) : w.heap.size ≤ gb419)); replace HB := am (below_step (bt) hb); clear hb hbox hg) | ((with_reducible refine gate_dst (N := 2) rfl ?_); refine box_event ?hg (N := 2) ?hd (cs := #[.int .u64 0, .int .u64 0, .int .u64 0]) (t := 136) ?hr ?_; (case hd => rfl); (case hg => rfl); (case hr => first | (go_simp; done) | (go_simp; rfl)); intro gb420 hg w6 hbox hb; have BK420 := am (hbox); have GW420 := am ((by rw [hg]; exact (below_size (b1 GE419.out)) : w.heap.size ≤ gb420)); have GE420 := am ((by rw [hg]; exact (below_size (b1 GE419.out)) : w.heap.size ≤ gb420)); replace HB := am (below_step (b1 GE419.out) hb); have NB419_420 := am ((by rw [hg]; exact Nat.ne_of_lt (blk_lt (g := gb419) (o := .cells #[.int .u64 a0_0, .int .u64 a0_1, .int .u64 a0_2] 136 (0, 0)) (mb BK419.out)) : gb419 ≠ gb420)); have NB420_419 := am ((by rw [hg]; exact Nat.ne_of_gt (blk_lt (g := gb419) (o := .cells #[.int .u64 a0_0, .int .u64 a0_1, .int .u64 a0_2] 136 (0, 0)) (mb BK419.out)) : gb420 ≠ gb419)); replace BK419 := am (blk_below (g := gb419) (o := .cells #[.int .u64 a0_0, .int .u64 a0_1, .int .u64 a0_2] 136 (0, 0)) (mb BK419.out) hb); clear hb hbox hg))
 have n0_ := am (blk_drew BK419.out)
 have n1_ := am (blk_drew BK420.out)
 have n2_ := am (below_drew1 HB.out)
 clear BK419
 clear BK420
 clear HB
 have BK419 := n0_
 have BK420 := n1_
 have HB := n2_
 clear n0_ n1_ n2_
 refine start_ (n := 9) (S := fun w' => w'.cell? ⟨gb419, 0, none⟩ = some (.int .u64 a0_0) ∧ w'.cell? ⟨gb419, 1, none⟩ = some (.int .u64 a0_1) ∧ w'.cell? ⟨gb419, 2, none⟩ = some (.int .u64 a0_2)) (ds := [8]) #[false, false, false, false, false, false, false, false, false] (by kernel_rfl) rfl rfl ⟨(blk_cell BK419.out 0).trans rfl, (blk_cell BK419.out 1).trans rfl, (blk_cell BK419.out 2).trans rfl⟩ (fun hHeld => ?_); refine with_tabW spec_l1Round.tab1 spec_l1Round.bits1 (fun HT_ HW_ => ?_)
 generalize w6.drew = w7 at BK419 BK420 HB hHeld ⊢
 refine pz (i := 0) (N := some 3) #[true, false, false, false, false, false, false, false, false] rfl rfl HT_.out ?_
 refine pz (i := 2) (N := some 5) #[true, false, true, false, false, false, false, false, false] rfl rfl HT_.out ?_
 refine tz (i := 1) (N := some 4) #[true, true, true, false, false, false, false, false, false] rfl rfl HT_.out HW_.out hHeld (Or.inl ⟨by rfl, by rintro w' ⟨s0, s1, s2⟩; go_simp; with_reducible rfl⟩) ?_
 refine tz (i := 3) (N := some 6) #[true, true, true, true, false, false, false, false, false] rfl rfl HT_.out HW_.out hHeld (Or.inl ⟨by rfl, by rintro w' ⟨s0, s1, s2⟩; go_simp; with_reducible rfl⟩) ?_
 refine one_ (i := 4) (N := some 7) #[true, true, true, true, true, false, false, false, false] rfl rfl (one_of HT_.out (by kernel_rfl)) (by decide) (fun K hK => ?_)
 refine goes_ Try.func145 (by kernel_rfl) rfl #[.int .u64 a0_1, .int .i64 13] (by rfl) rfl rfl av ?_
 with_reducible refine (spec_l1Turn.calls a0_1 13 t421 _ A2.out).mono ?_
 rintro e w' ⟨rfl, ⟨nd, rfl⟩⟩
 refine ⟨_, rfl, ?_⟩
 refine hK.out _ _ ⟨(blk_cell BK419.out 0).trans rfl, (blk_cell BK419.out 1).trans rfl, (blk_cell BK419.out 2).trans rfl⟩ (fun hHeld => ?_)
 clear hK K
 refine nz (N := some 7) ?_
 refine pz (i := 5) (N := some 8) #[true, true, true, true, true, true, false, false, false] rfl rfl HT_.out ?_
 refine pz (i := 6) (N := some 9) #[true, true, true, true, true, true, true, false, false] rfl rfl HT_.out ?_
 refine pz (i := 7) (N := some 10) #[true, true, true, true, true, true, true, true, false] rfl rfl HT_.out ?_
 refine last_ (i := 8) (N := none) #[true, true, true, true, true, true, true, true, true] rfl rfl (one_of HT_.out (by kernel_rfl)) (by decide) (fun K hK => ?_)
 have hs8 : w7.cell? ⟨gb419, 0, none⟩ = some (.int .u64 a0_0) := (blk_cell BK419.out 0).trans rfl
 have hfs8 := blk_frozen BK419.out 0
 have hns8_1 := NB420_419.out
 have hms8_1 := NB419_420.out
 refine skip_ (w1 := ?_) (by rfl) rfl ?_ ?_
 rotate_left
 ·go_simp
  rfl
 refine hK.out _ _ ?_
 clear hK K
 refine done_ (done_of HT_.out (by kernel_rfl)) ?_
 (try simp only [Dig.setCell_drewN])
 try go_wp2
 have n0_ : Aside0 ((w7.setCell ⟨gb419, 0, none⟩ (.int .u64 (IntKind.u64.wrap ((IntKind.u64.wrap (a0_0 + t421)) + 2654435761)))).heap[gb419]? = some (.cells #[.int .u64 (IntKind.u64.wrap ((IntKind.u64.wrap (a0_0 + t421)) + 2654435761)), .int .u64 a0_1, .int .u64 a0_2] 136 (0, 0))) := ⟨by (with_reducible repeat (first | refine blk_drewN ?_ _ | refine blk_drew ?_ | refine blk_alloc ?_ _)); refine blk_put (cs := #[.int .u64 a0_0, .int .u64 a0_1, .int .u64 a0_2]) ?_ 0 _ rfl; (with_reducible repeat (first | refine blk_drewN ?_ _ | refine blk_drew ?_ | refine blk_alloc ?_ _)); exact BK419.out⟩
 have n1_ : Aside0 ((w7.setCell ⟨gb419, 0, none⟩ (.int .u64 (IntKind.u64.wrap ((IntKind.u64.wrap (a0_0 + t421)) + 2654435761)))).heap[gb420]? = some (.cells #[.int .u64 0, .int .u64 0, .int .u64 0] 136 (0, 0))) := ⟨by (with_reducible repeat (first | refine blk_drewN ?_ _ | refine blk_drew ?_ | refine blk_alloc ?_ _)); refine blk_far ?_ NB420_419.out _; (with_reducible repeat (first | refine blk_drewN ?_ _ | refine blk_drew ?_ | refine blk_alloc ?_ _)); exact BK420.out⟩
 have n2_ : Aside0 (Below w.heap.size w (w7.setCell ⟨gb419, 0, none⟩ (.int .u64 (IntKind.u64.wrap ((IntKind.u64.wrap (a0_0 + t421)) + 2654435761))))) := ⟨b2 GE419.out GE420.out⟩
 (try clear BK419)
 (try clear BK420)
 (try clear HB)
 generalize (w7.setCell ⟨gb419, 0, none⟩ (.int .u64 (IntKind.u64.wrap ((IntKind.u64.wrap (a0_0 + t421)) + 2654435761)))) = w9 at n0_ n1_ n2_ ⊢
 have BK419 := n0_
 have BK420 := n1_
 have HB := n2_
 clear n0_ n1_ n2_
 (try (rw [drewN_self w9]; generalize hq_ : World.drewN w9 _ = w9; have n0_ : Aside0 (w9.heap[gb419]? = some (.cells #[.int .u64 (IntKind.u64.wrap ((IntKind.u64.wrap (a0_0 + t421)) + 2654435761)), .int .u64 a0_1, .int .u64 a0_2] 136 (0, 0))) := ⟨by rw [← hq_]; exact (mb BK419.out)⟩; have n1_ : Aside0 (w9.heap[gb420]? = some (.cells #[.int .u64 0, .int .u64 0, .int .u64 0] 136 (0, 0))) := ⟨by rw [← hq_]; exact (mb BK420.out)⟩; have n2_ : Aside0 (Below w.heap.size w w9) := ⟨by rw [← hq_]; exact (b2 GE419.out GE420.out)⟩; clear BK419 BK420 HB hq_; have BK419 := n0_; have BK420 := n1_; have HB := n2_; clear n0_ n1_ n2_))
 have n0_ := am (blk_drew BK419.out)
 have n1_ := am (blk_drew BK420.out)
 have n2_ := am (below_drew1 HB.out)
 clear BK419
 clear BK420
 clear HB
 have BK419 := n0_
 have BK420 := n1_
 have HB := n2_
 clear n0_ n1_ n2_
 refine start_ (n := 11) (S := fun w' => w'.cell? ⟨gb419, 0, none⟩ = some (.int .u64 (IntKind.u64.wrap ((IntKind.u64.wrap (a0_0 + t421)) + 2654435761))) ∧ w'.cell? ⟨gb419, 1, none⟩ = some (.int .u64 a0_1) ∧ w'.cell? ⟨gb419, 2, none⟩ = some (.int .u64 a0_2)) (ds := [10]) #[false, false, false, false, false, false, false, false, false, false, false] (by kernel_rfl) rfl rfl ⟨(blk_cell BK419.out 0).trans rfl, (blk_cell BK419.out 1).trans rfl, (blk_cell BK419.out 2).trans rfl⟩ (fun hHeld => ?_); refine with_tabW spec_l1Round.tab2 spec_l1Round.bits2 (fun HT_ HW_ => ?_)
 generalize w9.drew = w10 at BK419 BK420 HB hHeld ⊢
 refine pz (i := 0) (N := some 11) #[true, false, false, false, false, false, false, false, false, false, false] rfl rfl HT_.out ?_
 refine pz (i := 2) (N := some 13) #[true, false, true, false, false, false, false, false, false, false, false] rfl rfl HT_.out ?_
 refine pz (i := 6) (N := some 17) #[true, false, true, false, false, false, true, false, false, false, false] rfl rfl HT_.out ?_
 refine tz (i := 1) (N := some 12) #[true, true, true, false, false, false, true, false, false, false, false] rfl rfl HT_.out HW_.out hHeld (Or.inl ⟨by rfl, by rintro w' ⟨s0, s1, s2⟩; go_simp; with_reducible rfl⟩) ?_
 refine tz (i := 3) (N := some 14) #[true, true, true, true, false, false, true, false, false, false, false] rfl rfl HT_.out HW_.out hHeld (Or.inl ⟨by rfl, by rintro w' ⟨s0, s1, s2⟩; go_simp; with_reducible rfl⟩) ?_
 refine tz (i := 7) (N := some 18) #[true, true, true, true, false, false, true, true, false, false, false] rfl rfl HT_.out HW_.out hHeld (Or.inl ⟨by rfl, by rintro w' ⟨s0, s1, s2⟩; go_simp; with_reducible rfl⟩) ?_
 refine one_ (i := 4) (N := some 15) #[true, true, true, true, true, false, true, true, false, false, false] rfl rfl (one_of HT_.out (by kernel_rfl)) (by decide) (fun K hK => ?_)
 refine goes_ Try.func145 (by kernel_rfl) rfl #[.int .u64 a0_2, .int .i64 29] (by rfl) rfl rfl av ?_
 with_reducible refine (spec_l1Turn.calls a0_2 29 t422 _ A3.out).mono ?_
 rintro e w' ⟨rfl, ⟨nd, rfl⟩⟩
 refine ⟨_, rfl, ?_⟩
 refine hK.out _ _ ⟨(blk_cell BK419.out 0).trans rfl, (blk_cell BK419.out 1).trans rfl, (blk_cell BK419.out 2).trans rfl⟩ (fun hHeld => ?_)
 clear hK K
 refine nz (N := some 15) ?_
 refine pz (i := 5) (N := some 16) #[true, true, true, true, true, true, true, true, false, false, false] rfl rfl HT_.out ?_
 refine pz (i := 8) (N := some 19) #[true, true, true, true, true, true, true, true, true, false, false] rfl rfl HT_.out ?_
 refine pz (i := 9) (N := some 20) #[true, true, true, true, true, true, true, true, true, true, false] rfl rfl HT_.out ?_
 refine last_ (i := 10) (N := none) #[true, true, true, true, true, true, true, true, true, true, true] rfl rfl (one_of HT_.out (by kernel_rfl)) (by decide) (fun K hK => ?_)
 have hs11 : w10.cell? ⟨gb419, 1, none⟩ = some (.int .u64 a0_1) := (blk_cell BK419.out 1).trans rfl
 have hfs11 := blk_frozen BK419.out 1
 have hns11_1 := NB420_419.out
 have hms11_1 := NB419_420.out
 refine skip_ (w1 := ?_) (by rfl) rfl ?_ ?_
 rotate_left
 ·go_simp
  rfl
 refine hK.out _ _ ?_
 clear hK K
 refine done_ (done_of HT_.out (by kernel_rfl)) ?_
 (try simp only [Dig.setCell_drewN])
 try go_wp2
 have n0_ : Aside0 ((w10.setCell ⟨gb419, 1, none⟩ (.int .u64 (Go.bits .xor .u64 (Go.bits .xor .u64 a0_1 t422) (IntKind.u64.wrap ((IntKind.u64.wrap (a0_0 + t421)) + 2654435761))))).heap[gb419]? = some (.cells #[.int .u64 (IntKind.u64.wrap ((IntKind.u64.wrap (a0_0 + t421)) + 2654435761)), .int .u64 (Go.bits .xor .u64 (Go.bits .xor .u64 a0_1 t422) (IntKind.u64.wrap ((IntKind.u64.wrap (a0_0 + t421)) + 2654435761))), .int .u64 a0_2] 136 (0, 0))) := ⟨by (with_reducible repeat (first | refine blk_drewN ?_ _ | refine blk_drew ?_ | refine blk_alloc ?_ _)); refine blk_put (cs := #[.int .u64 (IntKind.u64.wrap ((IntKind.u64.wrap (a0_0 + t421)) + 2654435761)), .int .u64 a0_1, .int .u64 a0_2]) ?_ 1 _ rfl; (with_reducible repeat (first | refine blk_drewN ?_ _ | refine blk_drew ?_ | refine blk_alloc ?_ _)); exact BK419.out⟩
 have n1_ : Aside0 ((w10.setCell ⟨gb419, 1, none⟩ (.int .u64 (Go.bits .xor .u64 (Go.bits .xor .u64 a0_1 t422) (IntKind.u64.wrap ((IntKind.u64.wrap (a0_0 + t421)) + 2654435761))))).heap[gb420]? = some (.cells #[.int .u64 0, .int .u64 0, .int .u64 0] 136 (0, 0))) := ⟨by (with_reducible repeat (first | refine blk_drewN ?_ _ | refine blk_drew ?_ | refine blk_alloc ?_ _)); refine blk_far ?_ NB420_419.out _; (with_reducible repeat (first | refine blk_drewN ?_ _ | refine blk_drew ?_ | refine blk_alloc ?_ _)); exact BK420.out⟩
 have n2_ : Aside0 (Below w.heap.size w (w10.setCell ⟨gb419, 1, none⟩ (.int .u64 (Go.bits .xor .u64 (Go.bits .xor .u64 a0_1 t422) (IntKind.u64.wrap ((IntKind.u64.wrap (a0_0 + t421)) + 2654435761)))))) := ⟨b2 GE419.out GE420.out⟩
 (try clear BK419)
 (try clear BK420)
 (try clear HB)
 generalize (w10.setCell ⟨gb419, 1, none⟩ (.int .u64 (Go.bits .xor .u64 (Go.bits .xor .u64 a0_1 t422) (IntKind.u64.wrap ((IntKind.u64.wrap (a0_0 + t421)) + 2654435761))))) = w12 at n0_ n1_ n2_ ⊢
 have BK419 := n0_
 have BK420 := n1_
 have HB := n2_
 clear n0_ n1_ n2_
 (try (rw [drewN_self w12]; generalize hq_ : World.drewN w12 _ = w12; have n0_ : Aside0 (w12.heap[gb419]? = some (.cells #[.int .u64 (IntKind.u64.wrap ((IntKind.u64.wrap (a0_0 + t421)) + 2654435761)), .int .u64 (Go.bits .xor .u64 (Go.bits .xor .u64 a0_1 t422) (IntKind.u64.wrap ((IntKind.u64.wrap (a0_0 + t421)) + 2654435761))), .int .u64 a0_2] 136 (0, 0))) := ⟨by rw [← hq_]; exact (mb BK419.out)⟩; have n1_ : Aside0 (w12.heap[gb420]? = some (.cells #[.int .u64 0, .int .u64 0, .int .u64 0] 136 (0, 0))) := ⟨by rw [← hq_]; exact (mb BK420.out)⟩; have n2_ : Aside0 (Below w.heap.size w w12) := ⟨by rw [← hq_]; exact (b2 GE419.out GE420.out)⟩; clear BK419 BK420 HB hq_; have BK419 := n0_; have BK420 := n1_; have HB := n2_; clear n0_ n1_ n2_))
 have n0_ := am (blk_drew BK419.out)
 have n1_ := am (blk_drew BK420.out)
 have n2_ := am (below_drew1 HB.out)
 clear BK419
 clear BK420
 clear HB
 have BK419 := n0_
 have BK420 := n1_
 have HB := n2_
 clear n0_ n1_ n2_
 refine start_ (n := 12) (S := fun w' => w'.cell? ⟨gb419, 0, none⟩ = some (.int .u64 (IntKind.u64.wrap ((IntKind.u64.wrap (a0_0 + t421)) + 2654435761))) ∧ w'.cell? ⟨gb419, 1, none⟩ = some (.int .u64 (Go.bits .xor .u64 (Go.bits .xor .u64 a0_1 t422) (IntKind.u64.wrap ((IntKind.u64.wrap (a0_0 + t421)) + 2654435761)))) ∧ w'.cell? ⟨gb419, 2, none⟩ = some (.int .u64 a0_2)) (ds := [11]) #[false, false, false, false, false, false, false, false, false, false, false, false] (by kernel_rfl) rfl rfl ⟨(blk_cell BK419.out 0).trans rfl, (blk_cell BK419.out 1).trans rfl, (blk_cell BK419.out 2).trans rfl⟩ (fun hHeld => ?_); refine with_tabW spec_l1Round.tab3 spec_l1Round.bits3 (fun HT_ HW_ => ?_)
 generalize w12.drew = w13 at BK419 BK420 HB hHeld ⊢
 refine pz (i := 0) (N := some 21) #[true, false, false, false, false, false, false, false, false, false, false, false] rfl rfl HT_.out ?_
 refine pz (i := 2) (N := some 23) #[true, false, true, false, false, false, false, false, false, false, false, false] rfl rfl HT_.out ?_
 refine pz (i := 6) (N := some 27) #[true, false, true, false, false, false, true, false, false, false, false, false] rfl rfl HT_.out ?_
 refine tz (i := 1) (N := some 22) #[true, true, true, false, false, false, true, false, false, false, false, false] rfl rfl HT_.out HW_.out hHeld (Or.inl ⟨by rfl, by rintro w' ⟨s0, s1, s2⟩; go_simp; with_reducible rfl⟩) ?_
 refine tz (i := 3) (N := some 24) #[true, true, true, true, false, false, true, false, false, false, false, false] rfl rfl HT_.out HW_.out hHeld (Or.inl ⟨by rfl, by rintro w' ⟨s0, s1, s2⟩; go_simp; with_reducible rfl⟩) ?_
 refine tz (i := 7) (N := some 28) #[true, true, true, true, false, false, true, true, false, false, false, false] rfl rfl HT_.out HW_.out hHeld (Or.inl ⟨by rfl, by rintro w' ⟨s0, s1, s2⟩; go_simp; with_reducible rfl⟩) ?_
 refine pz (i := 8) (N := some 29) #[true, true, true, true, false, false, true, true, true, false, false, false] rfl rfl HT_.out ?_
 refine one_ (i := 4) (N := some 25) #[true, true, true, true, true, false, true, true, true, false, false, false] rfl rfl (one_of HT_.out (by kernel_rfl)) (by decide) (fun K hK => ?_)
 refine goes_ Try.func145 (by kernel_rfl) rfl #[.int .u64 (IntKind.u64.wrap ((IntKind.u64.wrap (a0_0 + t421)) + 2654435761)), .int .i64 41] (by rfl) rfl rfl av ?_
 with_reducible refine (spec_l1Turn.calls (IntKind.u64.wrap ((IntKind.u64.wrap (a0_0 + t421)) + 2654435761)) 41 t423 _ A4.out).mono ?_
 rintro e w' ⟨rfl, ⟨nd, rfl⟩⟩
 refine ⟨_, rfl, ?_⟩
 refine hK.out _ _ ⟨(blk_cell BK419.out 0).trans rfl, (blk_cell BK419.out 1).trans rfl, (blk_cell BK419.out 2).trans rfl⟩ (fun hHeld => ?_)
 clear hK K
 refine nz (N := some 25) ?_
 refine pz (i := 5) (N := some 26) #[true, true, true, true, true, true, true, true, true, false, false, false] rfl rfl HT_.out ?_
 refine pz (i := 9) (N := some 30) #[true, true, true, true, true, true, true, true, true, true, false, false] rfl rfl HT_.out ?_
 refine pz (i := 10) (N := some 31) #[true, true, true, true, true, true, true, true, true, true, true, false] rfl rfl HT_.out ?_
 refine last_ (i := 11) (N := none) #[true, true, true, true, true, true, true, true, true, true, true, true] rfl rfl (one_of HT_.out (by kernel_rfl)) (by decide) (fun K hK => ?_)
 have hs14 : w13.cell? ⟨gb419, 2, none⟩ = some (.int .u64 a0_2) := (blk_cell BK419.out 2).trans rfl
 have hfs14 := blk_frozen BK419.out 2
 have hns14_1 := NB420_419.out
 have hms14_1 := NB419_420.out
 refine skip_ (w1 := ?_) (by rfl) rfl ?_ ?_
 rotate_left
 ·go_simp
  rfl
 refine hK.out _ _ ?_
 clear hK K
 refine done_ (done_of HT_.out (by kernel_rfl)) ?_
 have hnb15 := NB419_420.out
 have hnc15 := NB420_419.out
 have hcz16_0 : w13.cell? ⟨gb419, 0, none⟩ = some (.int .u64 (IntKind.u64.wrap ((IntKind.u64.wrap (a0_0 + t421)) + 2654435761))) := (blk_cell BK419.out 0).trans rfl
 have hcz16_1 : w13.cell? ⟨gb419, 1, none⟩ = some (.int .u64 (Go.bits .xor .u64 (Go.bits .xor .u64 a0_1 t422) (IntKind.u64.wrap ((IntKind.u64.wrap (a0_0 + t421)) + 2654435761)))) := (blk_cell BK419.out 1).trans rfl
 have hcz16_2 : w13.cell? ⟨gb419, 2, none⟩ = some (.int .u64 a0_2) := (blk_cell BK419.out 2).trans rfl
 have hfz16_0 := blk_frozen BK419.out 0
 have hfz16_1 := blk_frozen BK419.out 1
 have hfz16_2 := blk_frozen BK419.out 2
 have hcz17_0 : w13.cell? ⟨gb420, 0, none⟩ = some (.int .u64 0) := (blk_cell BK420.out 0).trans rfl
 have hcz17_1 : w13.cell? ⟨gb420, 1, none⟩ = some (.int .u64 0) := (blk_cell BK420.out 1).trans rfl
 have hcz17_2 : w13.cell? ⟨gb420, 2, none⟩ = some (.int .u64 0) := (blk_cell BK420.out 2).trans rfl
 have hfz17_0 := blk_frozen BK420.out 0
 have hfz17_1 := blk_frozen BK420.out 1
 have hfz17_2 := blk_frozen BK420.out 2
 try go_wp2
 refine bodyPost_ret (results_cell_row rfl _ _ gb420 136 #[.int .u64 (IntKind.u64.wrap ((IntKind.u64.wrap (a0_0 + t421)) + 2654435761)), .int .u64 (Go.bits .xor .u64 (Go.bits .xor .u64 a0_1 t422) (IntKind.u64.wrap ((IntKind.u64.wrap (a0_0 + t421)) + 2654435761))), .int .u64 (IntKind.u64.wrap ((IntKind.u64.wrap (a0_2 + t423)) + (Go.bits .xor .u64 (Go.bits .xor .u64 (Go.bits .xor .u64 a0_1 t422) (IntKind.u64.wrap ((IntKind.u64.wrap (a0_0 + t421)) + 2654435761))) 40503)))] (0, 0) _ rfl (by (with_reducible repeat (first | refine blk_drewN ?_ _ | refine blk_drew ?_ | refine blk_alloc ?_ _)); refine blk_put (cs := #[.int .u64 (IntKind.u64.wrap ((IntKind.u64.wrap (a0_0 + t421)) + 2654435761)), .int .u64 (Go.bits .xor .u64 (Go.bits .xor .u64 a0_1 t422) (IntKind.u64.wrap ((IntKind.u64.wrap (a0_0 + t421)) + 2654435761))), .int .u64 0]) ?_ 2 _ rfl; (with_reducible repeat (first | refine blk_drewN ?_ _ | refine blk_drew ?_ | refine blk_alloc ?_ _)); refine blk_put (cs := #[.int .u64 (IntKind.u64.wrap ((IntKind.u64.wrap (a0_0 + t421)) + 2654435761)), .int .u64 0, .int .u64 0]) ?_ 1 _ rfl; (with_reducible repeat (first | refine blk_drewN ?_ _ | refine blk_drew ?_ | refine blk_alloc ?_ _)); refine blk_put (cs := #[.int .u64 0, .int .u64 0, .int .u64 0]) ?_ 0 _ rfl; (with_reducible repeat (first | refine blk_drewN ?_ _ | refine blk_drew ?_ | refine blk_alloc ?_ _)); refine blk_far ?_ NB420_419.out _; (with_reducible repeat (first | refine blk_drewN ?_ _ | refine blk_drew ?_ | refine blk_alloc ?_ _)); exact BK420.out) Try.underlying136 rfl (by kernel_rfl)) rfl ?_
 exact ⟨by first | rfl | (simp [errW_none, errW_some] <;> rfl) | (simp [*, errW_none, errW_some] <;> rfl), b2 GE419.out GE420.out⟩

/-! ### spec_l1Out: function 137 -/
def spec_l1Out.l0 : Nat → Int → Int → Int → Int → Int → Int → Option (Int)
 | 0, _, _, _, _, _, _ => none
 | k + 1, x0, x2, x7, x425000, x425001, x425002 => if x7 < x2 then ((spec_l1Round.f x425000 x425001 x425002).bind fun bt425 => (spec_l1Out.l0 k x0 x2 (wrap64 (x7 + 1)) bt425.1 bt425.2.1 bt425.2.2)) else (if 0 ≤ x0 then (some (wrap64 (Go.bits .and .u64 (Go.bits .xor .u64 (Go.bits .xor .u64 x425000 x425001) x425002) (IntKind.u64.wrap ((shl .u64 1 x0) - 1))))) else (none))
def spec_l1Out.f (k : Nat) (a0 : Int) (a1_0 : Int) (a1_1 : Int) (a1_2 : Int) (a2 : Int) : Option (Int) := spec_l1Out.l0 k a0 a2 0 a1_0 a1_1 a1_2
theorem spec_l1Out.calls (k : Nat) (a0 : Int) (a1_0 : Int) (a1_1 : Int) (a1_2 : Int) (a2 : Int) (r : Int) (w : World) (h : spec_l1Out.f k a0 a1_0 a1_1 a1_2 a2 = some r) :
  Calls Try.prog 137 #[.int .i64 a0, .agg #[.int .u64 a1_0, .int .u64 a1_1, .int .u64 a1_2], .int .i64 a2] w fun e w' => e = .returned (.int .i64 r) ∧ Below w.heap.size w w' := by
 have hu136 := Try.underlying136
 have HB := am (Below.refl w.heap.size w)
 have H : (spec_l1Out.l0 k a0 a2 0 a1_0 a1_1 a1_2) = some r := h
 clear h
 have H' := am H
 clear H
 go_enter Try.func137, Try.ntmps137
 go_wp2_with (first | ((with_reducible refine gate_dst (N := 4) rfl ?_); refine box_event ?hg (N := 4) ?hd (cs := #[.int .u64 a1_0, .int .u64 a1_1, .int .u64 a1_2]) (t := 136) ?hr ?_; (case hd => rfl); (case hg => rfl); (case hr => first | (go_simp; done) | (go_simp; rfl)); intro gb424 hg w4 hbox hb; have BK424 := am (hbox); have GW424 := am ((by rw [hg]; exact (below_size (bt)) : w.heap.size ≤ gb424)); have GE424 := am ((by rw [hg]; exact (below_size (bt)) : w.heap.size ≤ gb424)); replace HB := am (below_step (bt) hb); clear hb hbox hg))
 go_loopg [7] k (fun kq v7 w' => ∃ (x7_1 : Int) (x425000_1 : Int) (x425001_1 : Int) (x425002_1 : Int), v7 = .int .i64 x7_1 ∧ Aside0 (spec_l1Out.l0 kq a0 a2 x7_1 x425000_1 x425001_1 x425002_1 = some r) ∧ Aside0 (kq ≤ k) ∧ Aside0 (w'.heap[gb424]? = some (.cells #[.int .u64 x425000_1, .int .u64 x425001_1, .int .u64 x425002_1] 136 (0, 0))) ∧ Aside0 (Below w.heap.size w w'))
 case atStart => exact ⟨(0), (a1_0), (a1_1), (a1_2), e0, H', ⟨Nat.le_refl _⟩, ⟨mb BK424.out⟩, ⟨b1 GE424.out⟩⟩
 case round =>
  clear H'
  obtain ⟨x7_1, x425000_1, x425001_1, x425002_1, rfl, HA, HK1, BK424, HB⟩ := hrel
  cases gk with
  | zero => exact absurd HA.out (by simp [spec_l1Out.l0])
  | succ k1 =>
   have H := HA.out
   clear HA
   simp only [spec_l1Out.l0] at H
   by_cases c5 : x7_1 < a2
   ·rw [if_pos c5] at H
    have c5b0 : decide (x7_1 < a2) = true := decide_eq_true c5
    clear c5
    obtain ⟨⟨t425, t426, t427⟩, A6, H⟩ := bm H
    (try dsimp -simprocs only at H)
    have H' := am H
    clear H
    have hcz7_0 : wr.cell? ⟨gb424, 0, none⟩ = some (.int .u64 x425000_1) := (blk_cell BK424.out 0).trans rfl
    have hcz7_1 : wr.cell? ⟨gb424, 1, none⟩ = some (.int .u64 x425001_1) := (blk_cell BK424.out 1).trans rfl
    have hcz7_2 : wr.cell? ⟨gb424, 2, none⟩ = some (.int .u64 x425002_1) := (blk_cell BK424.out 2).trans rfl
    have hfz7_0 := blk_frozen BK424.out 0
    have hfz7_1 := blk_frozen BK424.out 1
    have hfz7_2 := blk_frozen BK424.out 2
    go_wp2_with (first | (go_at_call 136; (with_reducible refine (spec_l1Round.calls x425000_1 x425001_1 x425002_1 t425 t426 t427 _ A6.out).mono ?_); rintro e w8 ⟨rfl, hb⟩; replace BK424 := am (blk_below (g := gb424) (o := .cells #[.int .u64 x425000_1, .int .u64 x425001_1, .int .u64 x425002_1] 136 (0, 0)) (mb BK424.out) hb); replace HB := am (below_step (b1 GE424.out) hb); (try clear hb); (try clear hb2); (try clear hk); (try clear hi); have hcz9_0 : w8.cell? ⟨gb424, 0, none⟩ = some (.int .u64 x425000_1) := (blk_cell BK424.out 0).trans rfl; have hcz9_1 : w8.cell? ⟨gb424, 1, none⟩ = some (.int .u64 x425001_1) := (blk_cell BK424.out 1).trans rfl; have hcz9_2 : w8.cell? ⟨gb424, 2, none⟩ = some (.int .u64 x425002_1) := (blk_cell BK424.out 2).trans rfl; have hfz9_0 := blk_frozen BK424.out 0; have hfz9_1 := blk_frozen BK424.out 1; have hfz9_2 := blk_frozen BK424.out 2))
    go_roundg k1
    case measure => have := HK1.out; omega
    case rel => exact ⟨(wrap64 (x7_1 + 1)), (t425), (t426), (t427), e0, H', ⟨by have := HK1.out; omega⟩, ⟨by (with_reducible repeat (first | refine blk_drewN ?_ _ | refine blk_drew ?_ | refine blk_alloc ?_ _)); refine blk_put (cs := #[.int .u64 t425, .int .u64 t426, .int .u64 x425002_1]) ?_ 2 _ rfl; (with_reducible repeat (first | refine blk_drewN ?_ _ | refine blk_drew ?_ | refine blk_alloc ?_ _)); refine blk_put (cs := #[.int .u64 t425, .int .u64 x425001_1, .int .u64 x425002_1]) ?_ 1 _ rfl; (with_reducible repeat (first | refine blk_drewN ?_ _ | refine blk_drew ?_ | refine blk_alloc ?_ _)); refine blk_put (cs := #[.int .u64 x425000_1, .int .u64 x425001_1, .int .u64 x425002_1]) ?_ 0 _ rfl; (with_reducible repeat (first | refine blk_drewN ?_ _ | refine blk_drew ?_ | refine blk_alloc ?_ _)); exact BK424.out⟩, ⟨b1 GE424.out⟩⟩
   ·rw [if_neg c5] at H
    have c5b0 : decide (x7_1 < a2) = false := decide_eq_false c5
    clear c5
    by_cases c10 : 0 ≤ a0
    ·rw [if_pos c10] at H
     have c10b0 := eq_true c10
     have c10b1 : decide (0 ≤ a0) = true := decide_eq_true c10
     clear c10
     obtain ⟨ji11, hji11⟩ : ∃ j_ : Int, (shl .u64 1 a0) = j_ := ⟨_, rfl⟩
     replace H : (some (wrap64 (Go.bits .and .u64 (Go.bits .xor .u64 (Go.bits .xor .u64 x425000_1 x425001_1) x425002_1) (IntKind.u64.wrap ((ji11) - 1))))) = some r := by first | (rw [hji11] at H; exact H) | (simp only [hji11] at H ⊢; exact H)
     have hji11_ : (IntKind.u64.wrap (1 * 2 ^ min a0.toNat 64)) = ji11 := hji11
     have hji11z : a0 ≤ 64 → (IntKind.u64.wrap (1 * 2 ^ a0.toNat)) = ji11 := shl_small hji11
     have hji11u : (IntKind.u64.wrap (2 ^ min a0.toNat 64)) = ji11 := by have h_ := hji11_; rw [Int.one_mul] at h_; exact h_
     have hji11v : a0 ≤ 64 → (IntKind.u64.wrap (2 ^ a0.toNat)) = ji11 := fun hle_ => by have h_ := hji11z hle_; rw [Int.one_mul] at h_; exact h_
     obtain rfl := Option.some.inj H
     have hcz12_0 : wr.cell? ⟨gb424, 0, none⟩ = some (.int .u64 x425000_1) := (blk_cell BK424.out 0).trans rfl
     have hcz12_1 : wr.cell? ⟨gb424, 1, none⟩ = some (.int .u64 x425001_1) := (blk_cell BK424.out 1).trans rfl
     have hcz12_2 : wr.cell? ⟨gb424, 2, none⟩ = some (.int .u64 x425002_1) := (blk_cell BK424.out 2).trans rfl
     have hfz12_0 := blk_frozen BK424.out 0
     have hfz12_1 := blk_frozen BK424.out 1
     have hfz12_2 := blk_frozen BK424.out 2
     go_wp2
     repeat (go_quiet (fail); try go_wp2)
     go_ret
     exact ⟨by first | rfl | (simp [errW_none, errW_some] <;> rfl) | (simp only [← hji11]; first | rfl | (simp [errW_none, errW_some] <;> rfl)) | (simp [*, errW_none, errW_some] <;> rfl), b1 GE424.out⟩
    ·exact nh c10 H

/-! ### spec_Digest: function 112 -/
mutual
def spec_Digest.j0 : Nat → Int → List Int → Bool → Option (Int)
 | 0, _, _, _ => none
 | k + 1, x0, x1, x14 => if x14 = true then (some (-1)) else (spec_Digest.l0 k x0 x1 0 1 2 3)
def spec_Digest.l0 : Nat → Int → List Int → Int → Int → Int → Int → Option (Int)
 | 0, _, _, _, _, _, _ => none
 | k + 1, x0, x1, x6, x430000, x430001, x430002 => if x6 < (x1.length : Int) then (if 0 ≤ x6 then ((spec_l1Round.f (Go.bits .xor .u64 x430000 (IntKind.u64.wrap (rd x1 x6))) x430001 x430002).bind fun bt431 => ((spec_l1Round.f bt431.1 bt431.2.1 bt431.2.2).bind fun bt434 => (spec_Digest.l0 k x0 x1 (wrap64 (x6 + 1)) bt434.1 bt434.2.1 bt434.2.2))) else (none)) else ((spec_l1Out.f k x0 (Go.bits .xor .u64 x430000 (IntKind.u64.wrap ((x1.length : Int)))) x430001 x430002 6).bind fun t437 => (some t437))
end
def spec_Digest.f (k : Nat) (a0 : Int) (l1 : List Int) : Option (Int) := (spec_l1In.f a0 2 60).bind fun t428 => (if t428 = true then (spec_Digest.j0 k a0 l1 (decide ((l1.length : Int) > 4000))) else (spec_Digest.j0 k a0 l1 true))
def spec_Digest.T7 : Bool × List (List Nat × List Nat) := (true, [([], []), ([0], [0]), ([], []), ([], []), ([2, 3], [2, 3]), ([4], [4]), ([5], [5]), ([1, 6], [1, 6]), ([0, 1, 2, 3, 4, 5, 6, 7], []), ([8, 7, 0, 1, 2, 3, 4, 5, 6, 7], [7, 8])])
def spec_Digest.B7 : List Nat := [0, 1, 0, 0, 12, 28, 60, 127, 255, 511]
theorem spec_Digest.tab7 : rtab .any (opsOf Try.f112 7) = spec_Digest.T7 := by kernel_rfl
theorem spec_Digest.bits7 : waitsOk spec_Digest.T7.2 spec_Digest.B7 = true := by kernel_rfl
theorem spec_Digest.calls (k : Nat) (a0 : Int) (A1 : Option Addr) (c1 : Nat) (l1 : List Int) (r : Int) (w : World) (hr1 : Kd.C (Kd.int .u8) w A1 l1.length l1) (hc1 : l1.length ≤ c1) (h : spec_Digest.f k a0 l1 = some r) :
  Calls Try.prog 112 #[.int .i64 a0, .slice A1 l1.length c1] w fun e w' => e = .returned (.int .i64 r) ∧ Below w.heap.size w w' := by
 have hu136 := Try.underlying136
 have HR1 := am hr1
 have HC1 := am hc1
 clear hr1 hc1
 have HB := am (Below.refl w.heap.size w)
 have H : ((spec_l1In.f a0 2 60).bind fun t428 => (if t428 = true then (spec_Digest.j0 k a0 l1 (decide ((l1.length : Int) > 4000))) else (spec_Digest.j0 k a0 l1 true))) = some r := h
 clear h
 have HC3 := am H
 clear H
 go_enter Try.func112, Try.ntmps112
 go_upto_region 1 with (fail)
 go_cut [14] (fun v14 wc => ∃ (kq : Nat) (x14_2 : Bool), v14 = .bool x14_2 ∧ Aside0 (spec_Digest.j0 kq a0 l1 x14_2 = some r) ∧ Aside0 (kq ≤ k) ∧ Aside0 (Below w.heap.size w wc))
 case first =>
  have H := HC3.out
  clear HC3
  obtain ⟨t428, A4, H⟩ := bm H
  (try dsimp -simprocs only at H)
  by_cases c5 : t428 = true
  ·subst c5
   rw [if_pos rfl] at H
   have H' := am H
   clear H
   go_wp2_with (first | ((with_reducible refine gate_callee (f := 97) rfl ?_); refine goesL_ (some 8) rfl rfl Try.func97 (by kernel_rfl) rfl #[.int .i64 a0, .int .i64 2, .int .i64 60] rfl av ?_; (with_reducible refine (spec_l1In.calls a0 2 60 true _ A4.out).mono ?_); rintro e w' ⟨rfl, ⟨nd, rfl⟩⟩; refine ⟨_, rfl, ?_⟩))
   go_meet
   case rel => exact ⟨_, (decide ((l1.length : Int) > 4000)), e0, H', ⟨by first | omega | exact Nat.le_refl _⟩, ⟨bt⟩⟩
  ·replace c5 := Bool.eq_false_iff.mpr c5
   subst c5
   rw [if_neg nft] at H
   have H' := am H
   clear H
   go_wp2_with (first | ((with_reducible refine gate_callee (f := 97) rfl ?_); refine goesL_ (some 8) rfl rfl Try.func97 (by kernel_rfl) rfl #[.int .i64 a0, .int .i64 2, .int .i64 60] rfl av ?_; (with_reducible refine (spec_l1In.calls a0 2 60 false _ A4.out).mono ?_); rintro e w' ⟨rfl, ⟨nd, rfl⟩⟩; refine ⟨_, rfl, ?_⟩))
   go_meet
   case rel => exact ⟨_, (true), e0, H', ⟨by first | omega | exact Nat.le_refl _⟩, ⟨bt⟩⟩
 case rest =>
  clear HC3
  obtain ⟨kq, x14_2, rfl, HA, HJ2, HB⟩ := hcut
  cases kq with
  | zero => exact absurd HA.out (by simp [spec_Digest.j0])
  | succ kj2 =>
   have H := HA.out
   clear HA
   simp only [spec_Digest.j0] at H
   by_cases c6 : x14_2 = true
   ·subst c6
    rw [if_pos rfl] at H
    obtain rfl := Option.some.inj H
    go_wp2
    go_ret
    exact ⟨by first | rfl | (simp [errW_none, errW_some] <;> rfl) | (simp [*, errW_none, errW_some] <;> rfl), bt⟩
   ·replace c6 := Bool.eq_false_iff.mpr c6
    subst c6
    rw [if_neg nft] at H
    have H' := am H
    clear H
    go_wp2_with (first | ((with_reducible refine gate_dst (N := 5) rfl ?_); (try (refine gate_guard (by rfl) ?_; dsimp only)); refine box_event ?hg (N := 5) ?hd (cs := #[.int .u64 0, .int .u64 0, .int .u64 0]) (t := 136) ?hr ?_; (case hd => rfl); (case hg => rfl); (case hr => first | (go_simp; done) | (go_simp; rfl)); intro gb429 hg w7 hbox hb; have BK429 := am (hbox); have GW429 := am ((by rw [hg]; exact (below_size (bt)) : w.heap.size ≤ gb429)); have GE429 := am ((by rw [hg]; exact (below_size (bt)) : w.heap.size ≤ gb429)); replace HB := am (below_step (bt) hb); clear hb hbox hg; have hcz8_0 : w7.cell? ⟨gb429, 0, none⟩ = some (.int .u64 0) := (blk_cell BK429.out 0).trans rfl; have hcz8_1 : w7.cell? ⟨gb429, 1, none⟩ = some (.int .u64 0) := (blk_cell BK429.out 1).trans rfl; have hcz8_2 : w7.cell? ⟨gb429, 2, none⟩ = some (.int .u64 0) := (blk_cell BK429.out 2).trans rfl; have hfz8_0 := blk_frozen BK429.out 0; have hfz8_1 := blk_frozen BK429.out 1; have hfz8_2 := blk_frozen BK429.out 2))
    go_loopg [6] kj2 (fun kq v6 w' => ∃ (x6_2 : Int) (x430000_2 : Int) (x430001_2 : Int) (x430002_2 : Int), v6 = .int .i64 x6_2 ∧ Aside0 (spec_Digest.l0 kq a0 l1 x6_2 x430000_2 x430001_2 x430002_2 = some r) ∧ Aside0 (kq ≤ kj2) ∧ Aside0 (w'.heap[gb429]? = some (.cells #[.int .u64 x430000_2, .int .u64 x430001_2, .int .u64 x430002_2] 136 (0, 0))) ∧ Aside0 (Below w.heap.size w w'))
    case atStart => exact ⟨(0), (1), (2), (3), e0, H', ⟨Nat.le_refl _⟩, ⟨by (with_reducible repeat (first | refine blk_drewN ?_ _ | refine blk_drew ?_ | refine blk_alloc ?_ _)); refine blk_put (cs := #[.int .u64 1, .int .u64 2, .int .u64 0]) ?_ 2 _ rfl; (with_reducible repeat (first | refine blk_drewN ?_ _ | refine blk_drew ?_ | refine blk_alloc ?_ _)); refine blk_put (cs := #[.int .u64 1, .int .u64 0, .int .u64 0]) ?_ 1 _ rfl; (with_reducible repeat (first | refine blk_drewN ?_ _ | refine blk_drew ?_ | refine blk_alloc ?_ _)); refine blk_put (cs := #[.int .u64 0, .int .u64 0, .int .u64 0]) ?_ 0 _ rfl; (with_reducible repeat (first | refine blk_drewN ?_ _ | refine blk_drew ?_ | refine blk_alloc ?_ _)); exact BK429.out⟩, ⟨b1 GE429.out⟩⟩
    case round =>
     clear H'
     obtain ⟨x6_2, x430000_2, x430001_2, x430002_2, rfl, HA, HK2, BK429, HB⟩ := hrel
     cases gk with
     | zero => exact absurd HA.out (by simp [spec_Digest.l0])
     | succ k2 =>
      have H := HA.out
      clear HA
      simp only [spec_Digest.l0] at H
      by_cases c9 : x6_2 < (l1.length : Int)
      ·rw [if_pos c9] at H
       have c9b0 : decide (x6_2 < (l1.length : Int)) = true := decide_eq_true c9
       clear c9
       by_cases c10 : 0 ≤ x6_2
       ·rw [if_pos c10] at H
        have c10b0 : decide (0 ≤ x6_2) = true := decide_eq_true c10
        clear c10
        obtain ⟨⟨t431, t432, t433⟩, A11, H⟩ := bm H
        (try dsimp -simprocs only at H)
        obtain ⟨⟨t434, t435, t436⟩, A12, H⟩ := bm H
        (try dsimp -simprocs only at H)
        have H' := am H
        clear H
        try go_wp2
        have n0_ := am (blk_drew BK429.out)
        have n1_ := am (below_drew1 HB.out)
        clear BK429
        clear HB
        have BK429 := n0_
        have HB := n1_
        clear n0_ n1_
        have p430 : 0 ≤ (x6_2 : Int) := of_decide_eq_true asm
        have q430 : x6_2 < (l1.length : Int) := of_decide_eq_true asm
        obtain ⟨ad430, e430, hx430_0⟩ := Kd.at_int HR1.out x6_2 p430 q430
        have hw430_0 := hx430_0
        cases e430
        replace hx430_0 := (HB.out.cell (World.block_lt_of_cell? w _ hx430_0)).trans hx430_0
        replace p430 := eq_true p430
        replace q430 := eq_true q430
        refine start_ (n := 10) (S := fun w' => w'.cell? ⟨gb429, 0, none⟩ = some (.int .u64 x430000_2) ∧ w'.cell? ⟨gb429, 1, none⟩ = some (.int .u64 x430001_2) ∧ w'.cell? ⟨gb429, 2, none⟩ = some (.int .u64 x430002_2) ∧ w'.cell? (ad430.add (x6_2).toNat) = some (.int .u8 (rd l1 x6_2))) (ds := [9]) #[false, false, false, false, false, false, false, false, false, false] (by kernel_rfl) rfl rfl ⟨(blk_cell BK429.out 0).trans rfl, (blk_cell BK429.out 1).trans rfl, (blk_cell BK429.out 2).trans rfl, ((HB.out.cell (World.block_lt_of_cell? w _ hw430_0)).trans hw430_0)⟩ (fun hHeld => ?_); refine with_tabW spec_Digest.tab7 spec_Digest.bits7 (fun HT_ HW_ => ?_)
        generalize wr.drew = w13 at BK429 HB hx430_0 hHeld ⊢
        refine pz (i := 0) (N := some 22) #[true, false, false, false, false, false, false, false, false, false] rfl rfl HT_.out ?_
        refine pz (i := 2) (N := some 24) #[true, false, true, false, false, false, false, false, false, false] rfl rfl HT_.out ?_
        refine pz (i := 3) (N := some 25) #[true, false, true, true, false, false, false, false, false, false] rfl rfl HT_.out ?_
        refine pz (i := 4) (N := some 26) #[true, false, true, true, true, false, false, false, false, false] rfl rfl HT_.out ?_
        refine tz (i := 1) (N := some 23) #[true, true, true, true, true, false, false, false, false, false] rfl rfl HT_.out HW_.out hHeld (Or.inl ⟨by rfl, by rintro w' ⟨s0, s1, s2, s3⟩; go_simp; with_reducible rfl⟩) ?_
        refine tz (i := 5) (N := some 27) #[true, true, true, true, true, true, false, false, false, false] rfl rfl HT_.out HW_.out hHeld (Or.inl ⟨by rfl, by rintro w' ⟨s0, s1, s2, s3⟩; go_simp; with_reducible rfl⟩) ?_
        refine pz (i := 6) (N := some 28) #[true, true, true, true, true, true, true, false, false, false] rfl rfl HT_.out ?_
        refine pz (i := 7) (N := some 29) #[true, true, true, true, true, true, true, true, false, false] rfl rfl HT_.out ?_
        refine pz (i := 8) (N := some 30) #[true, true, true, true, true, true, true, true, true, false] rfl rfl HT_.out ?_
        refine last_ (i := 9) (N := none) #[true, true, true, true, true, true, true, true, true, true] rfl rfl (one_of HT_.out (by kernel_rfl)) (by decide) (fun K hK => ?_)
        have hs14 : w13.cell? ⟨gb429, 0, none⟩ = some (.int .u64 x430000_2) := (blk_cell BK429.out 0).trans rfl
        have hfs14 := blk_frozen BK429.out 0
        refine skip_ (w1 := ?_) (by rfl) rfl ?_ ?_
        rotate_left
        ·go_simp
         rfl
        refine hK.out _ _ ?_
        clear hK K
        refine done_ (done_of HT_.out (by kernel_rfl)) ?_
        have hcz15_0 : w13.cell? ⟨gb429, 0, none⟩ = some (.int .u64 x430000_2) := (blk_cell BK429.out 0).trans rfl
        have hcz15_1 : w13.cell? ⟨gb429, 1, none⟩ = some (.int .u64 x430001_2) := (blk_cell BK429.out 1).trans rfl
        have hcz15_2 : w13.cell? ⟨gb429, 2, none⟩ = some (.int .u64 x430002_2) := (blk_cell BK429.out 2).trans rfl
        have hfz15_0 := blk_frozen BK429.out 0
        have hfz15_1 := blk_frozen BK429.out 1
        have hfz15_2 := blk_frozen BK429.out 2
        try go_wp2_with (first | ((with_reducible refine gate_callee (f := 136) rfl ?_); refine goesL_ (some 32) rfl rfl Try.func136 (by kernel_rfl) rfl #[.agg #[.int .u64 (Go.bits .xor .u64 x430000_2 (IntKind.u64.wrap (rd l1 x6_2))), .int .u64 x430001_2, .int .u64 x430002_2]] rfl av ?_; (with_reducible refine (spec_l1Round.calls (Go.bits .xor .u64 x430000_2 (IntKind.u64.wrap (rd l1 x6_2))) x430001_2 x430002_2 t431 t432 t433 _ A11.out).mono ?_); rintro e w16 ⟨rfl, hb⟩; refine ⟨_, rfl, ?_⟩; replace BK429 := am (blk_below (g := gb429) (o := .cells #[.int .u64 (Go.bits .xor .u64 x430000_2 (IntKind.u64.wrap (rd l1 x6_2))), .int .u64 x430001_2, .int .u64 x430002_2] 136 (0, 0)) (by (with_reducible repeat (first | refine blk_drewN ?_ _ | refine blk_drew ?_ | refine blk_alloc ?_ _)); refine blk_put (cs := #[.int .u64 x430000_2, .int .u64 x430001_2, .int .u64 x430002_2]) ?_ 0 _ rfl; (with_reducible repeat (first | refine blk_drewN ?_ _ | refine blk_drew ?_ | refine blk_alloc ?_ _)); exact BK429.out) hb); replace HB := am (below_step (b1 GE429.out) hb); (try clear hb); (try clear hb2); (try clear hk); (try clear hi)) | ((with_reducible refine gate_callee (f := 136) rfl ?_); refine goesL_ (some 33) rfl rfl Try.func136 (by kernel_rfl) rfl #[.agg #[.int .u64 t431, .int .u64 t432, .int .u64 t433]] rfl av ?_; (with_reducible refine (spec_l1Round.calls t431 t432 t433 t434 t435 t436 _ A12.out).mono ?_); rintro e w17 ⟨rfl, hb⟩; refine ⟨_, rfl, ?_⟩; replace BK429 := am (blk_below (g := gb429) (o := .cells #[.int .u64 (Go.bits .xor .u64 x430000_2 (IntKind.u64.wrap (rd l1 x6_2))), .int .u64 x430001_2, .int .u64 x430002_2] 136 (0, 0)) (mb BK429.out) hb); replace HB := am (below_step (b1 GE429.out) hb); (try clear hb); (try clear hb2); (try clear hk); (try clear hi); have hcz18_0 : w17.cell? ⟨gb429, 0, none⟩ = some (.int .u64 (Go.bits .xor .u64 x430000_2 (IntKind.u64.wrap (rd l1 x6_2)))) := (blk_cell BK429.out 0).trans rfl; have hcz18_1 : w17.cell? ⟨gb429, 1, none⟩ = some (.int .u64 x430001_2) := (blk_cell BK429.out 1).trans rfl; have hcz18_2 : w17.cell? ⟨gb429, 2, none⟩ = some (.int .u64 x430002_2) := (blk_cell BK429.out 2).trans rfl; have hfz18_0 := blk_frozen BK429.out 0; have hfz18_1 := blk_frozen BK429.out 1; have hfz18_2 := blk_frozen BK429.out 2))
        go_roundg k2
        case measure => have := HJ2.out; have := HK2.out; omega
        case rel => exact ⟨(wrap64 (x6_2 + 1)), (t434), (t435), (t436), e0, H', ⟨by have := HJ2.out; have := HK2.out; omega⟩, ⟨by (with_reducible repeat (first | refine blk_drewN ?_ _ | refine blk_drew ?_ | refine blk_alloc ?_ _)); refine blk_put (cs := #[.int .u64 t434, .int .u64 t435, .int .u64 x430002_2]) ?_ 2 _ rfl; (with_reducible repeat (first | refine blk_drewN ?_ _ | refine blk_drew ?_ | refine blk_alloc ?_ _)); refine blk_put (cs := #[.int .u64 t434, .int .u64 x430001_2, .int .u64 x430002_2]) ?_ 1 _ rfl; (with_reducible repeat (first | refine blk_drewN ?_ _ | refine blk_drew ?_ | refine blk_alloc ?_ _)); refine blk_put (cs := #[.int .u64 (Go.bits .xor .u64 x430000_2 (IntKind.u64.wrap (rd l1 x6_2))), .int .u64 x430001_2, .int .u64 x430002_2]) ?_ 0 _ rfl; (with_reducible repeat (first | refine blk_drewN ?_ _ | refine blk_drew ?_ | refine blk_alloc ?_ _)); exact BK429.out⟩, ⟨b1 GE429.out⟩⟩
       ·exact nh c10 H
      ·rw [if_neg c9] at H
       have c9b0 : decide (x6_2 < (l1.length : Int)) = false := decide_eq_false c9
       clear c9
       obtain ⟨t437, A19, H⟩ := bm H
       (try dsimp -simprocs only at H)
       obtain rfl := Option.some.inj H
       have hcz20_0 : wr.cell? ⟨gb429, 0, none⟩ = some (.int .u64 x430000_2) := (blk_cell BK429.out 0).trans rfl
       have hcz20_1 : wr.cell? ⟨gb429, 1, none⟩ = some (.int .u64 x430001_2) := (blk_cell BK429.out 1).trans rfl
       have hcz20_2 : wr.cell? ⟨gb429, 2, none⟩ = some (.int .u64 x430002_2) := (blk_cell BK429.out 2).trans rfl
       have hfz20_0 := blk_frozen BK429.out 0
       have hfz20_1 := blk_frozen BK429.out 1
       have hfz20_2 := blk_frozen BK429.out 2
       go_wp2_with (first | ((with_reducible refine gate_callee (f := 137) rfl ?_); refine goesL_ (some 43) rfl rfl Try.func137 (by kernel_rfl) rfl #[.int .i64 a0, .agg #[.int .u64 (Go.bits .xor .u64 x430000_2 (IntKind.u64.wrap ((l1.length : Int)))), .int .u64 x430001_2, .int .u64 x430002_2], .int .i64 6] rfl av ?_; (with_reducible refine (spec_l1Out.calls k2 a0 (Go.bits .xor .u64 x430000_2 (IntKind.u64.wrap ((l1.length : Int)))) x430001_2 x430002_2 6 t437 _ A19.out).mono ?_); rintro e w21 ⟨rfl, hb⟩; refine ⟨_, rfl, ?_⟩; replace BK429 := am (blk_below (g := gb429) (o := .cells #[.int .u64 (Go.bits .xor .u64 x430000_2 (IntKind.u64.wrap ((l1.length : Int)))), .int .u64 x430001_2, .int .u64 x430002_2] 136 (0, 0)) (by (with_reducible repeat (first | refine blk_drewN ?_ _ | refine blk_drew ?_ | refine blk_alloc ?_ _)); refine blk_put (cs := #[.int .u64 x430000_2, .int .u64 x430001_2, .int .u64 x430002_2]) ?_ 0 _ rfl; (with_reducible repeat (first | refine blk_drewN ?_ _ | refine blk_drew ?_ | refine blk_alloc ?_ _)); exact BK429.out) hb); replace HB := am (below_step (b1 GE429.out) hb); (try clear hb); (try clear hb2); (try clear hk); (try clear hi)))
       go_ret
       exact ⟨by first | rfl | (simp [errW_none, errW_some] <;> rfl) | (simp [*, errW_none, errW_some] <;> rfl), b1 GE429.out⟩

/-! ### spec_l2Leaf: function 116 -/
def spec_l2Leaf.f (l0 : List Int) : Option (List Int) := (some (([0] : List Int) : List Int)).bind fun y438 => (if y438.length + l0.length < 140737488355328 then (some (y438 ++ l0)) else (none))
theorem spec_l2Leaf.calls (A0 : Option Addr) (c0 : Nat) (l0 : List Int) (r : List Int) (w : World) (hr0 : Kd.C (Kd.int .u8) w A0 l0.length l0) (hc0 : l0.length ≤ c0) (h : spec_l2Leaf.f l0 = some r) :
  Calls Try.prog 116 #[.slice A0 l0.length c0] w fun e w' => ∃ v0_ : Value, e = .returned (v0_) ∧ Kd.R (Kd.int .u8) 5 w' w.heap.size (fun _ => True) v0_ r ∧ Below w.heap.size w w' := by
 have HR0 := am hr0
 have HC0 := am hc0
 clear hr0 hc0
 have HB := am (Below.refl w.heap.size w)
 have H : ((some (([0] : List Int) : List Int)).bind fun y438 => (if y438.length + l0.length < 140737488355328 then (some (y438 ++ l0)) else (none))) = some r := h
 clear h
 obtain ⟨y438, hy438⟩ : ∃ y_ : List Int, y_ = (([0] : List Int)) := ⟨_, rfl⟩
 replace H : (if y438.length + l0.length < 140737488355328 then (some (y438 ++ l0)) else (none)) = some r := by first | (rw [hy438]; exact H) | exact H
 have Ny438 := am hy438
 clear hy438
 by_cases c2 : y438.length + l0.length < 140737488355328
 ·rw [if_pos c2] at H
  have LMc2 := am c2
  clear c2
  obtain ⟨y441, hy441⟩ : ∃ y_ : List Int, y_ = (y438 ++ l0) := ⟨_, rfl⟩
  replace H : (some y441) = some r := by first | (rw [hy441]; exact H) | exact H
  have Ny441 := am hy441
  clear hy441
  obtain rfl := Option.some.inj H
  go_enter Try.func116, Try.ntmps116
  go_wp2_with (first | ((with_reducible refine gate_dst (N := 3) rfl ?_); refine Kd.R_lit (Kd.int .u8) _ 5 ?hg (N := 3) ?hd (xs := ([0] : List Int)) (inner := [.int .u8 0]) (ok := fun _ => True) (okp := fun _ => True) ?hr ?hp (fun _ hk => hk) trivial (Below.refl _ _) (Nat.le_refl _) (by simp) ?_; (case hd => rfl); (case hg => rfl); (case hr => first | (go_simp; done) | (go_simp; rfl)); (case hp => exact (Reps.one (show Kd.M (Kd.int .u8) _ _ _ 0 [.int .u8 0] from rfl) (Reps.none _ _))); intro v439 w3 ho4 hb hg_ hnew_; clear hg_ hnew_; (first | rw [← Ny438.out] at ho4 | (simp only [Int.reduceToNat] at ho4; rw [← Ny438.out] at ho4)); have HO440 := am (Kd.R_lower ho4 (below_size (bt))); replace HB := am (below_step (bt) hb); clear hb ho4) | ((with_reducible refine gate_builtin (b := .append) (xs := #[.tmp 3, .tmp 4]) rfl ?_); at_builtin; refine Kd.R_append_rows (Kd.int .u8) (w0 := w) w.heap.size rfl (.tmp 3) (.tmp 4) 22 5 (.int .u8 0) 1 rfl Try.underlying22 info5 rfl (by decide) (by omega) v439 y438 l0 _ _ _ (fun _ => True) (fun _ => False) rfl rfl ?aO ?aR (fun _ _ h => h) (fun _ h => h.elim) ?aF ?aB ?aS ?aL ?_; (case aR => exact cv ((Kd.C_below HR0.out HB.out))); (case aB => exact (bt)); (case aF => exact (fun _ _ => trivial)); (case aO => exact (mv HO440.out)); (case aS => exact (below_size (bt))); (case aL => have := LMc2.out; omega); intro v442 w5 ho hb hg hat; rw [← Ny441.out] at ho; replace HB := am (hb); have HO443 := am (ho); clear HO440; clear ho hb hg hat))
  go_ret
  exact ⟨_, by first | rfl | (simp [errW_none, errW_some] <;> rfl) | (simp [*, errW_none, errW_some] <;> rfl), rR (h := by exact HO443.out), bt⟩
 ·exact nh c2 H

end Go.Proofs.Ytchjajbkaiefdaa.PFnMany
