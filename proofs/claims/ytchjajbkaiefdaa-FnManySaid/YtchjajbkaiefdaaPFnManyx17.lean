-- Written by a program of this workplace (wip/mp.py) out of the translation.
import Derived.Test.YtchjajbkaiefdaaPFnManyx0
import Derived.Test.YtchjajbkaiefdaaPFnManyx3
import Derived.Test.YtchjajbkaiefdaaPFnManyx6
import Derived.Test.YtchjajbkaiefdaaPFnManyx7
import Derived.Test.YtchjajbkaiefdaaPFnManyx16
namespace Go.Proofs.Ytchjajbkaiefdaa.PFnMany
open Go.RowKit Go.Proofs.YtchjajbkaiefdaaW.PrintWords Go.Proofs.YtchjajbkaiefdaaW.PrintLast Go.Proofs.YtchjajbkaiefdaaW.PrintMore Go.Proofs.Ytchjajbkaiefdaa.Slim
attribute [local go_sem] max2_int min2_int max_two min_two max_three min_three max_four min_four   -- for this text's walks alone
set_option maxHeartbeats 8000000
set_option maxRecDepth 100000
set_option linter.unusedVariables false
set_option linter.unusedSimpArgs false

/-! ### impl_lastUnlike: function 70 -/
def impl_lastUnlike.l0 : Nat → List (List Int) → List (List Int) → Int → Option (List Int × List Int × Bool)
 | 0, _, _, _ => none
 | k + 1, x0, x1, x6 => if x6 ≥ 0 then (if 0 ≤ x6 then (if x6 < (x0.length : Int) then (if x6 < (x1.length : Int) then ((bytes_Equal.f (rd_L1 x0 x6) (rd_L1 x1 x6)).bind fun t731 => (if t731 = true then (impl_lastUnlike.l0 k x0 x1 (wrap64 (x6 - 1))) else ((impl_pairOf.f (rd_L1 x0 x6) (rd_L1 x1 x6)).bind fun bt734 => (some (bt734.1, bt734.2, true))))) else (none)) else (none)) else (none)) else (some (([] : List Int), ([] : List Int), false))
def impl_lastUnlike.f (k : Nat) (l0 : List (List Int)) (l1 : List (List Int)) : Option (List Int × List Int × Bool) := impl_lastUnlike.l0 k l0 l1 (wrap64 ((l0.length : Int) - 1))
def impl_lastUnlike.T4 : Bool × List (List Nat × List Nat) := (true, [([], []), ([], []), ([0, 1], [0, 1]), ([2], [2]), ([], []), ([], []), ([4, 5], [4, 5]), ([6], [6]), ([3, 7], [3, 7]), ([8], [8])])
def impl_lastUnlike.B4 : List Nat := [0, 0, 3, 7, 0, 0, 48, 112, 255, 511]
theorem impl_lastUnlike.tab4 : rtab .any (opsOf Try.f70 4) = impl_lastUnlike.T4 := by kernel_rfl
theorem impl_lastUnlike.bits4 : waitsOk impl_lastUnlike.T4.2 impl_lastUnlike.B4 = true := by kernel_rfl
def impl_lastUnlike.T5 : Bool × List (List Nat × List Nat) := (true, [([], []), ([], []), ([0, 1], [0, 1]), ([2], [2]), ([], []), ([], []), ([4, 5], [4, 5]), ([6], [6]), ([3, 7], [3, 7]), ([8, 8, 0, 1, 2, 3, 4, 5, 6, 7, 8], [8]), ([9, 0, 1, 2, 3, 4, 5, 6, 7, 8, 9], [])])
def impl_lastUnlike.B5 : List Nat := [0, 0, 3, 7, 0, 0, 48, 112, 255, 511, 1023]
theorem impl_lastUnlike.tab5 : rtab .any (opsOf Try.f70 5) = impl_lastUnlike.T5 := by kernel_rfl
theorem impl_lastUnlike.bits5 : waitsOk impl_lastUnlike.T5.2 impl_lastUnlike.B5 = true := by kernel_rfl
theorem impl_lastUnlike.calls (k : Nat) (A0 : Option Addr) (c0 : Nat) (l0 : List (List Int)) (A1 : Option Addr) (c1 : Nat) (l1 : List (List Int)) (r1 : List Int) (r2 : List Int) (r3 : Bool) (w : World) (hr0 : Kd.C (Kd.slice 5 (Kd.int .u8)) w A0 l0.length l0) (hc0 : l0.length ≤ c0) (hr1 : Kd.C (Kd.slice 5 (Kd.int .u8)) w A1 l1.length l1) (hc1 : l1.length ≤ c1) (h : impl_lastUnlike.f k l0 l1 = some (r1, r2, r3)) :
  Calls Try.prog 70 #[.slice A0 l0.length c0, .slice A1 l1.length c1] w fun e w' => ∃ v0_ v1_ : Value, e = .returned (.tuple #[.agg #[v0_, v1_], .bool r3]) ∧ Kd.R (Kd.int .u8) 5 w' w.heap.size (fun k_ => nb k_ v1_) v0_ r1 ∧ Kd.R (Kd.int .u8) 5 w' w.heap.size (fun k_ => nb k_ v0_) v1_ r2 ∧ Below w.heap.size w w' := by
 have hu33 := Try.underlying33
 have HR0 := am hr0
 have HC0 := am hc0
 clear hr0 hc0
 have HR1 := am hr1
 have HC1 := am hc1
 clear hr1 hc1
 have HB := am (Below.refl w.heap.size w)
 have H : (impl_lastUnlike.l0 k l0 l1 (wrap64 ((l0.length : Int) - 1))) = some (r1, r2, r3) := h
 clear h
 have H' := am H
 clear H
 go_enter Try.func70, Try.ntmps70
 go_wp2_with (first | ((with_reducible refine gate_dst (N := 4) rfl ?_); refine box_event ?hg (N := 4) ?hd (cs := #[.slice none 0 0, .slice none 0 0]) (t := 33) ?hr ?_; (case hd => rfl); (case hg => rfl); (case hr => first | (go_simp; done) | (go_simp; rfl)); intro gb728 hg w3 hbox hb; have BK728 := am (hbox); have GW728 := am ((by rw [hg]; exact (below_size (bt)) : w.heap.size ≤ gb728)); have GE728 := am ((by rw [hg]; exact (below_size (bt)) : w.heap.size ≤ gb728)); replace HB := am (below_step (bt) hb); clear hb hbox hg))
 go_loopg [6] k (fun kq v6 w' => ∃ (x6_1 : Int), v6 = .int .i64 x6_1 ∧ Aside0 (impl_lastUnlike.l0 kq l0 l1 x6_1 = some (r1, r2, r3)) ∧ Aside0 (kq ≤ k) ∧ Aside0 (w'.heap[gb728]? = some (.cells #[(.slice none 0 0), (.slice none 0 0)] 33 (0, 0))) ∧ Aside0 (Below w.heap.size w w'))
 case atStart => exact ⟨(wrap64 ((l0.length : Int) - 1)), e0, H', ⟨Nat.le_refl _⟩, ⟨mb BK728.out⟩, ⟨b1 GE728.out⟩⟩
 case round =>
  clear H'
  obtain ⟨x6_1, rfl, HA, HK1, BK728, HB⟩ := hrel
  cases gk with
  | zero => exact absurd HA.out (by simp [impl_lastUnlike.l0])
  | succ k1 =>
   have H := HA.out
   clear HA
   simp only [impl_lastUnlike.l0] at H
   by_cases c4 : x6_1 ≥ 0
   ·rw [if_pos c4] at H
    have c4b0 : decide (0 ≤ x6_1) = true := decide_eq_true c4
    clear c4
    by_cases c5 : 0 ≤ x6_1
    ·rw [if_pos c5] at H
     have c5b0 : decide (0 ≤ x6_1) = true := decide_eq_true c5
     clear c5
     by_cases c6 : x6_1 < (l0.length : Int)
     ·rw [if_pos c6] at H
      have c6b0 : decide (x6_1 < (l0.length : Int)) = true := decide_eq_true c6
      clear c6
      by_cases c7 : x6_1 < (l1.length : Int)
      ·rw [if_pos c7] at H
       have c7b0 : decide (x6_1 < (l1.length : Int)) = true := decide_eq_true c7
       clear c7
       obtain ⟨t731, A8, H⟩ := bm H
       (try dsimp -simprocs only at H)
       by_cases c9 : t731 = true
       ·subst c9
        rw [if_pos rfl] at H
        have H' := am H
        clear H
        try go_wp2
        have n0_ := am (blk_drew BK728.out)
        have n1_ := am (below_drew1 HB.out)
        clear BK728
        clear HB
        have BK728 := n0_
        have HB := n1_
        clear n0_ n1_
        have p729 : 0 ≤ (x6_1 : Int) := of_decide_eq_true asm
        have q729 : x6_1 < (l0.length : Int) := of_decide_eq_true asm
        obtain ⟨ad729, A729_0, c729_0, e729, hx729_0, hl729_0, hi729_0⟩ := at_L1 HR0.out x6_1 p729 q729
        have hw729_0 := hx729_0
        cases e729
        replace hx729_0 := (HB.out.cell (World.block_lt_of_cell? w _ hx729_0)).trans hx729_0
        have HR729_0 := am hi729_0
        have HC729_0 := am hl729_0
        clear hi729_0 hl729_0
        replace p729 := eq_true p729
        replace q729 := eq_true q729
        have p730 : 0 ≤ (x6_1 : Int) := of_decide_eq_true asm
        have q730 : x6_1 < (l1.length : Int) := of_decide_eq_true asm
        obtain ⟨ad730, A730_0, c730_0, e730, hx730_0, hl730_0, hi730_0⟩ := at_L1 HR1.out x6_1 p730 q730
        have hw730_0 := hx730_0
        cases e730
        replace hx730_0 := (HB.out.cell (World.block_lt_of_cell? w _ hx730_0)).trans hx730_0
        have HR730_0 := am hi730_0
        have HC730_0 := am hl730_0
        clear hi730_0 hl730_0
        replace p730 := eq_true p730
        replace q730 := eq_true q730
        refine start_ (n := 10) (S := fun w' => w'.cell? (ad729.add (x6_1).toNat) = some (.slice A729_0 (rd_L1 l0 x6_1).length c729_0) ∧ w'.cell? (ad730.add (x6_1).toNat) = some (.slice A730_0 (rd_L1 l1 x6_1).length c730_0)) (ds := []) #[false, false, false, false, false, false, false, false, false, false] (by kernel_rfl) rfl rfl ⟨((HB.out.cell (World.block_lt_of_cell? w _ hw729_0)).trans hw729_0), ((HB.out.cell (World.block_lt_of_cell? w _ hw730_0)).trans hw730_0)⟩ (fun hHeld => ?_); refine with_tabW impl_lastUnlike.tab4 impl_lastUnlike.bits4 (fun HT_ HW_ => ?_)
        generalize wr.drew = w10 at BK728 HB HR729_0 HR730_0 hx729_0 hx730_0 hHeld ⊢
        refine pz (i := 0) (N := some 14) #[true, false, false, false, false, false, false, false, false, false] rfl rfl HT_.out ?_
        refine pz (i := 1) (N := some 15) #[true, true, false, false, false, false, false, false, false, false] rfl rfl HT_.out ?_
        refine pz (i := 2) (N := some 16) #[true, true, true, false, false, false, false, false, false, false] rfl rfl HT_.out ?_
        refine pz (i := 4) (N := some 18) #[true, true, true, false, true, false, false, false, false, false] rfl rfl HT_.out ?_
        refine pz (i := 5) (N := some 19) #[true, true, true, false, true, true, false, false, false, false] rfl rfl HT_.out ?_
        refine pz (i := 6) (N := some 20) #[true, true, true, false, true, true, true, false, false, false] rfl rfl HT_.out ?_
        refine tz (i := 3) (N := some 17) #[true, true, true, true, true, true, true, false, false, false] rfl rfl HT_.out HW_.out hHeld (Or.inl ⟨by rfl, by rintro w' ⟨s0, s1⟩; go_simp; with_reducible rfl⟩) ?_
        refine tz (i := 7) (N := some 21) #[true, true, true, true, true, true, true, true, false, false] rfl rfl HT_.out HW_.out hHeld (Or.inl ⟨by rfl, by rintro w' ⟨s0, s1⟩; go_simp; with_reducible rfl⟩) ?_
        refine one_ (i := 8) (N := some 22) #[true, true, true, true, true, true, true, true, true, false] rfl rfl (one_of HT_.out (by kernel_rfl)) (by decide) (fun K hK => ?_)
        refine goes_ Try.func60 (by kernel_rfl) rfl #[.slice A729_0 (rd_L1 l0 x6_1).length c729_0, .slice A730_0 (rd_L1 l1 x6_1).length c730_0] (by rfl) rfl rfl av ?_
        with_reducible refine (bytes_Equal.calls _ _ (rd_L1 l0 x6_1) _ _ (rd_L1 l1 x6_1) true _ ?side1 ?side2 ?side3 ?side4 A8.out).mono ?_
        (case side1 => exact cv ((Kd.C_below HR729_0.out HB.out)))
        (case side2 => exact HC729_0.out)
        (case side3 => exact cv ((Kd.C_below HR730_0.out HB.out)))
        (case side4 => exact HC730_0.out)
        rintro e w' ⟨rfl, ⟨nd, rfl⟩⟩
        refine ⟨_, rfl, ?_⟩
        refine hK.out _ _ ⟨((HB.out.cell (World.block_lt_of_cell? w _ hw729_0)).trans hw729_0), ((HB.out.cell (World.block_lt_of_cell? w _ hw730_0)).trans hw730_0)⟩ (fun hHeld => ?_)
        clear hK K
        refine nz (N := some 22) ?_
        refine pz (i := 9) (N := some 23) #[true, true, true, true, true, true, true, true, true, true] rfl rfl HT_.out ?_
        refine done_ (done_of HT_.out (by kernel_rfl)) ?_
        (try simp only [Dig.setCell_drewN])
        try go_wp2
        go_roundg k1
        case measure => have := HK1.out; omega
        case rel => exact ⟨(wrap64 (x6_1 - 1)), e0, H', ⟨by have := HK1.out; omega⟩, ⟨mb BK728.out⟩, ⟨b1 GE728.out⟩⟩
       ·replace c9 := Bool.eq_false_iff.mpr c9
        subst c9
        rw [if_neg nft] at H
        obtain ⟨⟨t734, t737⟩, A11, H⟩ := bm H
        (try dsimp -simprocs only at H)
        simp only [Option.some.injEq, Prod.mk.injEq] at H
        obtain ⟨rfl, rfl, rfl⟩ := H
        try go_wp2
        have n0_ := am (blk_drew BK728.out)
        have n1_ := am (below_drew1 HB.out)
        clear BK728
        clear HB
        have BK728 := n0_
        have HB := n1_
        clear n0_ n1_
        have p729 : 0 ≤ (x6_1 : Int) := of_decide_eq_true asm
        have q729 : x6_1 < (l0.length : Int) := of_decide_eq_true asm
        obtain ⟨ad729, A729_0, c729_0, e729, hx729_0, hl729_0, hi729_0⟩ := at_L1 HR0.out x6_1 p729 q729
        have hw729_0 := hx729_0
        cases e729
        replace hx729_0 := (HB.out.cell (World.block_lt_of_cell? w _ hx729_0)).trans hx729_0
        have HR729_0 := am hi729_0
        have HC729_0 := am hl729_0
        clear hi729_0 hl729_0
        replace p729 := eq_true p729
        replace q729 := eq_true q729
        have p730 : 0 ≤ (x6_1 : Int) := of_decide_eq_true asm
        have q730 : x6_1 < (l1.length : Int) := of_decide_eq_true asm
        obtain ⟨ad730, A730_0, c730_0, e730, hx730_0, hl730_0, hi730_0⟩ := at_L1 HR1.out x6_1 p730 q730
        have hw730_0 := hx730_0
        cases e730
        replace hx730_0 := (HB.out.cell (World.block_lt_of_cell? w _ hx730_0)).trans hx730_0
        have HR730_0 := am hi730_0
        have HC730_0 := am hl730_0
        clear hi730_0 hl730_0
        replace p730 := eq_true p730
        replace q730 := eq_true q730
        refine start_ (n := 10) (S := fun w' => w'.cell? (ad729.add (x6_1).toNat) = some (.slice A729_0 (rd_L1 l0 x6_1).length c729_0) ∧ w'.cell? (ad730.add (x6_1).toNat) = some (.slice A730_0 (rd_L1 l1 x6_1).length c730_0)) (ds := []) #[false, false, false, false, false, false, false, false, false, false] (by kernel_rfl) rfl rfl ⟨((HB.out.cell (World.block_lt_of_cell? w _ hw729_0)).trans hw729_0), ((HB.out.cell (World.block_lt_of_cell? w _ hw730_0)).trans hw730_0)⟩ (fun hHeld => ?_); refine with_tabW impl_lastUnlike.tab4 impl_lastUnlike.bits4 (fun HT_ HW_ => ?_)
        generalize wr.drew = w12 at BK728 HB HR729_0 HR730_0 hx729_0 hx730_0 hHeld ⊢
        refine pz (i := 0) (N := some 14) #[true, false, false, false, false, false, false, false, false, false] rfl rfl HT_.out ?_
        refine pz (i := 1) (N := some 15) #[true, true, false, false, false, false, false, false, false, false] rfl rfl HT_.out ?_
        refine pz (i := 2) (N := some 16) #[true, true, true, false, false, false, false, false, false, false] rfl rfl HT_.out ?_
        refine pz (i := 4) (N := some 18) #[true, true, true, false, true, false, false, false, false, false] rfl rfl HT_.out ?_
        refine pz (i := 5) (N := some 19) #[true, true, true, false, true, true, false, false, false, false] rfl rfl HT_.out ?_
        refine pz (i := 6) (N := some 20) #[true, true, true, false, true, true, true, false, false, false] rfl rfl HT_.out ?_
        refine tz (i := 3) (N := some 17) #[true, true, true, true, true, true, true, false, false, false] rfl rfl HT_.out HW_.out hHeld (Or.inl ⟨by rfl, by rintro w' ⟨s0, s1⟩; go_simp; with_reducible rfl⟩) ?_
        refine tz (i := 7) (N := some 21) #[true, true, true, true, true, true, true, true, false, false] rfl rfl HT_.out HW_.out hHeld (Or.inl ⟨by rfl, by rintro w' ⟨s0, s1⟩; go_simp; with_reducible rfl⟩) ?_
        refine one_ (i := 8) (N := some 22) #[true, true, true, true, true, true, true, true, true, false] rfl rfl (one_of HT_.out (by kernel_rfl)) (by decide) (fun K hK => ?_)
        refine goes_ Try.func60 (by kernel_rfl) rfl #[.slice A729_0 (rd_L1 l0 x6_1).length c729_0, .slice A730_0 (rd_L1 l1 x6_1).length c730_0] (by rfl) rfl rfl av ?_
        with_reducible refine (bytes_Equal.calls _ _ (rd_L1 l0 x6_1) _ _ (rd_L1 l1 x6_1) false _ ?side1 ?side2 ?side3 ?side4 A8.out).mono ?_
        (case side1 => exact cv ((Kd.C_below HR729_0.out HB.out)))
        (case side2 => exact HC729_0.out)
        (case side3 => exact cv ((Kd.C_below HR730_0.out HB.out)))
        (case side4 => exact HC730_0.out)
        rintro e w' ⟨rfl, ⟨nd, rfl⟩⟩
        refine ⟨_, rfl, ?_⟩
        refine hK.out _ _ ⟨((HB.out.cell (World.block_lt_of_cell? w _ hw729_0)).trans hw729_0), ((HB.out.cell (World.block_lt_of_cell? w _ hw730_0)).trans hw730_0)⟩ (fun hHeld => ?_)
        clear hK K
        refine nz (N := some 22) ?_
        refine pz (i := 9) (N := some 23) #[true, true, true, true, true, true, true, true, true, true] rfl rfl HT_.out ?_
        refine done_ (done_of HT_.out (by kernel_rfl)) ?_
        (try simp only [Dig.setCell_drewN])
        try go_wp2
        (try (rw [drewN_self w12]; generalize hq_ : World.drewN w12 _ = w12; have n0_ : Aside0 (w12.heap[gb728]? = some (.cells #[.slice none 0 0, .slice none 0 0] 33 (0, 0))) := ⟨by rw [← hq_]; exact (mb BK728.out)⟩; have n1_ : Aside0 (Below w.heap.size w w12) := ⟨by rw [← hq_]; exact (b1 GE728.out)⟩; clear BK728 HB hq_; have BK728 := n0_; have HB := n1_; clear n0_ n1_))
        have n0_ := am (blk_drew BK728.out)
        have n1_ := am (below_drew1 HB.out)
        clear BK728
        clear HB
        have BK728 := n0_
        have HB := n1_
        clear n0_ n1_
        have p732 : 0 ≤ (x6_1 : Int) := of_decide_eq_true asm
        have q732 : x6_1 < (l0.length : Int) := of_decide_eq_true asm
        obtain ⟨ad732, A732_0, c732_0, e732, hx732_0, hl732_0, hi732_0⟩ := at_L1 HR0.out x6_1 p732 q732
        have hw732_0 := hx732_0
        obtain rfl : ad729 = ad732 := (by injection e732)
        replace hx732_0 := (HB.out.cell (World.block_lt_of_cell? w _ hx732_0)).trans hx732_0
        have HR732_0 := am hi732_0
        have HC732_0 := am hl732_0
        clear hi732_0 hl732_0
        replace p732 := eq_true p732
        replace q732 := eq_true q732
        have p733 : 0 ≤ (x6_1 : Int) := of_decide_eq_true asm
        have q733 : x6_1 < (l1.length : Int) := of_decide_eq_true asm
        obtain ⟨ad733, A733_0, c733_0, e733, hx733_0, hl733_0, hi733_0⟩ := at_L1 HR1.out x6_1 p733 q733
        have hw733_0 := hx733_0
        obtain rfl : ad730 = ad733 := (by injection e733)
        replace hx733_0 := (HB.out.cell (World.block_lt_of_cell? w _ hx733_0)).trans hx733_0
        have HR733_0 := am hi733_0
        have HC733_0 := am hl733_0
        clear hi733_0 hl733_0
        replace p733 := eq_true p733
        replace q733 := eq_true q733
        refine start_ (n := 11) (S := fun w' => w'.cell? (ad729.add (x6_1).toNat) = some (.slice A732_0 (rd_L1 l0 x6_1).length c732_0) ∧ w'.cell? (ad730.add (x6_1).toNat) = some (.slice A733_0 (rd_L1 l1 x6_1).length c733_0)) (ds := []) #[false, false, false, false, false, false, false, false, false, false, false] (by kernel_rfl) rfl rfl ⟨((HB.out.cell (World.block_lt_of_cell? w _ hw732_0)).trans hw732_0), ((HB.out.cell (World.block_lt_of_cell? w _ hw733_0)).trans hw733_0)⟩ (fun hHeld => ?_); refine with_tabW impl_lastUnlike.tab5 impl_lastUnlike.bits5 (fun HT_ HW_ => ?_)
        generalize w12.drew = w13 at BK728 HB HR732_0 HR733_0 hx732_0 hx733_0 hHeld ⊢
        refine pz (i := 0) (N := some 24) #[true, false, false, false, false, false, false, false, false, false, false] rfl rfl HT_.out ?_
        refine pz (i := 1) (N := some 25) #[true, true, false, false, false, false, false, false, false, false, false] rfl rfl HT_.out ?_
        refine pz (i := 2) (N := some 26) #[true, true, true, false, false, false, false, false, false, false, false] rfl rfl HT_.out ?_
        refine pz (i := 4) (N := some 28) #[true, true, true, false, true, false, false, false, false, false, false] rfl rfl HT_.out ?_
        refine pz (i := 5) (N := some 29) #[true, true, true, false, true, true, false, false, false, false, false] rfl rfl HT_.out ?_
        refine pz (i := 6) (N := some 30) #[true, true, true, false, true, true, true, false, false, false, false] rfl rfl HT_.out ?_
        refine tz (i := 3) (N := some 27) #[true, true, true, true, true, true, true, false, false, false, false] rfl rfl HT_.out HW_.out hHeld (Or.inl ⟨by rfl, by rintro w' ⟨s0, s1⟩; go_simp; with_reducible rfl⟩) ?_
        refine tz (i := 7) (N := some 31) #[true, true, true, true, true, true, true, true, false, false, false] rfl rfl HT_.out HW_.out hHeld (Or.inl ⟨by rfl, by rintro w' ⟨s0, s1⟩; go_simp; with_reducible rfl⟩) ?_
        refine one_ (i := 8) (N := some 32) #[true, true, true, true, true, true, true, true, true, false, false] rfl rfl (one_of HT_.out (by kernel_rfl)) (by decide) (fun K hK => ?_)
        refine goes_ Try.func71 (by kernel_rfl) rfl #[.slice A732_0 (rd_L1 l0 x6_1).length c732_0, .slice A733_0 (rd_L1 l1 x6_1).length c733_0] (by rfl) rfl rfl av ?_
        with_reducible refine (impl_pairOf.calls _ _ (rd_L1 l0 x6_1) _ _ (rd_L1 l1 x6_1) t734 t737 _ ?side1 ?side2 ?side3 ?side4 A11.out).mono ?_
        (case side1 => exact cv ((Kd.C_below HR732_0.out HB.out)))
        (case side2 => exact HC732_0.out)
        (case side3 => exact cv ((Kd.C_below HR733_0.out HB.out)))
        (case side4 => exact HC733_0.out)
        rintro e w14 ⟨v735, v738, rfl, ho0, ho1, hb⟩
        refine ⟨_, rfl, ?_⟩
        have n0_ := am (Kd.R_lower ho0 (below_size (b1 GE728.out)))
        have n1_ := am (Kd.R_lower ho1 (below_size (b1 GE728.out)))
        have n2_ := am (blk_below (g := gb728) (o := .cells #[.slice none 0 0, .slice none 0 0] 33 (0, 0)) (mb BK728.out) hb)
        have n3_ := am (below_step (b1 GE728.out) hb)
        clear BK728
        clear HB
        have HO736 := n0_
        have HO739 := n1_
        have BK728 := n2_
        have HB := n3_
        clear n0_ n1_ n2_ n3_
        (try clear hb)
        (try clear hb2)
        (try clear hk)
        (try clear hi)
        (try clear ho0)
        (try clear ho1)
        obtain ⟨Ao15, co15, eo15⟩ := Kd.R_slice HO736.out
        (first | subst eo15 | (injection eo15 with f1_ f2_ f3_; have f4_ := f1_.symm; have f5_ := f3_.symm; clear f1_ f2_ f3_; subst f4_; subst f5_))
        obtain ⟨Ao17, co17, eo17⟩ := Kd.R_slice HO739.out
        (first | subst eo17 | (injection eo17 with f1_ f2_ f3_; have f4_ := f1_.symm; have f5_ := f3_.symm; clear f1_ f2_ f3_; subst f4_; subst f5_))
        refine hK.out _ _ ⟨((HB.out.cell (World.block_lt_of_cell? w _ hw732_0)).trans hw732_0), ((HB.out.cell (World.block_lt_of_cell? w _ hw733_0)).trans hw733_0)⟩ (fun hHeld => ?_)
        clear hK K
        refine nz (N := some 32) ?_
        refine one_ (i := 9) (N := none) #[true, true, true, true, true, true, true, true, true, true, false] rfl rfl (one_of HT_.out (by kernel_rfl)) (by decide) (fun K hK => ?_)
        have hs16 : w14.cell? ⟨gb728, 0, none⟩ = some (.slice none 0 0) := (blk_cell BK728.out 0).trans rfl
        have hfs16 := blk_frozen BK728.out 0
        have hs18 : w14.cell? ⟨gb728, 1, none⟩ = some (.slice none 0 0) := (blk_cell BK728.out 1).trans rfl
        have hfs18 := blk_frozen BK728.out 1
        refine skip_ (w1 := ?_) (by rfl) rfl ?_ ?_
        rotate_left
        ·go_simp
         rfl
        refine hK.out _ _ ⟨((cell_far (p := ⟨gb728, _, none⟩) (by first | exact Nat.ne_of_lt (Nat.lt_of_lt_of_le (by have := World.block_lt_of_cell? _ _ hw732_0; first | rwa [add_block] at this | exact this) GW728.out) | (rw [add_block]; exact Nat.ne_of_lt (Nat.lt_of_lt_of_le (by have := World.block_lt_of_cell? _ _ hw732_0; first | rwa [add_block] at this | exact this) GW728.out)) | (show (Addr.add _ _).block ≠ _; rw [add_block]; exact Nat.ne_of_lt (Nat.lt_of_lt_of_le (by have := World.block_lt_of_cell? _ _ hw732_0; first | rwa [add_block] at this | exact this) GW728.out)) | (dsimp only; exact Nat.ne_of_lt (Nat.lt_of_lt_of_le (by have := World.block_lt_of_cell? _ _ hw732_0; first | rwa [add_block] at this | exact this) GW728.out))) _).trans (((cell_far (p := ⟨gb728, _, none⟩) (by first | exact Nat.ne_of_lt (Nat.lt_of_lt_of_le (by have := World.block_lt_of_cell? _ _ hw732_0; first | rwa [add_block] at this | exact this) GW728.out) | (rw [add_block]; exact Nat.ne_of_lt (Nat.lt_of_lt_of_le (by have := World.block_lt_of_cell? _ _ hw732_0; first | rwa [add_block] at this | exact this) GW728.out)) | (show (Addr.add _ _).block ≠ _; rw [add_block]; exact Nat.ne_of_lt (Nat.lt_of_lt_of_le (by have := World.block_lt_of_cell? _ _ hw732_0; first | rwa [add_block] at this | exact this) GW728.out)) | (dsimp only; exact Nat.ne_of_lt (Nat.lt_of_lt_of_le (by have := World.block_lt_of_cell? _ _ hw732_0; first | rwa [add_block] at this | exact this) GW728.out))) _).trans (hHeld.1)))), ((cell_far (p := ⟨gb728, _, none⟩) (by first | exact Nat.ne_of_lt (Nat.lt_of_lt_of_le (by have := World.block_lt_of_cell? _ _ hw733_0; first | rwa [add_block] at this | exact this) GW728.out) | (rw [add_block]; exact Nat.ne_of_lt (Nat.lt_of_lt_of_le (by have := World.block_lt_of_cell? _ _ hw733_0; first | rwa [add_block] at this | exact this) GW728.out)) | (show (Addr.add _ _).block ≠ _; rw [add_block]; exact Nat.ne_of_lt (Nat.lt_of_lt_of_le (by have := World.block_lt_of_cell? _ _ hw733_0; first | rwa [add_block] at this | exact this) GW728.out)) | (dsimp only; exact Nat.ne_of_lt (Nat.lt_of_lt_of_le (by have := World.block_lt_of_cell? _ _ hw733_0; first | rwa [add_block] at this | exact this) GW728.out))) _).trans (((cell_far (p := ⟨gb728, _, none⟩) (by first | exact Nat.ne_of_lt (Nat.lt_of_lt_of_le (by have := World.block_lt_of_cell? _ _ hw733_0; first | rwa [add_block] at this | exact this) GW728.out) | (rw [add_block]; exact Nat.ne_of_lt (Nat.lt_of_lt_of_le (by have := World.block_lt_of_cell? _ _ hw733_0; first | rwa [add_block] at this | exact this) GW728.out)) | (show (Addr.add _ _).block ≠ _; rw [add_block]; exact Nat.ne_of_lt (Nat.lt_of_lt_of_le (by have := World.block_lt_of_cell? _ _ hw733_0; first | rwa [add_block] at this | exact this) GW728.out)) | (dsimp only; exact Nat.ne_of_lt (Nat.lt_of_lt_of_le (by have := World.block_lt_of_cell? _ _ hw733_0; first | rwa [add_block] at this | exact this) GW728.out))) _).trans (hHeld.2))))⟩ (fun hHeld => ?_)
        clear hK K
        refine pz (i := 10) (N := some 5) #[true, true, true, true, true, true, true, true, true, true, true] rfl rfl HT_.out ?_
        refine done_ (done_of HT_.out (by kernel_rfl)) ?_
        (try simp only [Dig.setCell_drewN])
        try go_wp2
        refine bodyPost_ret (results_ct rfl _ _ gb728 33 #[.slice Ao15 t734.length co15, .slice Ao17 t737.length co17] (0, 0) _ rfl (by (with_reducible repeat (first | refine blk_drewN ?_ _ | refine blk_drew ?_ | refine blk_alloc ?_ _)); refine blk_put (cs := #[.slice Ao15 t734.length co15, .slice none 0 0]) ?_ 1 _ rfl; (with_reducible repeat (first | refine blk_drewN ?_ _ | refine blk_drew ?_ | refine blk_alloc ?_ _)); refine blk_put (cs := #[.slice none 0 0, .slice none 0 0]) ?_ 0 _ rfl; (with_reducible repeat (first | refine blk_drewN ?_ _ | refine blk_drew ?_ | refine blk_alloc ?_ _)); exact BK728.out) Try.underlying33 rfl (by kernel_rfl)) rfl ?_
        exact ⟨_, _, by first | rfl | (simp [errW_none, errW_some] <;> rfl) | (simp [*, errW_none, errW_some] <;> rfl), rR (h := by exact Kd.R_mono (Kd.R_far (p := ⟨gb728, 1, none⟩) (Kd.R_far (p := ⟨gb728, 0, none⟩) (Kd.R_types HO736.out BK728.out (by decide)) (fun _ hk => hk.2) (.slice Ao15 t734.length co15)) (fun _ hk => hk.2) (.slice Ao17 t737.length co17)) (fun _ hk => hk.1)), rR (h := by exact Kd.R_mono (Kd.R_far (p := ⟨gb728, 1, none⟩) (Kd.R_far (p := ⟨gb728, 0, none⟩) (Kd.R_types HO739.out BK728.out (by decide)) (fun _ hk => hk.2) (.slice Ao15 t734.length co15)) (fun _ hk => hk.2) (.slice Ao17 t737.length co17)) (fun _ hk => hk.1)), b1 GE728.out⟩
      ·exact nh c7 H
     ·exact nh c6 H
    ·exact nh c5 H
   ·rw [if_neg c4] at H
    have c4b0 : decide (0 ≤ x6_1) = false := decide_eq_false c4
    clear c4
    simp only [Option.some.injEq, Prod.mk.injEq] at H
    obtain ⟨rfl, rfl, rfl⟩ := H
    have hcz19_0 : wr.cell? ⟨gb728, 0, none⟩ = some (.slice none 0 0) := (blk_cell BK728.out 0).trans rfl
    have hcz19_1 : wr.cell? ⟨gb728, 1, none⟩ = some (.slice none 0 0) := (blk_cell BK728.out 1).trans rfl
    have hfz19_0 := blk_frozen BK728.out 0
    have hfz19_1 := blk_frozen BK728.out 1
    go_wp2
    refine bodyPost_ret (results_ct rfl _ _ gb728 33 #[.slice none 0 0, .slice none 0 0] (0, 0) _ rfl (by (with_reducible repeat (first | refine blk_drewN ?_ _ | refine blk_drew ?_ | refine blk_alloc ?_ _)); refine blk_put (cs := #[.slice none 0 0, .slice none 0 0]) ?_ 1 _ rfl; (with_reducible repeat (first | refine blk_drewN ?_ _ | refine blk_drew ?_ | refine blk_alloc ?_ _)); refine blk_put (cs := #[.slice none 0 0, .slice none 0 0]) ?_ 0 _ rfl; (with_reducible repeat (first | refine blk_drewN ?_ _ | refine blk_drew ?_ | refine blk_alloc ?_ _)); exact BK728.out) Try.underlying33 rfl (by kernel_rfl)) rfl ?_
    exact ⟨_, _, by first | rfl | (simp [errW_none, errW_some] <;> rfl) | (simp [*, errW_none, errW_some] <;> rfl), by first | exact Kd.R_nil _ _ _ _ _ | exact Kd.N_nil _ _ _ _ _ | exact Kd.V_nil _ _ _ _ _ | exact Kd.Q_nil _ _ _ _ _ | exact Kd.S_nil _ _ _ _ _, by first | exact Kd.R_nil _ _ _ _ _ | exact Kd.N_nil _ _ _ _ _ | exact Kd.V_nil _ _ _ _ _ | exact Kd.Q_nil _ _ _ _ _ | exact Kd.S_nil _ _ _ _ _, b1 GE728.out⟩

/-! ### impl_FromMany: function 45 -/
def impl_FromMany.f (k : Nat) (a0 : Int) (a1 : Int) (l2 : List Int) (l3 : List (List Int)) (l4 : List (List Int)) (l5 : List Int) : Option (List Int × List Int × Bool) := (impl_climbMany.f k a0 a1 l2 l3 l5).bind fun bt741 => ((impl_climbMany.f k a0 a1 l2 l4 l5).bind fun bt745 => (if bt741.2 = true then (if bt745.2 = true then ((impl_lastOf.f a0 bt741.1 true).bind fun t749 => ((impl_lastOf.f a0 bt745.1 true).bind fun t750 => (if t749 = t750 then ((impl_lastUnlike.f k bt741.1 bt745.1).bind fun bt751 => (some (bt751.1, bt751.2.1, bt751.2.2))) else (some (([] : List Int), ([] : List Int), false))))) else (some (([] : List Int), ([] : List Int), false))) else (some (([] : List Int), ([] : List Int), false))))
theorem impl_FromMany.calls (k : Nat) (a0 : Int) (a1 : Int) (A2 : Option Addr) (c2 : Nat) (l2 : List Int) (A3 : Option Addr) (c3 : Nat) (l3 : List (List Int)) (A4 : Option Addr) (c4 : Nat) (l4 : List (List Int)) (A5 : Option Addr) (c5 : Nat) (l5 : List Int) (r1 : List Int) (r2 : List Int) (r3 : Bool) (w : World) (hr2 : Kd.C (Kd.int .i64) w A2 l2.length l2) (hc2 : l2.length ≤ c2) (hr3 : Kd.C (Kd.slice 5 (Kd.int .u8)) w A3 l3.length l3) (hc3 : l3.length ≤ c3) (hr4 : Kd.C (Kd.slice 5 (Kd.int .u8)) w A4 l4.length l4) (hc4 : l4.length ≤ c4) (hr5 : Kd.C (Kd.int .i64) w A5 l5.length l5) (hc5 : l5.length ≤ c5) (h : impl_FromMany.f k a0 a1 l2 l3 l4 l5 = some (r1, r2, r3)) :
  Calls Try.prog 45 #[.int .i64 a0, .int .i64 a1, .slice A2 l2.length c2, .slice A3 l3.length c3, .slice A4 l4.length c4, .slice A5 l5.length c5] w fun e w' => ∃ v0_ v1_ : Value, e = .returned (.tuple #[.agg #[v0_, v1_], .bool r3]) ∧ Kd.R (Kd.int .u8) 5 w' w.heap.size (fun k_ => nb k_ v1_) v0_ r1 ∧ Kd.R (Kd.int .u8) 5 w' w.heap.size (fun k_ => nb k_ v0_) v1_ r2 ∧ Below w.heap.size w w' := by
 have hu33 := Try.underlying33
 have HR2 := am hr2
 have HC2 := am hc2
 clear hr2 hc2
 have HR3 := am hr3
 have HC3 := am hc3
 clear hr3 hc3
 have HR4 := am hr4
 have HC4 := am hc4
 clear hr4 hc4
 have HR5 := am hr5
 have HC5 := am hc5
 clear hr5 hc5
 have HB := am (Below.refl w.heap.size w)
 have H : ((impl_climbMany.f k a0 a1 l2 l3 l5).bind fun bt741 => ((impl_climbMany.f k a0 a1 l2 l4 l5).bind fun bt745 => (if bt741.2 = true then (if bt745.2 = true then ((impl_lastOf.f a0 bt741.1 true).bind fun t749 => ((impl_lastOf.f a0 bt745.1 true).bind fun t750 => (if t749 = t750 then ((impl_lastUnlike.f k bt741.1 bt745.1).bind fun bt751 => (some (bt751.1, bt751.2.1, bt751.2.2))) else (some (([] : List Int), ([] : List Int), false))))) else (some (([] : List Int), ([] : List Int), false))) else (some (([] : List Int), ([] : List Int), false))))) = some (r1, r2, r3) := h
 clear h
 obtain ⟨⟨t741, t744⟩, A7, H⟩ := bm H
 (try dsimp -simprocs only at H)
 obtain ⟨⟨t745, t748⟩, A8, H⟩ := bm H
 (try dsimp -simprocs only at H)
 by_cases c9 : t744 = true
 ·subst c9
  rw [if_pos rfl] at H
  by_cases c10 : t748 = true
  ·subst c10
   rw [if_pos rfl] at H
   obtain ⟨t749, A11, H⟩ := bm H
   (try dsimp -simprocs only at H)
   obtain ⟨t750, A12, H⟩ := bm H
   (try dsimp -simprocs only at H)
   by_cases c13 : t749 = t750
   ·rw [if_pos c13] at H
    have c13b0 : (t749 == t750) = true := beq_iff_eq.mpr c13
    have c13b1 : (t749 != t750) = false := bne_eq_false_iff_eq.mpr c13
    clear c13
    obtain ⟨⟨t751, t754, t757⟩, A14, H⟩ := bm H
    (try dsimp -simprocs only at H)
    simp only [Option.some.injEq, Prod.mk.injEq] at H
    obtain ⟨rfl, rfl, rfl⟩ := H
    go_enter Try.func45, Try.ntmps45
    go_wp2_with (first | ((with_reducible refine gate_dst (N := 12) rfl ?_); refine box_event ?hg (N := 12) ?hd (cs := #[.slice none 0 0, .slice none 0 0]) (t := 33) ?hr ?_; (case hd => rfl); (case hg => rfl); (case hr => first | (go_simp; done) | (go_simp; rfl)); intro gb740 hg w15 hbox hb; have BK740 := am (hbox); have GW740 := am ((by rw [hg]; exact (below_size (bt)) : w.heap.size ≤ gb740)); have GE740 := am ((by rw [hg]; exact (below_size (bt)) : w.heap.size ≤ gb740)); replace HB := am (below_step (bt) hb); clear hb hbox hg) | ((with_reducible refine gate_callee (f := 93) rfl ?_); refine goesL_ (some 24) rfl rfl Try.func93 (by kernel_rfl) rfl #[.int .i64 a0, .int .i64 a1, .slice A2 l2.length c2, .slice A3 l3.length c3, .slice A5 l5.length c5] rfl av ?_; (with_reducible refine (impl_climbMany.calls k a0 a1 (fun k_ => k_ < w.heap.size) _ _ l2 _ _ l3 (fun k_ => k_ < w.heap.size) _ _ l5 t741 true _ ?side1 ?side2 ?side3 ?side4 A7.out).mono ?_); (case side1 => exact Kd.V_mk HC2.out (Kd.F_below (Kd.C_F (Kd.heap_int .i64) HR2.out) (b1 GE740.out))); (case side2 => exact cv ((Kd.C_below HR3.out HB.out))); (case side3 => exact HC3.out); (case side4 => exact Kd.V_mk HC5.out (Kd.F_below (Kd.C_F (Kd.heap_int .i64) HR5.out) (b1 GE740.out))); rintro e w16 ⟨v742, rfl, ho0, hb⟩; refine ⟨_, rfl, ?_⟩; have HO743 := am (Kd.S_lower (Kd.S_mono (ok' := fun k_ => True) ho0 (fun _ hk_ => trivial)) (below_size (b1 GE740.out))); replace BK740 := am (blk_below (g := gb740) (o := .cells #[.slice none 0 0, .slice none 0 0] 33 (0, 0)) (mb BK740.out) hb); replace HB := am (below_step (b1 GE740.out) hb); (try clear hb); (try clear hb2); (try clear hk); (try clear hi); (try clear ho0)) | ((with_reducible refine gate_callee (f := 93) rfl ?_); refine goesL_ (some 33) rfl rfl Try.func93 (by kernel_rfl) rfl #[.int .i64 a0, .int .i64 a1, .slice A2 l2.length c2, .slice A4 l4.length c4, .slice A5 l5.length c5] rfl av ?_; (with_reducible refine (impl_climbMany.calls k a0 a1 (fun k_ => k_ < w.heap.size) _ _ l2 _ _ l4 (fun k_ => k_ < w.heap.size) _ _ l5 t745 true _ ?side1 ?side2 ?side3 ?side4 A8.out).mono ?_); (case side1 => exact Kd.V_mk HC2.out (Kd.F_below (Kd.C_F (Kd.heap_int .i64) HR2.out) (b1 GE740.out))); (case side2 => exact cv ((Kd.C_below HR4.out HB.out))); (case side3 => exact HC4.out); (case side4 => exact Kd.V_mk HC5.out (Kd.F_below (Kd.C_F (Kd.heap_int .i64) HR5.out) (b1 GE740.out))); rintro e w17 ⟨v746, rfl, ho0, hb⟩; refine ⟨_, rfl, ?_⟩; have HO747 := am (Kd.S_lower (Kd.S_new' (Kd.S_mono (ok' := fun k_ => True) ho0 (fun _ hk_ => trivial)) (Kd.S_lt (mv HO743.out))) (below_size (b1 GE740.out))); replace HO743 := am (Kd.S_elder' (mv HO743.out) (Kd.S_base ho0) hb); replace BK740 := am (blk_below (g := gb740) (o := .cells #[.slice none 0 0, .slice none 0 0] 33 (0, 0)) (mb BK740.out) hb); replace HB := am (below_step (b1 GE740.out) hb); (try clear hb); (try clear hb2); (try clear hk); (try clear hi); (try clear ho0); obtain ⟨Ao18, co18, eo18⟩ := Kd.S_slice HO743.out; subst eo18) | (go_at_call 69; (with_reducible refine (impl_lastOf.calls a0 _ _ t741 true t749 _ ?side1 ?side2 A11.out).mono ?_); (case side1 => exact cv ((Kd.S_reads' HO743.out).2.2)); (case side2 => exact (Kd.S_reads' HO743.out).2.1); rintro e w19 ⟨rfl, hb⟩; replace HO743 := am (Kd.S_below (mv HO743.out) hb); replace HO747 := am (Kd.S_below (mv HO747.out) hb); replace BK740 := am (blk_below (g := gb740) (o := .cells #[.slice none 0 0, .slice none 0 0] 33 (0, 0)) (mb BK740.out) hb); replace HB := am (below_step (b1 GE740.out) hb); (try clear hb); (try clear hb2); (try clear hk); (try clear hi); obtain ⟨Ao20, co20, eo20⟩ := Kd.S_slice HO747.out; subst eo20) | (go_at_call 69; (with_reducible refine (impl_lastOf.calls a0 _ _ t745 true t750 _ ?side1 ?side2 A12.out).mono ?_); (case side1 => exact cv ((Kd.S_reads' HO747.out).2.2)); (case side2 => exact (Kd.S_reads' HO747.out).2.1); rintro e w21 ⟨rfl, hb⟩; replace HO743 := am (Kd.S_below (mv HO743.out) hb); replace HO747 := am (Kd.S_below (mv HO747.out) hb); replace BK740 := am (blk_below (g := gb740) (o := .cells #[.slice none 0 0, .slice none 0 0] 33 (0, 0)) (mb BK740.out) hb); replace HB := am (below_step (b1 GE740.out) hb); (try clear hb); (try clear hb2); (try clear hk); (try clear hi)) | ((with_reducible refine gate_callee (f := 70) rfl ?_); refine goesL_ (some 54) rfl rfl Try.func70 (by kernel_rfl) rfl #[.slice Ao18 t741.length co18, .slice Ao20 t745.length co20] rfl av ?_; (with_reducible refine (impl_lastUnlike.calls k _ _ t741 _ _ t745 t751 t754 t757 _ ?side1 ?side2 ?side3 ?side4 A14.out).mono ?_); (case side1 => exact cv ((Kd.S_reads' HO743.out).2.2)); (case side2 => exact (Kd.S_reads' HO743.out).2.1); (case side3 => exact cv ((Kd.S_reads' HO747.out).2.2)); (case side4 => exact (Kd.S_reads' HO747.out).2.1); rintro e w22 ⟨v752, v755, rfl, ho0, ho1, hb⟩; refine ⟨_, rfl, ?_⟩; replace HO743 := am (Kd.S_mono (Kd.S_told (Kd.S_told (Kd.S_old (mv HO743.out) hb) (Kd.R_base ho0)) (Kd.R_base ho1)) (fun _ h_ => h_.1)); replace HO747 := am (Kd.S_mono (Kd.S_told (Kd.S_told (Kd.S_old (mv HO747.out) hb) (Kd.R_base ho0)) (Kd.R_base ho1)) (fun _ h_ => h_.1)); have HO753 := am (Kd.R_lower ho0 (below_size (b1 GE740.out))); have HO756 := am (Kd.R_lower ho1 (below_size (b1 GE740.out))); replace BK740 := am (blk_below (g := gb740) (o := .cells #[.slice none 0 0, .slice none 0 0] 33 (0, 0)) (mb BK740.out) hb); replace HB := am (below_step (b1 GE740.out) hb); (try clear hb); (try clear hb2); (try clear hk); (try clear hi); (try clear ho0); (try clear ho1); obtain ⟨Ao23, co23, eo23⟩ := Kd.R_slice HO753.out; subst eo23; have hcz24_0 : w22.cell? ⟨gb740, 0, none⟩ = some (.slice none 0 0) := (blk_cell BK740.out 0).trans rfl; have hcz24_1 : w22.cell? ⟨gb740, 1, none⟩ = some (.slice none 0 0) := (blk_cell BK740.out 1).trans rfl; have hfz24_0 := blk_frozen BK740.out 0; have hfz24_1 := blk_frozen BK740.out 1; obtain ⟨Ao25, co25, eo25⟩ := Kd.R_slice HO756.out; subst eo25))
    refine bodyPost_ret (results_ct rfl _ _ gb740 33 #[.slice Ao23 t751.length co23, .slice Ao25 t754.length co25] (0, 0) _ rfl (by (with_reducible repeat (first | refine blk_drewN ?_ _ | refine blk_drew ?_ | refine blk_alloc ?_ _)); refine blk_put (cs := #[.slice Ao23 t751.length co23, .slice none 0 0]) ?_ 1 _ rfl; (with_reducible repeat (first | refine blk_drewN ?_ _ | refine blk_drew ?_ | refine blk_alloc ?_ _)); refine blk_put (cs := #[.slice none 0 0, .slice none 0 0]) ?_ 0 _ rfl; (with_reducible repeat (first | refine blk_drewN ?_ _ | refine blk_drew ?_ | refine blk_alloc ?_ _)); exact BK740.out) Try.underlying33 rfl (by kernel_rfl)) rfl ?_
    exact ⟨_, _, by first | rfl | (simp [errW_none, errW_some] <;> rfl) | (simp [*, errW_none, errW_some] <;> rfl), rR (h := by exact Kd.R_mono (Kd.R_far (p := ⟨gb740, 1, none⟩) (Kd.R_far (p := ⟨gb740, 0, none⟩) (Kd.R_types HO753.out BK740.out (by decide)) (fun _ hk => hk.2) (.slice Ao23 t751.length co23)) (fun _ hk => hk.2) (.slice Ao25 t754.length co25)) (fun _ hk => hk.1)), rR (h := by exact Kd.R_mono (Kd.R_far (p := ⟨gb740, 1, none⟩) (Kd.R_far (p := ⟨gb740, 0, none⟩) (Kd.R_types HO756.out BK740.out (by decide)) (fun _ hk => hk.2) (.slice Ao23 t751.length co23)) (fun _ hk => hk.2) (.slice Ao25 t754.length co25)) (fun _ hk => hk.1)), b1 GE740.out⟩
   ·rw [if_neg c13] at H
    have c13b0 : (t749 == t750) = false := beq_eq_false_iff_ne.mpr c13
    have c13b1 : (t749 != t750) = true := bne_iff_ne.mpr c13
    simp only [Option.some.injEq, Prod.mk.injEq] at H
    obtain ⟨rfl, rfl, rfl⟩ := H
    go_enter Try.func45, Try.ntmps45
    go_wp2_with (first | ((with_reducible refine gate_dst (N := 12) rfl ?_); refine box_event ?hg (N := 12) ?hd (cs := #[.slice none 0 0, .slice none 0 0]) (t := 33) ?hr ?_; (case hd => rfl); (case hg => rfl); (case hr => first | (go_simp; done) | (go_simp; rfl)); intro gb740 hg w26 hbox hb; have BK740 := am (hbox); have GW740 := am ((by rw [hg]; exact (below_size (bt)) : w.heap.size ≤ gb740)); have GE740 := am ((by rw [hg]; exact (below_size (bt)) : w.heap.size ≤ gb740)); replace HB := am (below_step (bt) hb); clear hb hbox hg) | ((with_reducible refine gate_callee (f := 93) rfl ?_); refine goesL_ (some 24) rfl rfl Try.func93 (by kernel_rfl) rfl #[.int .i64 a0, .int .i64 a1, .slice A2 l2.length c2, .slice A3 l3.length c3, .slice A5 l5.length c5] rfl av ?_; (with_reducible refine (impl_climbMany.calls k a0 a1 (fun k_ => k_ < w.heap.size) _ _ l2 _ _ l3 (fun k_ => k_ < w.heap.size) _ _ l5 t741 true _ ?side1 ?side2 ?side3 ?side4 A7.out).mono ?_); (case side1 => exact Kd.V_mk HC2.out (Kd.F_below (Kd.C_F (Kd.heap_int .i64) HR2.out) (b1 GE740.out))); (case side2 => exact cv ((Kd.C_below HR3.out HB.out))); (case side3 => exact HC3.out); (case side4 => exact Kd.V_mk HC5.out (Kd.F_below (Kd.C_F (Kd.heap_int .i64) HR5.out) (b1 GE740.out))); rintro e w27 ⟨v742, rfl, ho0, hb⟩; refine ⟨_, rfl, ?_⟩; have HO743 := am (Kd.S_lower (Kd.S_mono (ok' := fun k_ => True) ho0 (fun _ hk_ => trivial)) (below_size (b1 GE740.out))); replace BK740 := am (blk_below (g := gb740) (o := .cells #[.slice none 0 0, .slice none 0 0] 33 (0, 0)) (mb BK740.out) hb); replace HB := am (below_step (b1 GE740.out) hb); (try clear hb); (try clear hb2); (try clear hk); (try clear hi); (try clear ho0)) | ((with_reducible refine gate_callee (f := 93) rfl ?_); refine goesL_ (some 33) rfl rfl Try.func93 (by kernel_rfl) rfl #[.int .i64 a0, .int .i64 a1, .slice A2 l2.length c2, .slice A4 l4.length c4, .slice A5 l5.length c5] rfl av ?_; (with_reducible refine (impl_climbMany.calls k a0 a1 (fun k_ => k_ < w.heap.size) _ _ l2 _ _ l4 (fun k_ => k_ < w.heap.size) _ _ l5 t745 true _ ?side1 ?side2 ?side3 ?side4 A8.out).mono ?_); (case side1 => exact Kd.V_mk HC2.out (Kd.F_below (Kd.C_F (Kd.heap_int .i64) HR2.out) (b1 GE740.out))); (case side2 => exact cv ((Kd.C_below HR4.out HB.out))); (case side3 => exact HC4.out); (case side4 => exact Kd.V_mk HC5.out (Kd.F_below (Kd.C_F (Kd.heap_int .i64) HR5.out) (b1 GE740.out))); rintro e w28 ⟨v746, rfl, ho0, hb⟩; refine ⟨_, rfl, ?_⟩; have HO747 := am (Kd.S_lower (Kd.S_new' (Kd.S_mono (ok' := fun k_ => True) ho0 (fun _ hk_ => trivial)) (Kd.S_lt (mv HO743.out))) (below_size (b1 GE740.out))); replace HO743 := am (Kd.S_elder' (mv HO743.out) (Kd.S_base ho0) hb); replace BK740 := am (blk_below (g := gb740) (o := .cells #[.slice none 0 0, .slice none 0 0] 33 (0, 0)) (mb BK740.out) hb); replace HB := am (below_step (b1 GE740.out) hb); (try clear hb); (try clear hb2); (try clear hk); (try clear hi); (try clear ho0); obtain ⟨Ao29, co29, eo29⟩ := Kd.S_slice HO743.out; subst eo29) | (go_at_call 69; (with_reducible refine (impl_lastOf.calls a0 _ _ t741 true t749 _ ?side1 ?side2 A11.out).mono ?_); (case side1 => exact cv ((Kd.S_reads' HO743.out).2.2)); (case side2 => exact (Kd.S_reads' HO743.out).2.1); rintro e w30 ⟨rfl, hb⟩; replace HO743 := am (Kd.S_below (mv HO743.out) hb); replace HO747 := am (Kd.S_below (mv HO747.out) hb); replace BK740 := am (blk_below (g := gb740) (o := .cells #[.slice none 0 0, .slice none 0 0] 33 (0, 0)) (mb BK740.out) hb); replace HB := am (below_step (b1 GE740.out) hb); (try clear hb); (try clear hb2); (try clear hk); (try clear hi); obtain ⟨Ao31, co31, eo31⟩ := Kd.S_slice HO747.out; subst eo31) | (go_at_call 69; (with_reducible refine (impl_lastOf.calls a0 _ _ t745 true t750 _ ?side1 ?side2 A12.out).mono ?_); (case side1 => exact cv ((Kd.S_reads' HO747.out).2.2)); (case side2 => exact (Kd.S_reads' HO747.out).2.1); rintro e w32 ⟨rfl, hb⟩; replace HO743 := am (Kd.S_below (mv HO743.out) hb); replace HO747 := am (Kd.S_below (mv HO747.out) hb); replace BK740 := am (blk_below (g := gb740) (o := .cells #[.slice none 0 0, .slice none 0 0] 33 (0, 0)) (mb BK740.out) hb); replace HB := am (below_step (b1 GE740.out) hb); (try clear hb); (try clear hb2); (try clear hk); (try clear hi); have hcz33_0 : w32.cell? ⟨gb740, 0, none⟩ = some (.slice none 0 0) := (blk_cell BK740.out 0).trans rfl; have hcz33_1 : w32.cell? ⟨gb740, 1, none⟩ = some (.slice none 0 0) := (blk_cell BK740.out 1).trans rfl; have hfz33_0 := blk_frozen BK740.out 0; have hfz33_1 := blk_frozen BK740.out 1))
    refine bodyPost_ret (results_ct rfl _ _ gb740 33 #[.slice none 0 0, .slice none 0 0] (0, 0) _ rfl (by (with_reducible repeat (first | refine blk_drewN ?_ _ | refine blk_drew ?_ | refine blk_alloc ?_ _)); refine blk_put (cs := #[.slice none 0 0, .slice none 0 0]) ?_ 1 _ rfl; (with_reducible repeat (first | refine blk_drewN ?_ _ | refine blk_drew ?_ | refine blk_alloc ?_ _)); refine blk_put (cs := #[.slice none 0 0, .slice none 0 0]) ?_ 0 _ rfl; (with_reducible repeat (first | refine blk_drewN ?_ _ | refine blk_drew ?_ | refine blk_alloc ?_ _)); exact BK740.out) Try.underlying33 rfl (by kernel_rfl)) rfl ?_
    exact ⟨_, _, by first | rfl | (simp [errW_none, errW_some] <;> rfl) | (simp [*, errW_none, errW_some] <;> rfl), by first | exact Kd.R_nil _ _ _ _ _ | exact Kd.N_nil _ _ _ _ _ | exact Kd.V_nil _ _ _ _ _ | exact Kd.Q_nil _ _ _ _ _ | exact Kd.S_nil _ _ _ _ _, by first | exact Kd.R_nil _ _ _ _ _ | exact Kd.N_nil _ _ _ _ _ | exact Kd.V_nil _ _ _ _ _ | exact Kd.Q_nil _ _ _ _ _ | exact Kd.S_nil _ _ _ _ _, b1 GE740.out⟩
  ·replace c10 := Bool.eq_false_iff.mpr c10
   subst c10
   rw [if_neg nft] at H
   simp only [Option.some.injEq, Prod.mk.injEq] at H
   obtain ⟨rfl, rfl, rfl⟩ := H
   go_enter Try.func45, Try.ntmps45
   go_wp2_with (first | ((with_reducible refine gate_dst (N := 12) rfl ?_); refine box_event ?hg (N := 12) ?hd (cs := #[.slice none 0 0, .slice none 0 0]) (t := 33) ?hr ?_; (case hd => rfl); (case hg => rfl); (case hr => first | (go_simp; done) | (go_simp; rfl)); intro gb740 hg w34 hbox hb; have BK740 := am (hbox); have GW740 := am ((by rw [hg]; exact (below_size (bt)) : w.heap.size ≤ gb740)); have GE740 := am ((by rw [hg]; exact (below_size (bt)) : w.heap.size ≤ gb740)); replace HB := am (below_step (bt) hb); clear hb hbox hg) | ((with_reducible refine gate_callee (f := 93) rfl ?_); refine goesL_ (some 24) rfl rfl Try.func93 (by kernel_rfl) rfl #[.int .i64 a0, .int .i64 a1, .slice A2 l2.length c2, .slice A3 l3.length c3, .slice A5 l5.length c5] rfl av ?_; (with_reducible refine (impl_climbMany.calls k a0 a1 (fun k_ => k_ < w.heap.size) _ _ l2 _ _ l3 (fun k_ => k_ < w.heap.size) _ _ l5 t741 true _ ?side1 ?side2 ?side3 ?side4 A7.out).mono ?_); (case side1 => exact Kd.V_mk HC2.out (Kd.F_below (Kd.C_F (Kd.heap_int .i64) HR2.out) (b1 GE740.out))); (case side2 => exact cv ((Kd.C_below HR3.out HB.out))); (case side3 => exact HC3.out); (case side4 => exact Kd.V_mk HC5.out (Kd.F_below (Kd.C_F (Kd.heap_int .i64) HR5.out) (b1 GE740.out))); rintro e w35 ⟨v742, rfl, ho0, hb⟩; refine ⟨_, rfl, ?_⟩; have HO743 := am (Kd.S_lower (Kd.S_mono (ok' := fun k_ => True) ho0 (fun _ hk_ => trivial)) (below_size (b1 GE740.out))); replace BK740 := am (blk_below (g := gb740) (o := .cells #[.slice none 0 0, .slice none 0 0] 33 (0, 0)) (mb BK740.out) hb); replace HB := am (below_step (b1 GE740.out) hb); (try clear hb); (try clear hb2); (try clear hk); (try clear hi); (try clear ho0)) | ((with_reducible refine gate_callee (f := 93) rfl ?_); refine goesL_ (some 33) rfl rfl Try.func93 (by kernel_rfl) rfl #[.int .i64 a0, .int .i64 a1, .slice A2 l2.length c2, .slice A4 l4.length c4, .slice A5 l5.length c5] rfl av ?_; (with_reducible refine (impl_climbMany.calls k a0 a1 (fun k_ => k_ < w.heap.size) _ _ l2 _ _ l4 (fun k_ => k_ < w.heap.size) _ _ l5 t745 false _ ?side1 ?side2 ?side3 ?side4 A8.out).mono ?_); (case side1 => exact Kd.V_mk HC2.out (Kd.F_below (Kd.C_F (Kd.heap_int .i64) HR2.out) (b1 GE740.out))); (case side2 => exact cv ((Kd.C_below HR4.out HB.out))); (case side3 => exact HC4.out); (case side4 => exact Kd.V_mk HC5.out (Kd.F_below (Kd.C_F (Kd.heap_int .i64) HR5.out) (b1 GE740.out))); rintro e w36 ⟨v746, rfl, ho0, hb⟩; refine ⟨_, rfl, ?_⟩; have HO747 := am (Kd.S_lower (Kd.S_new' (Kd.S_mono (ok' := fun k_ => True) ho0 (fun _ hk_ => trivial)) (Kd.S_lt (mv HO743.out))) (below_size (b1 GE740.out))); replace HO743 := am (Kd.S_elder' (mv HO743.out) (Kd.S_base ho0) hb); replace BK740 := am (blk_below (g := gb740) (o := .cells #[.slice none 0 0, .slice none 0 0] 33 (0, 0)) (mb BK740.out) hb); replace HB := am (below_step (b1 GE740.out) hb); (try clear hb); (try clear hb2); (try clear hk); (try clear hi); (try clear ho0); have hcz37_0 : w36.cell? ⟨gb740, 0, none⟩ = some (.slice none 0 0) := (blk_cell BK740.out 0).trans rfl; have hcz37_1 : w36.cell? ⟨gb740, 1, none⟩ = some (.slice none 0 0) := (blk_cell BK740.out 1).trans rfl; have hfz37_0 := blk_frozen BK740.out 0; have hfz37_1 := blk_frozen BK740.out 1))
   refine bodyPost_ret (results_ct rfl _ _ gb740 33 #[.slice none 0 0, .slice none 0 0] (0, 0) _ rfl (by (with_reducible repeat (first | refine blk_drewN ?_ _ | refine blk_drew ?_ | refine blk_alloc ?_ _)); refine blk_put (cs := #[.slice none 0 0, .slice none 0 0]) ?_ 1 _ rfl; (with_reducible repeat (first | refine blk_drewN ?_ _ | refine blk_drew ?_ | refine blk_alloc ?_ _)); refine blk_put (cs := #[.slice none 0 0, .slice none 0 0]) ?_ 0 _ rfl; (with_reducible repeat (first | refine blk_drewN ?_ _ | refine blk_drew ?_ | refine blk_alloc ?_ _)); exact BK740.out) Try.underlying33 rfl (by kernel_rfl)) rfl ?_
   exact ⟨_, _, by first | rfl | (simp [errW_none, errW_some] <;> rfl) | (simp [*, errW_none, errW_some] <;> rfl), by first | exact Kd.R_nil _ _ _ _ _ | exact Kd.N_nil _ _ _ _ _ | exact Kd.V_nil _ _ _ _ _ | exact Kd.Q_nil _ _ _ _ _ | exact Kd.S_nil _ _ _ _ _, by first | exact Kd.R_nil _ _ _ _ _ | exact Kd.N_nil _ _ _ _ _ | exact Kd.V_nil _ _ _ _ _ | exact Kd.Q_nil _ _ _ _ _ | exact Kd.S_nil _ _ _ _ _, b1 GE740.out⟩
 ·replace c9 := Bool.eq_false_iff.mpr c9
  subst c9
  rw [if_neg nft] at H
  simp only [Option.some.injEq, Prod.mk.injEq] at H
  obtain ⟨rfl, rfl, rfl⟩ := H
  go_enter Try.func45, Try.ntmps45
  go_wp2_with (first | ((with_reducible refine gate_dst (N := 12) rfl ?_); refine box_event ?hg (N := 12) ?hd (cs := #[.slice none 0 0, .slice none 0 0]) (t := 33) ?hr ?_; (case hd => rfl); (case hg => rfl); (case hr => first | (go_simp; done) | (go_simp; rfl)); intro gb740 hg w38 hbox hb; have BK740 := am (hbox); have GW740 := am ((by rw [hg]; exact (below_size (bt)) : w.heap.size ≤ gb740)); have GE740 := am ((by rw [hg]; exact (below_size (bt)) : w.heap.size ≤ gb740)); replace HB := am (below_step (bt) hb); clear hb hbox hg) | ((with_reducible refine gate_callee (f := 93) rfl ?_); refine goesL_ (some 24) rfl rfl Try.func93 (by kernel_rfl) rfl #[.int .i64 a0, .int .i64 a1, .slice A2 l2.length c2, .slice A3 l3.length c3, .slice A5 l5.length c5] rfl av ?_; (with_reducible refine (impl_climbMany.calls k a0 a1 (fun k_ => k_ < w.heap.size) _ _ l2 _ _ l3 (fun k_ => k_ < w.heap.size) _ _ l5 t741 false _ ?side1 ?side2 ?side3 ?side4 A7.out).mono ?_); (case side1 => exact Kd.V_mk HC2.out (Kd.F_below (Kd.C_F (Kd.heap_int .i64) HR2.out) (b1 GE740.out))); (case side2 => exact cv ((Kd.C_below HR3.out HB.out))); (case side3 => exact HC3.out); (case side4 => exact Kd.V_mk HC5.out (Kd.F_below (Kd.C_F (Kd.heap_int .i64) HR5.out) (b1 GE740.out))); rintro e w39 ⟨v742, rfl, ho0, hb⟩; refine ⟨_, rfl, ?_⟩; have HO743 := am (Kd.S_lower (Kd.S_mono (ok' := fun k_ => True) ho0 (fun _ hk_ => trivial)) (below_size (b1 GE740.out))); replace BK740 := am (blk_below (g := gb740) (o := .cells #[.slice none 0 0, .slice none 0 0] 33 (0, 0)) (mb BK740.out) hb); replace HB := am (below_step (b1 GE740.out) hb); (try clear hb); (try clear hb2); (try clear hk); (try clear hi); (try clear ho0)) | ((with_reducible refine gate_callee (f := 93) rfl ?_); refine goesL_ (some 33) rfl rfl Try.func93 (by kernel_rfl) rfl #[.int .i64 a0, .int .i64 a1, .slice A2 l2.length c2, .slice A4 l4.length c4, .slice A5 l5.length c5] rfl av ?_; (with_reducible refine (impl_climbMany.calls k a0 a1 (fun k_ => k_ < w.heap.size) _ _ l2 _ _ l4 (fun k_ => k_ < w.heap.size) _ _ l5 t745 t748 _ ?side1 ?side2 ?side3 ?side4 A8.out).mono ?_); (case side1 => exact Kd.V_mk HC2.out (Kd.F_below (Kd.C_F (Kd.heap_int .i64) HR2.out) (b1 GE740.out))); (case side2 => exact cv ((Kd.C_below HR4.out HB.out))); (case side3 => exact HC4.out); (case side4 => exact Kd.V_mk HC5.out (Kd.F_below (Kd.C_F (Kd.heap_int .i64) HR5.out) (b1 GE740.out))); rintro e w40 ⟨v746, rfl, ho0, hb⟩; refine ⟨_, rfl, ?_⟩; have HO747 := am (Kd.S_lower (Kd.S_new' (Kd.S_mono (ok' := fun k_ => True) ho0 (fun _ hk_ => trivial)) (Kd.S_lt (mv HO743.out))) (below_size (b1 GE740.out))); replace HO743 := am (Kd.S_elder' (mv HO743.out) (Kd.S_base ho0) hb); replace BK740 := am (blk_below (g := gb740) (o := .cells #[.slice none 0 0, .slice none 0 0] 33 (0, 0)) (mb BK740.out) hb); replace HB := am (below_step (b1 GE740.out) hb); (try clear hb); (try clear hb2); (try clear hk); (try clear hi); (try clear ho0); have hcz41_0 : w40.cell? ⟨gb740, 0, none⟩ = some (.slice none 0 0) := (blk_cell BK740.out 0).trans rfl; have hcz41_1 : w40.cell? ⟨gb740, 1, none⟩ = some (.slice none 0 0) := (blk_cell BK740.out 1).trans rfl; have hfz41_0 := blk_frozen BK740.out 0; have hfz41_1 := blk_frozen BK740.out 1))
  refine bodyPost_ret (results_ct rfl _ _ gb740 33 #[.slice none 0 0, .slice none 0 0] (0, 0) _ rfl (by (with_reducible repeat (first | refine blk_drewN ?_ _ | refine blk_drew ?_ | refine blk_alloc ?_ _)); refine blk_put (cs := #[.slice none 0 0, .slice none 0 0]) ?_ 1 _ rfl; (with_reducible repeat (first | refine blk_drewN ?_ _ | refine blk_drew ?_ | refine blk_alloc ?_ _)); refine blk_put (cs := #[.slice none 0 0, .slice none 0 0]) ?_ 0 _ rfl; (with_reducible repeat (first | refine blk_drewN ?_ _ | refine blk_drew ?_ | refine blk_alloc ?_ _)); exact BK740.out) Try.underlying33 rfl (by kernel_rfl)) rfl ?_
  exact ⟨_, _, by first | rfl | (simp [errW_none, errW_some] <;> rfl) | (simp [*, errW_none, errW_some] <;> rfl), by first | exact Kd.R_nil _ _ _ _ _ | exact Kd.N_nil _ _ _ _ _ | exact Kd.V_nil _ _ _ _ _ | exact Kd.Q_nil _ _ _ _ _ | exact Kd.S_nil _ _ _ _ _, by first | exact Kd.R_nil _ _ _ _ _ | exact Kd.N_nil _ _ _ _ _ | exact Kd.V_nil _ _ _ _ _ | exact Kd.Q_nil _ _ _ _ _ | exact Kd.S_nil _ _ _ _ _, b1 GE740.out⟩

end Go.Proofs.Ytchjajbkaiefdaa.PFnMany
