-- Written by a program of this workplace (wip/mp.py) out of the translation.
import Derived.Test.YtchjajbkaiefdaaPFnExactFirstLiarx0
import Derived.Test.YtchjajbkaiefdaaPFnExactFirstLiarx10
import Derived.Test.YtchjajbkaiefdaaPFnExactFirstLiarx11
namespace Go.Proofs.Ytchjajbkaiefdaa.PFnExactFirstLiar
open Go.RowKit Go.Proofs.YtchjajbkaiefdaaW.PrintWords Go.Proofs.YtchjajbkaiefdaaW.PrintLast Go.Proofs.YtchjajbkaiefdaaW.PrintMore Go.Proofs.Ytchjajbkaiefdaa.Slim
attribute [local go_sem] max2_int min2_int max_two min_two max_three min_three max_four min_four   -- for this text's walks alone
set_option linter.unusedVariables false
set_option linter.unusedSimpArgs false

/-! ### impl_lastUnlike: function 70 -/
def impl_lastUnlike.l0 : Nat → List (List Int) → List (List Int) → Int → Option (List Int × List Int × Bool)
 | 0, _, _, _ => none
 | k + 1, x0, x1, x6 => if x6 ≥ 0 then (if 0 ≤ x6 then (if x6 < (x0.length : Int) then (if x6 < (x1.length : Int) then ((bytes_Equal.f (rd_L1 x0 x6) (rd_L1 x1 x6)).bind fun t483 => (if t483 = true then (impl_lastUnlike.l0 k x0 x1 (wrap64 (x6 - 1))) else ((impl_pairOf.f (rd_L1 x0 x6) (rd_L1 x1 x6)).bind fun bt486 => (some (bt486.1, bt486.2, true))))) else (none)) else (none)) else (none)) else (some (([] : List Int), ([] : List Int), false))
def impl_lastUnlike.f (k : Nat) (l0 : List (List Int)) (l1 : List (List Int)) : Option (List Int × List Int × Bool) := impl_lastUnlike.l0 k l0 l1 (wrap64 ((l0.length : Int) - 1))
def impl_lastUnlike.T4 : Bool × List (List Nat × List Nat) := (true, [([], []), ([], []), ([0, 1], [0, 1]), ([2], [2]), ([], []), ([], []), ([4, 5], [4, 5]), ([6], [6]), ([3, 7], [3, 7]), ([8], [8])])
def impl_lastUnlike.B4 : List Nat := [0, 0, 3, 7, 0, 0, 48, 112, 255, 511]
theorem impl_lastUnlike.tab4 : rtab .any (opsOf Try.f70 4) = impl_lastUnlike.T4 := by kernel_rfl
theorem impl_lastUnlike.bits4 : waitsOk impl_lastUnlike.T4.2 impl_lastUnlike.B4 = true := by kernel_rfl
def impl_lastUnlike.T5 : Bool × List (List Nat × List Nat) := (true, [([], []), ([], []), ([0, 1], [0, 1]), ([2], [2]), ([], []), ([], []), ([4, 5], [4, 5]), ([6], [6]), ([3, 7], [3, 7]), ([8, 8, 0, 1, 2, 3, 4, 5, 6, 7, 8], [8]), ([9, 0, 1, 2, 3, 4, 5, 6, 7, 8, 9], [])])
def impl_lastUnlike.B5 : List Nat := [0, 0, 3, 7, 0, 0, 48, 112, 255, 511, 1023]
theorem impl_lastUnlike.tab5 : rtab .any (opsOf Try.f70 5) = impl_lastUnlike.T5 := by kernel_rfl
theorem impl_lastUnlike.bits5 : waitsOk impl_lastUnlike.T5.2 impl_lastUnlike.B5 = true := by kernel_rfl
set_option maxHeartbeats 8000000 in
set_option maxRecDepth 100000 in
theorem impl_lastUnlike.calls (k : Nat) (A0 : Option Addr) (c0 : Nat) (l0 : List (List Int)) (A1 : Option Addr) (c1 : Nat) (l1 : List (List Int)) (r1 : List Int) (r2 : List Int) (r3 : Bool) (w : World) (hr0 : Kd.C (Kd.slice 5 (Kd.int .u8)) w A0 l0.length l0) (hc0 : l0.length ≤ c0) (hr1 : Kd.C (Kd.slice 5 (Kd.int .u8)) w A1 l1.length l1) (hc1 : l1.length ≤ c1) (h : impl_lastUnlike.f k l0 l1 = some (r1, r2, r3)) :
  Calls Try.prog 70 #[.slice A0 l0.length c0, .slice A1 l1.length c1] w fun e w' => ∃ v0_ v1_ : Value, e = .returned (.tuple #[.agg #[v0_, v1_], .bool r3]) ∧ Kd.R (Kd.int .u8) 5 w' w.heap.size (fun k_ => some k_ ≠ (v1_ : Value).ownBlock) v0_ r1 ∧ Kd.R (Kd.int .u8) 5 w' w.heap.size (fun k_ => some k_ ≠ (v0_ : Value).ownBlock) v1_ r2 ∧ Below w.heap.size w w' := by
 have hu33 := Try.underlying33
 have HR0 := Aside0.mk hr0
 have HC0 := Aside0.mk hc0
 clear hr0 hc0
 have HR1 := Aside0.mk hr1
 have HC1 := Aside0.mk hc1
 clear hr1 hc1
 have HB := Aside0.mk (Below.refl w.heap.size w)
 have H : (impl_lastUnlike.l0 k l0 l1 (wrap64 ((l0.length : Int) - 1))) = some (r1, r2, r3) := h
 clear h
 have H' := Aside0.mk H
 clear H
 go_enter Try.func70, Try.ntmps70
 go_wp2_with (first | ((with_reducible refine gate_dst (N := 4) rfl ?_); refine box_event ?hg (N := 4) ?hd (cs := #[.slice none 0 0, .slice none 0 0]) (t := 33) ?hr ?_; (case hd => rfl); (case hg => rfl); (case hr => first | (go_simp; done) | (go_simp; rfl)); intro gb480 hg w3 hbox hb; have BK480 := Aside0.mk (hbox); have GW480 := Aside0.mk ((by rw [hg]; exact (below_size (bt)) : w.heap.size ≤ gb480)); have GE480 := Aside0.mk ((by rw [hg]; exact (below_size (bt)) : w.heap.size ≤ gb480)); replace HB := Aside0.mk (below_step (bt) hb); clear hb hbox hg))
 go_loopg [6] k (fun kq v6 w' => ∃ (x6_1 : Int), v6 = .int .i64 x6_1 ∧ Aside0 (impl_lastUnlike.l0 kq l0 l1 x6_1 = some (r1, r2, r3)) ∧ Aside0 (kq ≤ k) ∧ Aside0 (w'.heap[gb480]? = some (.cells #[(.slice none 0 0), (.slice none 0 0)] 33 (0, 0))) ∧ Aside0 (Below w.heap.size w w'))
 case atStart => exact ⟨(wrap64 ((l0.length : Int) - 1)), (by first | rfl | (simp; done) | (simp [*]; done)), H', ⟨Nat.le_refl _⟩, ⟨mb BK480.out⟩, ⟨b1 GE480.out⟩⟩
 case round =>
  clear H'
  try clear c1
  try clear p2
  obtain ⟨x6_1, rfl, HA, HK1, BK480, HB⟩ := hrel
  cases gk with
  | zero => exact absurd HA.out (by simp [impl_lastUnlike.l0])
  | succ k1 =>
   have H := HA.out
   clear HA
   simp only [impl_lastUnlike.l0] at H
   by_cases c4 : x6_1 ≥ 0
   ·rw [if_pos c4] at H
    have c4b0 : decide (0 ≤ x6_1) = true := decide_eq_true c4
    clear c4
    by_cases c5 : 0 ≤ x6_1
    ·rw [if_pos c5] at H
     have c5b0 : decide (0 ≤ x6_1) = true := decide_eq_true c5
     clear c5
     by_cases c6 : x6_1 < (l0.length : Int)
     ·rw [if_pos c6] at H
      have c6b0 : decide (x6_1 < (l0.length : Int)) = true := decide_eq_true c6
      clear c6
      by_cases c7 : x6_1 < (l1.length : Int)
      ·rw [if_pos c7] at H
       have c7b0 : decide (x6_1 < (l1.length : Int)) = true := decide_eq_true c7
       clear c7
       replace H := Option.bind_eq_some_iff.mp H
       obtain ⟨t483, A80, H⟩ := H
       (try dsimp -simprocs only at H)
       have A8 := Aside0.mk A80
       clear A80
       by_cases c9 : t483 = true
       ·subst c9
        rw [if_pos rfl] at H
        have H' := Aside0.mk H
        clear H
        try go_wp2
        have n0_ := Aside0.mk (blk_drew BK480.out)
        have n1_ := Aside0.mk (below_drew1 HB.out)
        clear BK480
        clear HB
        have BK480 := n0_
        have HB := n1_
        clear n0_ n1_
        have p481 : 0 ≤ (x6_1 : Int) := of_decide_eq_true asm
        have q481 : x6_1 < (l0.length : Int) := of_decide_eq_true asm
        obtain ⟨ad481, A481_0, c481_0, e481, hx481_0, hl481_0, hi481_0⟩ := at_L1 HR0.out x6_1 p481 q481
        have hw481_0 := hx481_0
        cases e481
        replace hx481_0 := (HB.out.cell (World.block_lt_of_cell? w _ hx481_0)).trans hx481_0
        have HR481_0 := Aside0.mk hi481_0
        have HC481_0 := Aside0.mk hl481_0
        clear hi481_0 hl481_0
        replace p481 := eq_true p481
        replace q481 := eq_true q481
        have p482 : 0 ≤ (x6_1 : Int) := of_decide_eq_true asm
        have q482 : x6_1 < (l1.length : Int) := of_decide_eq_true asm
        obtain ⟨ad482, A482_0, c482_0, e482, hx482_0, hl482_0, hi482_0⟩ := at_L1 HR1.out x6_1 p482 q482
        have hw482_0 := hx482_0
        cases e482
        replace hx482_0 := (HB.out.cell (World.block_lt_of_cell? w _ hx482_0)).trans hx482_0
        have HR482_0 := Aside0.mk hi482_0
        have HC482_0 := Aside0.mk hl482_0
        clear hi482_0 hl482_0
        replace p482 := eq_true p482
        replace q482 := eq_true q482
        refine start_ (n := 10) (S := fun w' => w'.cell? (ad481.add (x6_1).toNat) = some (.slice A481_0 (rd_L1 l0 x6_1).length c481_0) ∧ w'.cell? (ad482.add (x6_1).toNat) = some (.slice A482_0 (rd_L1 l1 x6_1).length c482_0)) (ds := []) #[false, false, false, false, false, false, false, false, false, false] (by kernel_rfl) rfl rfl ⟨((HB.out.cell (World.block_lt_of_cell? w _ hw481_0)).trans hw481_0), ((HB.out.cell (World.block_lt_of_cell? w _ hw482_0)).trans hw482_0)⟩ (fun hHeld => ?_); refine with_tabW impl_lastUnlike.tab4 impl_lastUnlike.bits4 (fun HT_ HW_ => ?_)
        generalize wr.drew = w10 at BK480 HB HR481_0 HR482_0 hx481_0 hx482_0 hHeld ⊢
        refine pz (i := 0) (N := some 14) #[true, false, false, false, false, false, false, false, false, false] rfl rfl HT_.out ?_
        refine pz (i := 1) (N := some 15) #[true, true, false, false, false, false, false, false, false, false] rfl rfl HT_.out ?_
        refine pz (i := 2) (N := some 16) #[true, true, true, false, false, false, false, false, false, false] rfl rfl HT_.out ?_
        refine pz (i := 4) (N := some 18) #[true, true, true, false, true, false, false, false, false, false] rfl rfl HT_.out ?_
        refine pz (i := 5) (N := some 19) #[true, true, true, false, true, true, false, false, false, false] rfl rfl HT_.out ?_
        refine pz (i := 6) (N := some 20) #[true, true, true, false, true, true, true, false, false, false] rfl rfl HT_.out ?_
        refine tz (i := 3) (N := some 17) #[true, true, true, true, true, true, true, false, false, false] rfl rfl HT_.out HW_.out hHeld (Or.inl ⟨by rfl, by rintro w' ⟨s0, s1⟩; go_simp; with_reducible rfl⟩) ?_
        refine tz (i := 7) (N := some 21) #[true, true, true, true, true, true, true, true, false, false] rfl rfl HT_.out HW_.out hHeld (Or.inl ⟨by rfl, by rintro w' ⟨s0, s1⟩; go_simp; with_reducible rfl⟩) ?_
        refine one_ (i := 8) (N := some 22) #[true, true, true, true, true, true, true, true, true, false] rfl rfl (one_of HT_.out (by kernel_rfl)) (by decide) (fun K hK => ?_)
        refine goes_ Try.func60 (by kernel_rfl) rfl #[.slice A481_0 (rd_L1 l0 x6_1).length c481_0, .slice A482_0 (rd_L1 l1 x6_1).length c482_0] (by rfl) rfl rfl av ?_
        with_reducible refine (bytes_Equal.calls _ _ (rd_L1 l0 x6_1) _ _ (rd_L1 l1 x6_1) true _ ?side1 ?side2 ?side3 ?side4 A8.out).mono ?_
        (case side1 => exact cv ((Kd.C_below HR481_0.out HB.out)))
        (case side2 => exact HC481_0.out)
        (case side3 => exact cv ((Kd.C_below HR482_0.out HB.out)))
        (case side4 => exact HC482_0.out)
        rintro e w' ⟨rfl, ⟨nd, rfl⟩⟩
        refine ⟨_, rfl, ?_⟩
        refine hK.out _ _ ⟨((HB.out.cell (World.block_lt_of_cell? w _ hw481_0)).trans hw481_0), ((HB.out.cell (World.block_lt_of_cell? w _ hw482_0)).trans hw482_0)⟩ (fun hHeld => ?_)
        clear hK K
        refine nz (N := some 22) ?_
        refine pz (i := 9) (N := some 23) #[true, true, true, true, true, true, true, true, true, true] rfl rfl HT_.out ?_
        refine done_ (done_of HT_.out (by kernel_rfl)) ?_
        (try simp only [Dig.setCell_drewN])
        try go_wp2
        go_roundg k1
        case measure => have := HK1.out; omega
        case rel => exact ⟨(wrap64 (x6_1 - 1)), (by first | rfl | (simp; done) | (simp [*]; done)), H', ⟨by have := HK1.out; omega⟩, ⟨mb BK480.out⟩, ⟨b1 GE480.out⟩⟩
       ·replace c9 := Bool.eq_false_iff.mpr c9
        subst c9
        rw [if_neg (show ¬ (false = true) by decide)] at H
        replace H := Option.bind_eq_some_iff.mp H
        obtain ⟨⟨t486, t489⟩, A110, H⟩ := H
        (try dsimp -simprocs only at H)
        have A11 := Aside0.mk A110
        clear A110
        simp only [Option.some.injEq, Prod.mk.injEq] at H
        obtain ⟨rfl, rfl, rfl⟩ := H
        try go_wp2
        have n0_ := Aside0.mk (blk_drew BK480.out)
        have n1_ := Aside0.mk (below_drew1 HB.out)
        clear BK480
        clear HB
        have BK480 := n0_
        have HB := n1_
        clear n0_ n1_
        have p481 : 0 ≤ (x6_1 : Int) := of_decide_eq_true asm
        have q481 : x6_1 < (l0.length : Int) := of_decide_eq_true asm
        obtain ⟨ad481, A481_0, c481_0, e481, hx481_0, hl481_0, hi481_0⟩ := at_L1 HR0.out x6_1 p481 q481
        have hw481_0 := hx481_0
        cases e481
        replace hx481_0 := (HB.out.cell (World.block_lt_of_cell? w _ hx481_0)).trans hx481_0
        have HR481_0 := Aside0.mk hi481_0
        have HC481_0 := Aside0.mk hl481_0
        clear hi481_0 hl481_0
        replace p481 := eq_true p481
        replace q481 := eq_true q481
        have p482 : 0 ≤ (x6_1 : Int) := of_decide_eq_true asm
        have q482 : x6_1 < (l1.length : Int) := of_decide_eq_true asm
        obtain ⟨ad482, A482_0, c482_0, e482, hx482_0, hl482_0, hi482_0⟩ := at_L1 HR1.out x6_1 p482 q482
        have hw482_0 := hx482_0
        cases e482
        replace hx482_0 := (HB.out.cell (World.block_lt_of_cell? w _ hx482_0)).trans hx482_0
        have HR482_0 := Aside0.mk hi482_0
        have HC482_0 := Aside0.mk hl482_0
        clear hi482_0 hl482_0
        replace p482 := eq_true p482
        replace q482 := eq_true q482
        refine start_ (n := 10) (S := fun w' => w'.cell? (ad481.add (x6_1).toNat) = some (.slice A481_0 (rd_L1 l0 x6_1).length c481_0) ∧ w'.cell? (ad482.add (x6_1).toNat) = some (.slice A482_0 (rd_L1 l1 x6_1).length c482_0)) (ds := []) #[false, false, false, false, false, false, false, false, false, false] (by kernel_rfl) rfl rfl ⟨((HB.out.cell (World.block_lt_of_cell? w _ hw481_0)).trans hw481_0), ((HB.out.cell (World.block_lt_of_cell? w _ hw482_0)).trans hw482_0)⟩ (fun hHeld => ?_); refine with_tabW impl_lastUnlike.tab4 impl_lastUnlike.bits4 (fun HT_ HW_ => ?_)
        generalize wr.drew = w12 at BK480 HB HR481_0 HR482_0 hx481_0 hx482_0 hHeld ⊢
        refine pz (i := 0) (N := some 14) #[true, false, false, false, false, false, false, false, false, false] rfl rfl HT_.out ?_
        refine pz (i := 1) (N := some 15) #[true, true, false, false, false, false, false, false, false, false] rfl rfl HT_.out ?_
        refine pz (i := 2) (N := some 16) #[true, true, true, false, false, false, false, false, false, false] rfl rfl HT_.out ?_
        refine pz (i := 4) (N := some 18) #[true, true, true, false, true, false, false, false, false, false] rfl rfl HT_.out ?_
        refine pz (i := 5) (N := some 19) #[true, true, true, false, true, true, false, false, false, false] rfl rfl HT_.out ?_
        refine pz (i := 6) (N := some 20) #[true, true, true, false, true, true, true, false, false, false] rfl rfl HT_.out ?_
        refine tz (i := 3) (N := some 17) #[true, true, true, true, true, true, true, false, false, false] rfl rfl HT_.out HW_.out hHeld (Or.inl ⟨by rfl, by rintro w' ⟨s0, s1⟩; go_simp; with_reducible rfl⟩) ?_
        refine tz (i := 7) (N := some 21) #[true, true, true, true, true, true, true, true, false, false] rfl rfl HT_.out HW_.out hHeld (Or.inl ⟨by rfl, by rintro w' ⟨s0, s1⟩; go_simp; with_reducible rfl⟩) ?_
        refine one_ (i := 8) (N := some 22) #[true, true, true, true, true, true, true, true, true, false] rfl rfl (one_of HT_.out (by kernel_rfl)) (by decide) (fun K hK => ?_)
        refine goes_ Try.func60 (by kernel_rfl) rfl #[.slice A481_0 (rd_L1 l0 x6_1).length c481_0, .slice A482_0 (rd_L1 l1 x6_1).length c482_0] (by rfl) rfl rfl av ?_
        with_reducible refine (bytes_Equal.calls _ _ (rd_L1 l0 x6_1) _ _ (rd_L1 l1 x6_1) false _ ?side1 ?side2 ?side3 ?side4 A8.out).mono ?_
        (case side1 => exact cv ((Kd.C_below HR481_0.out HB.out)))
        (case side2 => exact HC481_0.out)
        (case side3 => exact cv ((Kd.C_below HR482_0.out HB.out)))
        (case side4 => exact HC482_0.out)
        rintro e w' ⟨rfl, ⟨nd, rfl⟩⟩
        refine ⟨_, rfl, ?_⟩
        refine hK.out _ _ ⟨((HB.out.cell (World.block_lt_of_cell? w _ hw481_0)).trans hw481_0), ((HB.out.cell (World.block_lt_of_cell? w _ hw482_0)).trans hw482_0)⟩ (fun hHeld => ?_)
        clear hK K
        refine nz (N := some 22) ?_
        refine pz (i := 9) (N := some 23) #[true, true, true, true, true, true, true, true, true, true] rfl rfl HT_.out ?_
        refine done_ (done_of HT_.out (by kernel_rfl)) ?_
        (try simp only [Dig.setCell_drewN])
        try go_wp2
        (try (rw [drewN_self w12]; generalize hq_ : World.drewN w12 _ = w12; have n0_ : Aside0 (w12.heap[gb480]? = some (.cells #[.slice none 0 0, .slice none 0 0] 33 (0, 0))) := ⟨by rw [← hq_]; exact (mb BK480.out)⟩; have n1_ : Aside0 (Below w.heap.size w w12) := ⟨by rw [← hq_]; exact (b1 GE480.out)⟩; clear BK480 HB hq_; have BK480 := n0_; have HB := n1_; clear n0_ n1_))
        have n0_ := Aside0.mk (blk_drew BK480.out)
        have n1_ := Aside0.mk (below_drew1 HB.out)
        clear BK480
        clear HB
        have BK480 := n0_
        have HB := n1_
        clear n0_ n1_
        have p484 : 0 ≤ (x6_1 : Int) := of_decide_eq_true asm
        have q484 : x6_1 < (l0.length : Int) := of_decide_eq_true asm
        obtain ⟨ad484, A484_0, c484_0, e484, hx484_0, hl484_0, hi484_0⟩ := at_L1 HR0.out x6_1 p484 q484
        have hw484_0 := hx484_0
        obtain rfl : ad481 = ad484 := (by injection e484)
        replace hx484_0 := (HB.out.cell (World.block_lt_of_cell? w _ hx484_0)).trans hx484_0
        have HR484_0 := Aside0.mk hi484_0
        have HC484_0 := Aside0.mk hl484_0
        clear hi484_0 hl484_0
        replace p484 := eq_true p484
        replace q484 := eq_true q484
        have p485 : 0 ≤ (x6_1 : Int) := of_decide_eq_true asm
        have q485 : x6_1 < (l1.length : Int) := of_decide_eq_true asm
        obtain ⟨ad485, A485_0, c485_0, e485, hx485_0, hl485_0, hi485_0⟩ := at_L1 HR1.out x6_1 p485 q485
        have hw485_0 := hx485_0
        obtain rfl : ad482 = ad485 := (by injection e485)
        replace hx485_0 := (HB.out.cell (World.block_lt_of_cell? w _ hx485_0)).trans hx485_0
        have HR485_0 := Aside0.mk hi485_0
        have HC485_0 := Aside0.mk hl485_0
        clear hi485_0 hl485_0
        replace p485 := eq_true p485
        replace q485 := eq_true q485
        refine start_ (n := 11) (S := fun w' => w'.cell? (ad481.add (x6_1).toNat) = some (.slice A484_0 (rd_L1 l0 x6_1).length c484_0) ∧ w'.cell? (ad482.add (x6_1).toNat) = some (.slice A485_0 (rd_L1 l1 x6_1).length c485_0)) (ds := []) #[false, false, false, false, false, false, false, false, false, false, false] (by kernel_rfl) rfl rfl ⟨((HB.out.cell (World.block_lt_of_cell? w _ hw484_0)).trans hw484_0), ((HB.out.cell (World.block_lt_of_cell? w _ hw485_0)).trans hw485_0)⟩ (fun hHeld => ?_); refine with_tabW impl_lastUnlike.tab5 impl_lastUnlike.bits5 (fun HT_ HW_ => ?_)
        generalize w12.drew = w13 at BK480 HB HR484_0 HR485_0 hx484_0 hx485_0 hHeld ⊢
        refine pz (i := 0) (N := some 24) #[true, false, false, false, false, false, false, false, false, false, false] rfl rfl HT_.out ?_
        refine pz (i := 1) (N := some 25) #[true, true, false, false, false, false, false, false, false, false, false] rfl rfl HT_.out ?_
        refine pz (i := 2) (N := some 26) #[true, true, true, false, false, false, false, false, false, false, false] rfl rfl HT_.out ?_
        refine pz (i := 4) (N := some 28) #[true, true, true, false, true, false, false, false, false, false, false] rfl rfl HT_.out ?_
        refine pz (i := 5) (N := some 29) #[true, true, true, false, true, true, false, false, false, false, false] rfl rfl HT_.out ?_
        refine pz (i := 6) (N := some 30) #[true, true, true, false, true, true, true, false, false, false, false] rfl rfl HT_.out ?_
        refine tz (i := 3) (N := some 27) #[true, true, true, true, true, true, true, false, false, false, false] rfl rfl HT_.out HW_.out hHeld (Or.inl ⟨by rfl, by rintro w' ⟨s0, s1⟩; go_simp; with_reducible rfl⟩) ?_
        refine tz (i := 7) (N := some 31) #[true, true, true, true, true, true, true, true, false, false, false] rfl rfl HT_.out HW_.out hHeld (Or.inl ⟨by rfl, by rintro w' ⟨s0, s1⟩; go_simp; with_reducible rfl⟩) ?_
        refine one_ (i := 8) (N := some 32) #[true, true, true, true, true, true, true, true, true, false, false] rfl rfl (one_of HT_.out (by kernel_rfl)) (by decide) (fun K hK => ?_)
        refine goes_ Try.func71 (by kernel_rfl) rfl #[.slice A484_0 (rd_L1 l0 x6_1).length c484_0, .slice A485_0 (rd_L1 l1 x6_1).length c485_0] (by rfl) rfl rfl av ?_
        with_reducible refine (impl_pairOf.calls _ _ (rd_L1 l0 x6_1) _ _ (rd_L1 l1 x6_1) t486 t489 _ ?side1 ?side2 ?side3 ?side4 A11.out).mono ?_
        (case side1 => exact cv ((Kd.C_below HR484_0.out HB.out)))
        (case side2 => exact HC484_0.out)
        (case side3 => exact cv ((Kd.C_below HR485_0.out HB.out)))
        (case side4 => exact HC485_0.out)
        rintro e w14 ⟨v487, v490, rfl, ho0, ho1, hb⟩
        refine ⟨_, rfl, ?_⟩
        have n0_ := Aside0.mk (Kd.R_lower ho0 (below_size (b1 GE480.out)))
        have n1_ := Aside0.mk (Kd.R_lower ho1 (below_size (b1 GE480.out)))
        have n2_ := Aside0.mk (blk_below (g := gb480) (o := .cells #[.slice none 0 0, .slice none 0 0] 33 (0, 0)) (mb BK480.out) hb)
        have n3_ := Aside0.mk (below_step (b1 GE480.out) hb)
        clear BK480
        clear HB
        have HO488 := n0_
        have HO491 := n1_
        have BK480 := n2_
        have HB := n3_
        clear n0_ n1_ n2_ n3_
        (try clear hb)
        (try clear hb2)
        (try clear hk)
        (try clear hi)
        (try clear ho0)
        (try clear ho1)
        obtain ⟨Ao15, co15, eo15⟩ := Kd.R_slice HO488.out
        (first | subst eo15 | (injection eo15 with f1_ f2_ f3_; have f4_ := f1_.symm; have f5_ := f3_.symm; clear f1_ f2_ f3_; subst f4_; subst f5_))
        obtain ⟨Ao17, co17, eo17⟩ := Kd.R_slice HO491.out
        (first | subst eo17 | (injection eo17 with f1_ f2_ f3_; have f4_ := f1_.symm; have f5_ := f3_.symm; clear f1_ f2_ f3_; subst f4_; subst f5_))
        refine hK.out _ _ ⟨((HB.out.cell (World.block_lt_of_cell? w _ hw484_0)).trans hw484_0), ((HB.out.cell (World.block_lt_of_cell? w _ hw485_0)).trans hw485_0)⟩ (fun hHeld => ?_)
        clear hK K
        refine nz (N := some 32) ?_
        refine one_ (i := 9) (N := none) #[true, true, true, true, true, true, true, true, true, true, false] rfl rfl (one_of HT_.out (by kernel_rfl)) (by decide) (fun K hK => ?_)
        have hs16 : w14.cell? ⟨gb480, 0, none⟩ = some (.slice none 0 0) := (blk_cell BK480.out 0).trans rfl
        have hfs16 := blk_frozen BK480.out 0
        have hs18 : w14.cell? ⟨gb480, 1, none⟩ = some (.slice none 0 0) := (blk_cell BK480.out 1).trans rfl
        have hfs18 := blk_frozen BK480.out 1
        refine skip_ (w1 := ?_) (by rfl) rfl ?_ ?_
        rotate_left
        ·go_simp
         rfl
        refine hK.out _ _ ⟨((cell_far (p := ⟨gb480, _, none⟩) (by first | exact Nat.ne_of_lt (Nat.lt_of_lt_of_le (by have := World.block_lt_of_cell? _ _ hw484_0; first | rwa [add_block] at this | exact this) GW480.out) | (rw [add_block]; exact Nat.ne_of_lt (Nat.lt_of_lt_of_le (by have := World.block_lt_of_cell? _ _ hw484_0; first | rwa [add_block] at this | exact this) GW480.out)) | (show (Addr.add _ _).block ≠ _; rw [add_block]; exact Nat.ne_of_lt (Nat.lt_of_lt_of_le (by have := World.block_lt_of_cell? _ _ hw484_0; first | rwa [add_block] at this | exact this) GW480.out)) | (dsimp only; exact Nat.ne_of_lt (Nat.lt_of_lt_of_le (by have := World.block_lt_of_cell? _ _ hw484_0; first | rwa [add_block] at this | exact this) GW480.out))) _).trans (((cell_far (p := ⟨gb480, _, none⟩) (by first | exact Nat.ne_of_lt (Nat.lt_of_lt_of_le (by have := World.block_lt_of_cell? _ _ hw484_0; first | rwa [add_block] at this | exact this) GW480.out) | (rw [add_block]; exact Nat.ne_of_lt (Nat.lt_of_lt_of_le (by have := World.block_lt_of_cell? _ _ hw484_0; first | rwa [add_block] at this | exact this) GW480.out)) | (show (Addr.add _ _).block ≠ _; rw [add_block]; exact Nat.ne_of_lt (Nat.lt_of_lt_of_le (by have := World.block_lt_of_cell? _ _ hw484_0; first | rwa [add_block] at this | exact this) GW480.out)) | (dsimp only; exact Nat.ne_of_lt (Nat.lt_of_lt_of_le (by have := World.block_lt_of_cell? _ _ hw484_0; first | rwa [add_block] at this | exact this) GW480.out))) _).trans (hHeld.1)))), ((cell_far (p := ⟨gb480, _, none⟩) (by first | exact Nat.ne_of_lt (Nat.lt_of_lt_of_le (by have := World.block_lt_of_cell? _ _ hw485_0; first | rwa [add_block] at this | exact this) GW480.out) | (rw [add_block]; exact Nat.ne_of_lt (Nat.lt_of_lt_of_le (by have := World.block_lt_of_cell? _ _ hw485_0; first | rwa [add_block] at this | exact this) GW480.out)) | (show (Addr.add _ _).block ≠ _; rw [add_block]; exact Nat.ne_of_lt (Nat.lt_of_lt_of_le (by have := World.block_lt_of_cell? _ _ hw485_0; first | rwa [add_block] at this | exact this) GW480.out)) | (dsimp only; exact Nat.ne_of_lt (Nat.lt_of_lt_of_le (by have := World.block_lt_of_cell? _ _ hw485_0; first | rwa [add_block] at this | exact this) GW480.out))) _).trans (((cell_far (p := ⟨gb480, _, none⟩) (by first | exact Nat.ne_of_lt (Nat.lt_of_lt_of_le (by have := World.block_lt_of_cell? _ _ hw485_0; first | rwa [add_block] at this | exact this) GW480.out) | (rw [add_block]; exact Nat.ne_of_lt (Nat.lt_of_lt_of_le (by have := World.block_lt_of_cell? _ _ hw485_0; first | rwa [add_block] at this | exact this) GW480.out)) | (show (Addr.add _ _).block ≠ _; rw [add_block]; exact Nat.ne_of_lt (Nat.lt_of_lt_of_le (by have := World.block_lt_of_cell? _ _ hw485_0; first | rwa [add_block] at this | exact this) GW480.out)) | (dsimp only; exact Nat.ne_of_lt (Nat.lt_of_lt_of_le (by have := World.block_lt_of_cell? _ _ hw485_0; first | rwa [add_block] at this | exact this) GW480.out))) _).trans (hHeld.2))))⟩ (fun hHeld => ?_)
        clear hK K
        refine pz (i := 10) (N := some 5) #[true, true, true, true, true, true, true, true, true, true, true] rfl rfl HT_.out ?_
        refine done_ (done_of HT_.out (by kernel_rfl)) ?_
        (try simp only [Dig.setCell_drewN])
        try go_wp2
        refine bodyPost_ret (results_ct rfl _ _ gb480 33 #[.slice Ao15 t486.length co15, .slice Ao17 t489.length co17] (0, 0) _ rfl (by (with_reducible repeat (first | refine blk_drewN ?_ _ | refine blk_drew ?_ | refine blk_alloc ?_ _)); refine blk_put (cs := #[.slice Ao15 t486.length co15, .slice none 0 0]) ?_ 1 _ rfl; (with_reducible repeat (first | refine blk_drewN ?_ _ | refine blk_drew ?_ | refine blk_alloc ?_ _)); refine blk_put (cs := #[.slice none 0 0, .slice none 0 0]) ?_ 0 _ rfl; (with_reducible repeat (first | refine blk_drewN ?_ _ | refine blk_drew ?_ | refine blk_alloc ?_ _)); exact BK480.out) Try.underlying33 rfl (by kernel_rfl)) rfl ?_
        exact ⟨_, _, by first | rfl | (simp [errW_none, errW_some] <;> rfl) | (simp [*, errW_none, errW_some] <;> rfl), by (with_reducible repeat (first | apply Kd.R_alloc | apply Kd.R_drewN | apply Kd.R_drew)); exact Kd.R_mono (Kd.R_far (p := ⟨gb480, 1, none⟩) (Kd.R_far (p := ⟨gb480, 0, none⟩) (Kd.R_types HO488.out BK480.out (by decide)) (fun _ hk => hk.2) (.slice Ao15 t486.length co15)) (fun _ hk => hk.2) (.slice Ao17 t489.length co17)) (fun _ hk => hk.1), by (with_reducible repeat (first | apply Kd.R_alloc | apply Kd.R_drewN | apply Kd.R_drew)); exact Kd.R_mono (Kd.R_far (p := ⟨gb480, 1, none⟩) (Kd.R_far (p := ⟨gb480, 0, none⟩) (Kd.R_types HO491.out BK480.out (by decide)) (fun _ hk => hk.2) (.slice Ao15 t486.length co15)) (fun _ hk => hk.2) (.slice Ao17 t489.length co17)) (fun _ hk => hk.1), b1 GE480.out⟩
      ·rw [if_neg c7] at H
       exact absurd H (by simp)
     ·rw [if_neg c6] at H
      exact absurd H (by simp)
    ·rw [if_neg c5] at H
     exact absurd H (by simp)
   ·rw [if_neg c4] at H
    have c4b0 : decide (0 ≤ x6_1) = false := decide_eq_false c4
    clear c4
    simp only [Option.some.injEq, Prod.mk.injEq] at H
    obtain ⟨rfl, rfl, rfl⟩ := H
    have hcz19_0 : wr.cell? ⟨gb480, 0, none⟩ = some (.slice none 0 0) := (blk_cell BK480.out 0).trans rfl
    have hcz19_1 : wr.cell? ⟨gb480, 1, none⟩ = some (.slice none 0 0) := (blk_cell BK480.out 1).trans rfl
    have hfz19_0 := blk_frozen BK480.out 0
    have hfz19_1 := blk_frozen BK480.out 1
    go_wp2
    refine bodyPost_ret (results_ct rfl _ _ gb480 33 #[.slice none 0 0, .slice none 0 0] (0, 0) _ rfl (by (with_reducible repeat (first | refine blk_drewN ?_ _ | refine blk_drew ?_ | refine blk_alloc ?_ _)); refine blk_put (cs := #[.slice none 0 0, .slice none 0 0]) ?_ 1 _ rfl; (with_reducible repeat (first | refine blk_drewN ?_ _ | refine blk_drew ?_ | refine blk_alloc ?_ _)); refine blk_put (cs := #[.slice none 0 0, .slice none 0 0]) ?_ 0 _ rfl; (with_reducible repeat (first | refine blk_drewN ?_ _ | refine blk_drew ?_ | refine blk_alloc ?_ _)); exact BK480.out) Try.underlying33 rfl (by kernel_rfl)) rfl ?_
    exact ⟨_, _, by first | rfl | (simp [errW_none, errW_some] <;> rfl) | (simp [*, errW_none, errW_some] <;> rfl), by first | exact Kd.R_nil _ _ _ _ _ | exact Kd.N_nil _ _ _ _ _ | exact Kd.V_nil _ _ _ _ _ | exact Kd.Q_nil _ _ _ _ _ | exact Kd.S_nil _ _ _ _ _, by first | exact Kd.R_nil _ _ _ _ _ | exact Kd.N_nil _ _ _ _ _ | exact Kd.V_nil _ _ _ _ _ | exact Kd.Q_nil _ _ _ _ _ | exact Kd.S_nil _ _ _ _ _, b1 GE480.out⟩

/-! ### impl_FromPaths: function 21 -/
def impl_FromPaths.f (k : Nat) (a0 : Int) (a1 : Int) (a2 : Int) (l3 : List Int) (l4 : List Int) (l5 : List Int) (l6 : List Int) : Option (List Int × List Int × Bool) := (impl_climb.f k a0 a1 a2 l3 l4).bind fun bt493 => ((impl_climb.f k a0 a1 a2 l5 l6).bind fun bt497 => (if bt493.2 = true then (if bt497.2 = true then ((impl_lastOf.f a0 bt493.1 true).bind fun t501 => ((impl_lastOf.f a0 bt497.1 true).bind fun t502 => (if t501 = t502 then ((impl_lastUnlike.f k bt493.1 bt497.1).bind fun bt503 => (some (bt503.1, bt503.2.1, bt503.2.2))) else (some (([] : List Int), ([] : List Int), false))))) else (some (([] : List Int), ([] : List Int), false))) else (some (([] : List Int), ([] : List Int), false))))
set_option maxHeartbeats 8000000 in
set_option maxRecDepth 100000 in
theorem impl_FromPaths.calls (k : Nat) (a0 : Int) (a1 : Int) (a2 : Int) (A3 : Option Addr) (c3 : Nat) (l3 : List Int) (A4 : Option Addr) (c4 : Nat) (l4 : List Int) (A5 : Option Addr) (c5 : Nat) (l5 : List Int) (A6 : Option Addr) (c6 : Nat) (l6 : List Int) (r1 : List Int) (r2 : List Int) (r3 : Bool) (w : World) (hr3 : Kd.C (Kd.int .u8) w A3 l3.length l3) (hc3 : l3.length ≤ c3) (hr4 : Kd.C (Kd.int .i64) w A4 l4.length l4) (hc4 : l4.length ≤ c4) (hr5 : Kd.C (Kd.int .u8) w A5 l5.length l5) (hc5 : l5.length ≤ c5) (hr6 : Kd.C (Kd.int .i64) w A6 l6.length l6) (hc6 : l6.length ≤ c6) (h : impl_FromPaths.f k a0 a1 a2 l3 l4 l5 l6 = some (r1, r2, r3)) :
  Calls Try.prog 21 #[.int .i64 a0, .int .i64 a1, .int .i64 a2, .slice A3 l3.length c3, .slice A4 l4.length c4, .slice A5 l5.length c5, .slice A6 l6.length c6] w fun e w' => ∃ v0_ v1_ : Value, e = .returned (.tuple #[.agg #[v0_, v1_], .bool r3]) ∧ Kd.R (Kd.int .u8) 5 w' w.heap.size (fun k_ => some k_ ≠ (v1_ : Value).ownBlock) v0_ r1 ∧ Kd.R (Kd.int .u8) 5 w' w.heap.size (fun k_ => some k_ ≠ (v0_ : Value).ownBlock) v1_ r2 ∧ Below w.heap.size w w' := by
 have hu33 := Try.underlying33
 have HR3 := Aside0.mk hr3
 have HC3 := Aside0.mk hc3
 clear hr3 hc3
 have HR4 := Aside0.mk hr4
 have HC4 := Aside0.mk hc4
 clear hr4 hc4
 have HR5 := Aside0.mk hr5
 have HC5 := Aside0.mk hc5
 clear hr5 hc5
 have HR6 := Aside0.mk hr6
 have HC6 := Aside0.mk hc6
 clear hr6 hc6
 have HB := Aside0.mk (Below.refl w.heap.size w)
 have H : ((impl_climb.f k a0 a1 a2 l3 l4).bind fun bt493 => ((impl_climb.f k a0 a1 a2 l5 l6).bind fun bt497 => (if bt493.2 = true then (if bt497.2 = true then ((impl_lastOf.f a0 bt493.1 true).bind fun t501 => ((impl_lastOf.f a0 bt497.1 true).bind fun t502 => (if t501 = t502 then ((impl_lastUnlike.f k bt493.1 bt497.1).bind fun bt503 => (some (bt503.1, bt503.2.1, bt503.2.2))) else (some (([] : List Int), ([] : List Int), false))))) else (some (([] : List Int), ([] : List Int), false))) else (some (([] : List Int), ([] : List Int), false))))) = some (r1, r2, r3) := h
 clear h
 replace H := Option.bind_eq_some_iff.mp H
 obtain ⟨⟨t493, t496⟩, A80, H⟩ := H
 (try dsimp -simprocs only at H)
 have A8 := Aside0.mk A80
 clear A80
 replace H := Option.bind_eq_some_iff.mp H
 obtain ⟨⟨t497, t500⟩, A90, H⟩ := H
 (try dsimp -simprocs only at H)
 have A9 := Aside0.mk A90
 clear A90
 by_cases c10 : t496 = true
 ·subst c10
  rw [if_pos rfl] at H
  by_cases c11 : t500 = true
  ·subst c11
   rw [if_pos rfl] at H
   replace H := Option.bind_eq_some_iff.mp H
   obtain ⟨t501, A120, H⟩ := H
   (try dsimp -simprocs only at H)
   have A12 := Aside0.mk A120
   clear A120
   replace H := Option.bind_eq_some_iff.mp H
   obtain ⟨t502, A130, H⟩ := H
   (try dsimp -simprocs only at H)
   have A13 := Aside0.mk A130
   clear A130
   by_cases c14 : t501 = t502
   ·rw [if_pos c14] at H
    have c14b0 : (t501 == t502) = true := beq_iff_eq.mpr c14
    have c14b1 : (t501 != t502) = false := bne_eq_false_iff_eq.mpr c14
    clear c14
    replace H := Option.bind_eq_some_iff.mp H
    obtain ⟨⟨t503, t506, t509⟩, A150, H⟩ := H
    (try dsimp -simprocs only at H)
    have A15 := Aside0.mk A150
    clear A150
    simp only [Option.some.injEq, Prod.mk.injEq] at H
    obtain ⟨rfl, rfl, rfl⟩ := H
    go_enter Try.func21, Try.ntmps21
    go_wp2_with (first | ((with_reducible refine gate_dst (N := 14) rfl ?_); refine box_event ?hg (N := 14) ?hd (cs := #[.slice none 0 0, .slice none 0 0]) (t := 33) ?hr ?_; (case hd => rfl); (case hg => rfl); (case hr => first | (go_simp; done) | (go_simp; rfl)); intro gb492 hg w16 hbox hb; have BK492 := Aside0.mk (hbox); have GW492 := Aside0.mk ((by rw [hg]; exact (below_size (bt)) : w.heap.size ≤ gb492)); have GE492 := Aside0.mk ((by rw [hg]; exact (below_size (bt)) : w.heap.size ≤ gb492)); replace HB := Aside0.mk (below_step (bt) hb); clear hb hbox hg) | ((with_reducible refine gate_callee (f := 59) rfl ?_); refine goesL_ (some 26) rfl rfl Try.func59 (by kernel_rfl) rfl #[.int .i64 a0, .int .i64 a1, .int .i64 a2, .slice A3 l3.length c3, .slice A4 l4.length c4] rfl av ?_; (with_reducible refine (impl_climb.calls k a0 a1 a2 _ _ l3 (fun k_ => k_ < w.heap.size) _ _ l4 t493 true _ ?side1 ?side2 ?side3 A8.out).mono ?_); (case side1 => exact cv ((Kd.C_below HR3.out HB.out))); (case side2 => exact HC3.out); (case side3 => exact Kd.V_mk HC4.out (Kd.F_below (Kd.C_F (Kd.heap_int .i64) HR4.out) (b1 GE492.out))); rintro e w17 ⟨v494, rfl, ho0, hb⟩; refine ⟨_, rfl, ?_⟩; have HO495 := Aside0.mk (Kd.S_lower (Kd.S_mono (ok' := fun k_ => True) ho0 (fun _ hk_ => trivial)) (below_size (b1 GE492.out))); replace BK492 := Aside0.mk (blk_below (g := gb492) (o := .cells #[.slice none 0 0, .slice none 0 0] 33 (0, 0)) (mb BK492.out) hb); replace HB := Aside0.mk (below_step (b1 GE492.out) hb); (try clear hb); (try clear hb2); (try clear hk); (try clear hi); (try clear ho0)) | ((with_reducible refine gate_callee (f := 59) rfl ?_); refine goesL_ (some 35) rfl rfl Try.func59 (by kernel_rfl) rfl #[.int .i64 a0, .int .i64 a1, .int .i64 a2, .slice A5 l5.length c5, .slice A6 l6.length c6] rfl av ?_; (with_reducible refine (impl_climb.calls k a0 a1 a2 _ _ l5 (fun k_ => k_ < w.heap.size) _ _ l6 t497 true _ ?side1 ?side2 ?side3 A9.out).mono ?_); (case side1 => exact cv ((Kd.C_below HR5.out HB.out))); (case side2 => exact HC5.out); (case side3 => exact Kd.V_mk HC6.out (Kd.F_below (Kd.C_F (Kd.heap_int .i64) HR6.out) (b1 GE492.out))); rintro e w18 ⟨v498, rfl, ho0, hb⟩; refine ⟨_, rfl, ?_⟩; have HO499 := Aside0.mk (Kd.S_lower (Kd.S_new' (Kd.S_mono (ok' := fun k_ => True) ho0 (fun _ hk_ => trivial)) (Kd.S_lt (mv HO495.out))) (below_size (b1 GE492.out))); replace HO495 := Aside0.mk (Kd.S_elder' (mv HO495.out) (Kd.S_base ho0) hb); replace BK492 := Aside0.mk (blk_below (g := gb492) (o := .cells #[.slice none 0 0, .slice none 0 0] 33 (0, 0)) (mb BK492.out) hb); replace HB := Aside0.mk (below_step (b1 GE492.out) hb); (try clear hb); (try clear hb2); (try clear hk); (try clear hi); (try clear ho0); obtain ⟨Ao19, co19, eo19⟩ := Kd.S_slice HO495.out; subst eo19) | (go_at_call 69; (with_reducible refine (impl_lastOf.calls a0 _ _ t493 true t501 _ ?side1 ?side2 A12.out).mono ?_); (case side1 => exact cv ((Kd.S_reads' HO495.out).2.2)); (case side2 => exact (Kd.S_reads' HO495.out).2.1); rintro e w20 ⟨rfl, hb⟩; replace HO495 := Aside0.mk (Kd.S_below (mv HO495.out) hb); replace HO499 := Aside0.mk (Kd.S_below (mv HO499.out) hb); replace BK492 := Aside0.mk (blk_below (g := gb492) (o := .cells #[.slice none 0 0, .slice none 0 0] 33 (0, 0)) (mb BK492.out) hb); replace HB := Aside0.mk (below_step (b1 GE492.out) hb); (try clear hb); (try clear hb2); (try clear hk); (try clear hi); obtain ⟨Ao21, co21, eo21⟩ := Kd.S_slice HO499.out; subst eo21) | (go_at_call 69; (with_reducible refine (impl_lastOf.calls a0 _ _ t497 true t502 _ ?side1 ?side2 A13.out).mono ?_); (case side1 => exact cv ((Kd.S_reads' HO499.out).2.2)); (case side2 => exact (Kd.S_reads' HO499.out).2.1); rintro e w22 ⟨rfl, hb⟩; replace HO495 := Aside0.mk (Kd.S_below (mv HO495.out) hb); replace HO499 := Aside0.mk (Kd.S_below (mv HO499.out) hb); replace BK492 := Aside0.mk (blk_below (g := gb492) (o := .cells #[.slice none 0 0, .slice none 0 0] 33 (0, 0)) (mb BK492.out) hb); replace HB := Aside0.mk (below_step (b1 GE492.out) hb); (try clear hb); (try clear hb2); (try clear hk); (try clear hi)) | ((with_reducible refine gate_callee (f := 70) rfl ?_); refine goesL_ (some 56) rfl rfl Try.func70 (by kernel_rfl) rfl #[.slice Ao19 t493.length co19, .slice Ao21 t497.length co21] rfl av ?_; (with_reducible refine (impl_lastUnlike.calls k _ _ t493 _ _ t497 t503 t506 t509 _ ?side1 ?side2 ?side3 ?side4 A15.out).mono ?_); (case side1 => exact cv ((Kd.S_reads' HO495.out).2.2)); (case side2 => exact (Kd.S_reads' HO495.out).2.1); (case side3 => exact cv ((Kd.S_reads' HO499.out).2.2)); (case side4 => exact (Kd.S_reads' HO499.out).2.1); rintro e w23 ⟨v504, v507, rfl, ho0, ho1, hb⟩; refine ⟨_, rfl, ?_⟩; replace HO495 := Aside0.mk (Kd.S_mono (Kd.S_told (Kd.S_told (Kd.S_old (mv HO495.out) hb) (Kd.R_base ho0)) (Kd.R_base ho1)) (fun _ h_ => h_.1)); replace HO499 := Aside0.mk (Kd.S_mono (Kd.S_told (Kd.S_told (Kd.S_old (mv HO499.out) hb) (Kd.R_base ho0)) (Kd.R_base ho1)) (fun _ h_ => h_.1)); have HO505 := Aside0.mk (Kd.R_lower ho0 (below_size (b1 GE492.out))); have HO508 := Aside0.mk (Kd.R_lower ho1 (below_size (b1 GE492.out))); replace BK492 := Aside0.mk (blk_below (g := gb492) (o := .cells #[.slice none 0 0, .slice none 0 0] 33 (0, 0)) (mb BK492.out) hb); replace HB := Aside0.mk (below_step (b1 GE492.out) hb); (try clear hb); (try clear hb2); (try clear hk); (try clear hi); (try clear ho0); (try clear ho1); obtain ⟨Ao24, co24, eo24⟩ := Kd.R_slice HO505.out; subst eo24; have hcz25_0 : w23.cell? ⟨gb492, 0, none⟩ = some (.slice none 0 0) := (blk_cell BK492.out 0).trans rfl; have hcz25_1 : w23.cell? ⟨gb492, 1, none⟩ = some (.slice none 0 0) := (blk_cell BK492.out 1).trans rfl; have hfz25_0 := blk_frozen BK492.out 0; have hfz25_1 := blk_frozen BK492.out 1; obtain ⟨Ao26, co26, eo26⟩ := Kd.R_slice HO508.out; subst eo26))
    refine bodyPost_ret (results_ct rfl _ _ gb492 33 #[.slice Ao24 t503.length co24, .slice Ao26 t506.length co26] (0, 0) _ rfl (by (with_reducible repeat (first | refine blk_drewN ?_ _ | refine blk_drew ?_ | refine blk_alloc ?_ _)); refine blk_put (cs := #[.slice Ao24 t503.length co24, .slice none 0 0]) ?_ 1 _ rfl; (with_reducible repeat (first | refine blk_drewN ?_ _ | refine blk_drew ?_ | refine blk_alloc ?_ _)); refine blk_put (cs := #[.slice none 0 0, .slice none 0 0]) ?_ 0 _ rfl; (with_reducible repeat (first | refine blk_drewN ?_ _ | refine blk_drew ?_ | refine blk_alloc ?_ _)); exact BK492.out) Try.underlying33 rfl (by kernel_rfl)) rfl ?_
    exact ⟨_, _, by first | rfl | (simp [errW_none, errW_some] <;> rfl) | (simp [*, errW_none, errW_some] <;> rfl), by (with_reducible repeat (first | apply Kd.R_alloc | apply Kd.R_drewN | apply Kd.R_drew)); exact Kd.R_mono (Kd.R_far (p := ⟨gb492, 1, none⟩) (Kd.R_far (p := ⟨gb492, 0, none⟩) (Kd.R_types HO505.out BK492.out (by decide)) (fun _ hk => hk.2) (.slice Ao24 t503.length co24)) (fun _ hk => hk.2) (.slice Ao26 t506.length co26)) (fun _ hk => hk.1), by (with_reducible repeat (first | apply Kd.R_alloc | apply Kd.R_drewN | apply Kd.R_drew)); exact Kd.R_mono (Kd.R_far (p := ⟨gb492, 1, none⟩) (Kd.R_far (p := ⟨gb492, 0, none⟩) (Kd.R_types HO508.out BK492.out (by decide)) (fun _ hk => hk.2) (.slice Ao24 t503.length co24)) (fun _ hk => hk.2) (.slice Ao26 t506.length co26)) (fun _ hk => hk.1), b1 GE492.out⟩
   ·rw [if_neg c14] at H
    have c14b0 : (t501 == t502) = false := beq_eq_false_iff_ne.mpr c14
    have c14b1 : (t501 != t502) = true := bne_iff_ne.mpr c14
    simp only [Option.some.injEq, Prod.mk.injEq] at H
    obtain ⟨rfl, rfl, rfl⟩ := H
    go_enter Try.func21, Try.ntmps21
    go_wp2_with (first | ((with_reducible refine gate_dst (N := 14) rfl ?_); refine box_event ?hg (N := 14) ?hd (cs := #[.slice none 0 0, .slice none 0 0]) (t := 33) ?hr ?_; (case hd => rfl); (case hg => rfl); (case hr => first | (go_simp; done) | (go_simp; rfl)); intro gb492 hg w27 hbox hb; have BK492 := Aside0.mk (hbox); have GW492 := Aside0.mk ((by rw [hg]; exact (below_size (bt)) : w.heap.size ≤ gb492)); have GE492 := Aside0.mk ((by rw [hg]; exact (below_size (bt)) : w.heap.size ≤ gb492)); replace HB := Aside0.mk (below_step (bt) hb); clear hb hbox hg) | ((with_reducible refine gate_callee (f := 59) rfl ?_); refine goesL_ (some 26) rfl rfl Try.func59 (by kernel_rfl) rfl #[.int .i64 a0, .int .i64 a1, .int .i64 a2, .slice A3 l3.length c3, .slice A4 l4.length c4] rfl av ?_; (with_reducible refine (impl_climb.calls k a0 a1 a2 _ _ l3 (fun k_ => k_ < w.heap.size) _ _ l4 t493 true _ ?side1 ?side2 ?side3 A8.out).mono ?_); (case side1 => exact cv ((Kd.C_below HR3.out HB.out))); (case side2 => exact HC3.out); (case side3 => exact Kd.V_mk HC4.out (Kd.F_below (Kd.C_F (Kd.heap_int .i64) HR4.out) (b1 GE492.out))); rintro e w28 ⟨v494, rfl, ho0, hb⟩; refine ⟨_, rfl, ?_⟩; have HO495 := Aside0.mk (Kd.S_lower (Kd.S_mono (ok' := fun k_ => True) ho0 (fun _ hk_ => trivial)) (below_size (b1 GE492.out))); replace BK492 := Aside0.mk (blk_below (g := gb492) (o := .cells #[.slice none 0 0, .slice none 0 0] 33 (0, 0)) (mb BK492.out) hb); replace HB := Aside0.mk (below_step (b1 GE492.out) hb); (try clear hb); (try clear hb2); (try clear hk); (try clear hi); (try clear ho0)) | ((with_reducible refine gate_callee (f := 59) rfl ?_); refine goesL_ (some 35) rfl rfl Try.func59 (by kernel_rfl) rfl #[.int .i64 a0, .int .i64 a1, .int .i64 a2, .slice A5 l5.length c5, .slice A6 l6.length c6] rfl av ?_; (with_reducible refine (impl_climb.calls k a0 a1 a2 _ _ l5 (fun k_ => k_ < w.heap.size) _ _ l6 t497 true _ ?side1 ?side2 ?side3 A9.out).mono ?_); (case side1 => exact cv ((Kd.C_below HR5.out HB.out))); (case side2 => exact HC5.out); (case side3 => exact Kd.V_mk HC6.out (Kd.F_below (Kd.C_F (Kd.heap_int .i64) HR6.out) (b1 GE492.out))); rintro e w29 ⟨v498, rfl, ho0, hb⟩; refine ⟨_, rfl, ?_⟩; have HO499 := Aside0.mk (Kd.S_lower (Kd.S_new' (Kd.S_mono (ok' := fun k_ => True) ho0 (fun _ hk_ => trivial)) (Kd.S_lt (mv HO495.out))) (below_size (b1 GE492.out))); replace HO495 := Aside0.mk (Kd.S_elder' (mv HO495.out) (Kd.S_base ho0) hb); replace BK492 := Aside0.mk (blk_below (g := gb492) (o := .cells #[.slice none 0 0, .slice none 0 0] 33 (0, 0)) (mb BK492.out) hb); replace HB := Aside0.mk (below_step (b1 GE492.out) hb); (try clear hb); (try clear hb2); (try clear hk); (try clear hi); (try clear ho0); obtain ⟨Ao30, co30, eo30⟩ := Kd.S_slice HO495.out; subst eo30) | (go_at_call 69; (with_reducible refine (impl_lastOf.calls a0 _ _ t493 true t501 _ ?side1 ?side2 A12.out).mono ?_); (case side1 => exact cv ((Kd.S_reads' HO495.out).2.2)); (case side2 => exact (Kd.S_reads' HO495.out).2.1); rintro e w31 ⟨rfl, hb⟩; replace HO495 := Aside0.mk (Kd.S_below (mv HO495.out) hb); replace HO499 := Aside0.mk (Kd.S_below (mv HO499.out) hb); replace BK492 := Aside0.mk (blk_below (g := gb492) (o := .cells #[.slice none 0 0, .slice none 0 0] 33 (0, 0)) (mb BK492.out) hb); replace HB := Aside0.mk (below_step (b1 GE492.out) hb); (try clear hb); (try clear hb2); (try clear hk); (try clear hi); obtain ⟨Ao32, co32, eo32⟩ := Kd.S_slice HO499.out; subst eo32) | (go_at_call 69; (with_reducible refine (impl_lastOf.calls a0 _ _ t497 true t502 _ ?side1 ?side2 A13.out).mono ?_); (case side1 => exact cv ((Kd.S_reads' HO499.out).2.2)); (case side2 => exact (Kd.S_reads' HO499.out).2.1); rintro e w33 ⟨rfl, hb⟩; replace HO495 := Aside0.mk (Kd.S_below (mv HO495.out) hb); replace HO499 := Aside0.mk (Kd.S_below (mv HO499.out) hb); replace BK492 := Aside0.mk (blk_below (g := gb492) (o := .cells #[.slice none 0 0, .slice none 0 0] 33 (0, 0)) (mb BK492.out) hb); replace HB := Aside0.mk (below_step (b1 GE492.out) hb); (try clear hb); (try clear hb2); (try clear hk); (try clear hi); have hcz34_0 : w33.cell? ⟨gb492, 0, none⟩ = some (.slice none 0 0) := (blk_cell BK492.out 0).trans rfl; have hcz34_1 : w33.cell? ⟨gb492, 1, none⟩ = some (.slice none 0 0) := (blk_cell BK492.out 1).trans rfl; have hfz34_0 := blk_frozen BK492.out 0; have hfz34_1 := blk_frozen BK492.out 1))
    refine bodyPost_ret (results_ct rfl _ _ gb492 33 #[.slice none 0 0, .slice none 0 0] (0, 0) _ rfl (by (with_reducible repeat (first | refine blk_drewN ?_ _ | refine blk_drew ?_ | refine blk_alloc ?_ _)); refine blk_put (cs := #[.slice none 0 0, .slice none 0 0]) ?_ 1 _ rfl; (with_reducible repeat (first | refine blk_drewN ?_ _ | refine blk_drew ?_ | refine blk_alloc ?_ _)); refine blk_put (cs := #[.slice none 0 0, .slice none 0 0]) ?_ 0 _ rfl; (with_reducible repeat (first | refine blk_drewN ?_ _ | refine blk_drew ?_ | refine blk_alloc ?_ _)); exact BK492.out) Try.underlying33 rfl (by kernel_rfl)) rfl ?_
    exact ⟨_, _, by first | rfl | (simp [errW_none, errW_some] <;> rfl) | (simp [*, errW_none, errW_some] <;> rfl), by first | exact Kd.R_nil _ _ _ _ _ | exact Kd.N_nil _ _ _ _ _ | exact Kd.V_nil _ _ _ _ _ | exact Kd.Q_nil _ _ _ _ _ | exact Kd.S_nil _ _ _ _ _, by first | exact Kd.R_nil _ _ _ _ _ | exact Kd.N_nil _ _ _ _ _ | exact Kd.V_nil _ _ _ _ _ | exact Kd.Q_nil _ _ _ _ _ | exact Kd.S_nil _ _ _ _ _, b1 GE492.out⟩
  ·replace c11 := Bool.eq_false_iff.mpr c11
   subst c11
   rw [if_neg (show ¬ (false = true) by decide)] at H
   simp only [Option.some.injEq, Prod.mk.injEq] at H
   obtain ⟨rfl, rfl, rfl⟩ := H
   go_enter Try.func21, Try.ntmps21
   go_wp2_with (first | ((with_reducible refine gate_dst (N := 14) rfl ?_); refine box_event ?hg (N := 14) ?hd (cs := #[.slice none 0 0, .slice none 0 0]) (t := 33) ?hr ?_; (case hd => rfl); (case hg => rfl); (case hr => first | (go_simp; done) | (go_simp; rfl)); intro gb492 hg w35 hbox hb; have BK492 := Aside0.mk (hbox); have GW492 := Aside0.mk ((by rw [hg]; exact (below_size (bt)) : w.heap.size ≤ gb492)); have GE492 := Aside0.mk ((by rw [hg]; exact (below_size (bt)) : w.heap.size ≤ gb492)); replace HB := Aside0.mk (below_step (bt) hb); clear hb hbox hg) | ((with_reducible refine gate_callee (f := 59) rfl ?_); refine goesL_ (some 26) rfl rfl Try.func59 (by kernel_rfl) rfl #[.int .i64 a0, .int .i64 a1, .int .i64 a2, .slice A3 l3.length c3, .slice A4 l4.length c4] rfl av ?_; (with_reducible refine (impl_climb.calls k a0 a1 a2 _ _ l3 (fun k_ => k_ < w.heap.size) _ _ l4 t493 true _ ?side1 ?side2 ?side3 A8.out).mono ?_); (case side1 => exact cv ((Kd.C_below HR3.out HB.out))); (case side2 => exact HC3.out); (case side3 => exact Kd.V_mk HC4.out (Kd.F_below (Kd.C_F (Kd.heap_int .i64) HR4.out) (b1 GE492.out))); rintro e w36 ⟨v494, rfl, ho0, hb⟩; refine ⟨_, rfl, ?_⟩; have HO495 := Aside0.mk (Kd.S_lower (Kd.S_mono (ok' := fun k_ => True) ho0 (fun _ hk_ => trivial)) (below_size (b1 GE492.out))); replace BK492 := Aside0.mk (blk_below (g := gb492) (o := .cells #[.slice none 0 0, .slice none 0 0] 33 (0, 0)) (mb BK492.out) hb); replace HB := Aside0.mk (below_step (b1 GE492.out) hb); (try clear hb); (try clear hb2); (try clear hk); (try clear hi); (try clear ho0)) | ((with_reducible refine gate_callee (f := 59) rfl ?_); refine goesL_ (some 35) rfl rfl Try.func59 (by kernel_rfl) rfl #[.int .i64 a0, .int .i64 a1, .int .i64 a2, .slice A5 l5.length c5, .slice A6 l6.length c6] rfl av ?_; (with_reducible refine (impl_climb.calls k a0 a1 a2 _ _ l5 (fun k_ => k_ < w.heap.size) _ _ l6 t497 false _ ?side1 ?side2 ?side3 A9.out).mono ?_); (case side1 => exact cv ((Kd.C_below HR5.out HB.out))); (case side2 => exact HC5.out); (case side3 => exact Kd.V_mk HC6.out (Kd.F_below (Kd.C_F (Kd.heap_int .i64) HR6.out) (b1 GE492.out))); rintro e w37 ⟨v498, rfl, ho0, hb⟩; refine ⟨_, rfl, ?_⟩; have HO499 := Aside0.mk (Kd.S_lower (Kd.S_new' (Kd.S_mono (ok' := fun k_ => True) ho0 (fun _ hk_ => trivial)) (Kd.S_lt (mv HO495.out))) (below_size (b1 GE492.out))); replace HO495 := Aside0.mk (Kd.S_elder' (mv HO495.out) (Kd.S_base ho0) hb); replace BK492 := Aside0.mk (blk_below (g := gb492) (o := .cells #[.slice none 0 0, .slice none 0 0] 33 (0, 0)) (mb BK492.out) hb); replace HB := Aside0.mk (below_step (b1 GE492.out) hb); (try clear hb); (try clear hb2); (try clear hk); (try clear hi); (try clear ho0); have hcz38_0 : w37.cell? ⟨gb492, 0, none⟩ = some (.slice none 0 0) := (blk_cell BK492.out 0).trans rfl; have hcz38_1 : w37.cell? ⟨gb492, 1, none⟩ = some (.slice none 0 0) := (blk_cell BK492.out 1).trans rfl; have hfz38_0 := blk_frozen BK492.out 0; have hfz38_1 := blk_frozen BK492.out 1))
   refine bodyPost_ret (results_ct rfl _ _ gb492 33 #[.slice none 0 0, .slice none 0 0] (0, 0) _ rfl (by (with_reducible repeat (first | refine blk_drewN ?_ _ | refine blk_drew ?_ | refine blk_alloc ?_ _)); refine blk_put (cs := #[.slice none 0 0, .slice none 0 0]) ?_ 1 _ rfl; (with_reducible repeat (first | refine blk_drewN ?_ _ | refine blk_drew ?_ | refine blk_alloc ?_ _)); refine blk_put (cs := #[.slice none 0 0, .slice none 0 0]) ?_ 0 _ rfl; (with_reducible repeat (first | refine blk_drewN ?_ _ | refine blk_drew ?_ | refine blk_alloc ?_ _)); exact BK492.out) Try.underlying33 rfl (by kernel_rfl)) rfl ?_
   exact ⟨_, _, by first | rfl | (simp [errW_none, errW_some] <;> rfl) | (simp [*, errW_none, errW_some] <;> rfl), by first | exact Kd.R_nil _ _ _ _ _ | exact Kd.N_nil _ _ _ _ _ | exact Kd.V_nil _ _ _ _ _ | exact Kd.Q_nil _ _ _ _ _ | exact Kd.S_nil _ _ _ _ _, by first | exact Kd.R_nil _ _ _ _ _ | exact Kd.N_nil _ _ _ _ _ | exact Kd.V_nil _ _ _ _ _ | exact Kd.Q_nil _ _ _ _ _ | exact Kd.S_nil _ _ _ _ _, b1 GE492.out⟩
 ·replace c10 := Bool.eq_false_iff.mpr c10
  subst c10
  rw [if_neg (show ¬ (false = true) by decide)] at H
  simp only [Option.some.injEq, Prod.mk.injEq] at H
  obtain ⟨rfl, rfl, rfl⟩ := H
  go_enter Try.func21, Try.ntmps21
  go_wp2_with (first | ((with_reducible refine gate_dst (N := 14) rfl ?_); refine box_event ?hg (N := 14) ?hd (cs := #[.slice none 0 0, .slice none 0 0]) (t := 33) ?hr ?_; (case hd => rfl); (case hg => rfl); (case hr => first | (go_simp; done) | (go_simp; rfl)); intro gb492 hg w39 hbox hb; have BK492 := Aside0.mk (hbox); have GW492 := Aside0.mk ((by rw [hg]; exact (below_size (bt)) : w.heap.size ≤ gb492)); have GE492 := Aside0.mk ((by rw [hg]; exact (below_size (bt)) : w.heap.size ≤ gb492)); replace HB := Aside0.mk (below_step (bt) hb); clear hb hbox hg) | ((with_reducible refine gate_callee (f := 59) rfl ?_); refine goesL_ (some 26) rfl rfl Try.func59 (by kernel_rfl) rfl #[.int .i64 a0, .int .i64 a1, .int .i64 a2, .slice A3 l3.length c3, .slice A4 l4.length c4] rfl av ?_; (with_reducible refine (impl_climb.calls k a0 a1 a2 _ _ l3 (fun k_ => k_ < w.heap.size) _ _ l4 t493 false _ ?side1 ?side2 ?side3 A8.out).mono ?_); (case side1 => exact cv ((Kd.C_below HR3.out HB.out))); (case side2 => exact HC3.out); (case side3 => exact Kd.V_mk HC4.out (Kd.F_below (Kd.C_F (Kd.heap_int .i64) HR4.out) (b1 GE492.out))); rintro e w40 ⟨v494, rfl, ho0, hb⟩; refine ⟨_, rfl, ?_⟩; have HO495 := Aside0.mk (Kd.S_lower (Kd.S_mono (ok' := fun k_ => True) ho0 (fun _ hk_ => trivial)) (below_size (b1 GE492.out))); replace BK492 := Aside0.mk (blk_below (g := gb492) (o := .cells #[.slice none 0 0, .slice none 0 0] 33 (0, 0)) (mb BK492.out) hb); replace HB := Aside0.mk (below_step (b1 GE492.out) hb); (try clear hb); (try clear hb2); (try clear hk); (try clear hi); (try clear ho0)) | ((with_reducible refine gate_callee (f := 59) rfl ?_); refine goesL_ (some 35) rfl rfl Try.func59 (by kernel_rfl) rfl #[.int .i64 a0, .int .i64 a1, .int .i64 a2, .slice A5 l5.length c5, .slice A6 l6.length c6] rfl av ?_; (with_reducible refine (impl_climb.calls k a0 a1 a2 _ _ l5 (fun k_ => k_ < w.heap.size) _ _ l6 t497 t500 _ ?side1 ?side2 ?side3 A9.out).mono ?_); (case side1 => exact cv ((Kd.C_below HR5.out HB.out))); (case side2 => exact HC5.out); (case side3 => exact Kd.V_mk HC6.out (Kd.F_below (Kd.C_F (Kd.heap_int .i64) HR6.out) (b1 GE492.out))); rintro e w41 ⟨v498, rfl, ho0, hb⟩; refine ⟨_, rfl, ?_⟩; have HO499 := Aside0.mk (Kd.S_lower (Kd.S_new' (Kd.S_mono (ok' := fun k_ => True) ho0 (fun _ hk_ => trivial)) (Kd.S_lt (mv HO495.out))) (below_size (b1 GE492.out))); replace HO495 := Aside0.mk (Kd.S_elder' (mv HO495.out) (Kd.S_base ho0) hb); replace BK492 := Aside0.mk (blk_below (g := gb492) (o := .cells #[.slice none 0 0, .slice none 0 0] 33 (0, 0)) (mb BK492.out) hb); replace HB := Aside0.mk (below_step (b1 GE492.out) hb); (try clear hb); (try clear hb2); (try clear hk); (try clear hi); (try clear ho0); have hcz42_0 : w41.cell? ⟨gb492, 0, none⟩ = some (.slice none 0 0) := (blk_cell BK492.out 0).trans rfl; have hcz42_1 : w41.cell? ⟨gb492, 1, none⟩ = some (.slice none 0 0) := (blk_cell BK492.out 1).trans rfl; have hfz42_0 := blk_frozen BK492.out 0; have hfz42_1 := blk_frozen BK492.out 1))
  refine bodyPost_ret (results_ct rfl _ _ gb492 33 #[.slice none 0 0, .slice none 0 0] (0, 0) _ rfl (by (with_reducible repeat (first | refine blk_drewN ?_ _ | refine blk_drew ?_ | refine blk_alloc ?_ _)); refine blk_put (cs := #[.slice none 0 0, .slice none 0 0]) ?_ 1 _ rfl; (with_reducible repeat (first | refine blk_drewN ?_ _ | refine blk_drew ?_ | refine blk_alloc ?_ _)); refine blk_put (cs := #[.slice none 0 0, .slice none 0 0]) ?_ 0 _ rfl; (with_reducible repeat (first | refine blk_drewN ?_ _ | refine blk_drew ?_ | refine blk_alloc ?_ _)); exact BK492.out) Try.underlying33 rfl (by kernel_rfl)) rfl ?_
  exact ⟨_, _, by first | rfl | (simp [errW_none, errW_some] <;> rfl) | (simp [*, errW_none, errW_some] <;> rfl), by first | exact Kd.R_nil _ _ _ _ _ | exact Kd.N_nil _ _ _ _ _ | exact Kd.V_nil _ _ _ _ _ | exact Kd.Q_nil _ _ _ _ _ | exact Kd.S_nil _ _ _ _ _, by first | exact Kd.R_nil _ _ _ _ _ | exact Kd.N_nil _ _ _ _ _ | exact Kd.V_nil _ _ _ _ _ | exact Kd.Q_nil _ _ _ _ _ | exact Kd.S_nil _ _ _ _ _, b1 GE492.out⟩

/-! ### impl_path: function 58 -/
def impl_path.l0 : Nat → Int → List Int → List (List Int) → Int → Int → Option (List Int)
 | 0, _, _, _, _, _ => none
 | k + 1, x2, x7, x13, x14, x15 => if x15 < x14 then (if 0 ≤ x15 then (if x15 < (x13.length : Int) then (if (Go.bits .xor .i64 x2 1) < ((rd_L3 x13 x15).length : Int) then (if 0 ≤ (Go.bits .xor .i64 x2 1) then (if x7.length < 17592186044416 then (impl_path.l0 k (wrap64 (Int.tdiv x2 2)) (x7 ++ [rd (rd_L3 x13 x15) (Go.bits .xor .i64 x2 1)]) x13 x14 (wrap64 (x15 + 1))) else (none)) else (none)) else (impl_path.l0 k (wrap64 (Int.tdiv x2 2)) x7 x13 x14 (wrap64 (x15 + 1)))) else (none)) else (none)) else (some x7)
def impl_path.f (k : Nat) (a0 : Int) (l1 : List (List Int)) (a2 : Int) : Option (List Int) := (impl_levels.f k a0 l1).bind fun t513 => (impl_path.l0 k a2 (([] : List Int)) t513 (t513.length : Int) 0)
set_option maxHeartbeats 8000000 in
set_option maxRecDepth 100000 in
theorem impl_path.calls (k : Nat) (a0 : Int) (A1 : Option Addr) (c1 : Nat) (l1 : List (List Int)) (a2 : Int) (r : List Int) (w : World) (hr1 : Kd.C (Kd.slice 5 (Kd.int .u8)) w A1 l1.length l1) (hc1 : l1.length ≤ c1) (h : impl_path.f k a0 l1 a2 = some r) :
  Calls Try.prog 58 #[.int .i64 a0, .slice A1 l1.length c1, .int .i64 a2] w fun e w' => ∃ v0_ : Value, e = .returned (v0_) ∧ Kd.R (Kd.int .i64) 3 w' w.heap.size (fun _ => True) v0_ r ∧ Below w.heap.size w w' := by
 have HR1 := Aside0.mk hr1
 have HC1 := Aside0.mk hc1
 clear hr1 hc1
 have HB := Aside0.mk (Below.refl w.heap.size w)
 have H : ((impl_levels.f k a0 l1).bind fun t513 => (impl_path.l0 k a2 (([] : List Int)) t513 (t513.length : Int) 0)) = some r := h
 clear h
 obtain ⟨y510, hy510⟩ : ∃ y_ : List Int, y_ = (([] : List Int)) := ⟨_, rfl⟩
 replace H : ((impl_levels.f k a0 l1).bind fun t513 => (impl_path.l0 k a2 y510 t513 (t513.length : Int) 0)) = some r := by first | (rw [hy510]; exact H) | exact H
 have Ny510 := Aside0.mk hy510
 clear hy510
 replace H := Option.bind_eq_some_iff.mp H
 obtain ⟨t513, A40, H⟩ := H
 (try dsimp -simprocs only at H)
 have A4 := Aside0.mk A40
 clear A40
 have H' := Aside0.mk H
 clear H
 go_enter Try.func58, Try.ntmps58
 go_wp2_with (first | ((with_reducible refine gate_dst (N := 10) rfl ?_); refine Kd.R_lit (Kd.int .i64) _ 3 ?hg (N := 10) ?hd (xs := ([] : List Int)) (inner := []) (ok := fun _ => True) (okp := fun _ => True) ?hr ?hp (fun _ hk => hk) trivial (Below.refl _ _) (Nat.le_refl _) (by simp) ?_; (case hd => rfl); (case hg => rfl); (case hr => first | (go_simp; done) | (go_simp; rfl)); (case hp => exact (Reps.none _ _)); intro v511 w5 ho6 hb hg_ hnew_; clear hg_ hnew_; (first | rw [← Ny510.out] at ho6 | (simp only [Int.reduceToNat] at ho6; rw [← Ny510.out] at ho6)); have HO512 := Aside0.mk (Kd.R_lower ho6 (below_size (bt))); replace HB := Aside0.mk (below_step (bt) hb); clear hb ho6) | ((with_reducible refine gate_callee (f := 90) rfl ?_); refine goesL_ (some 13) rfl rfl Try.func90 (by kernel_rfl) rfl #[.int .i64 a0, .slice A1 l1.length c1] rfl av ?_; (with_reducible refine (impl_levels.calls k a0 _ _ l1 t513 _ ?side1 ?side2 A4.out).mono ?_); (case side1 => exact cv ((Kd.C_below HR1.out HB.out))); (case side2 => exact HC1.out); rintro e w7 ⟨v514, rfl, ho0, hb⟩; refine ⟨_, rfl, ?_⟩; have HO515 := Aside0.mk (Kd.S_lower (Kd.S_new' ho0 (Kd.R_lt (mv HO512.out))) (below_size (bt))); replace HO512 := Aside0.mk (Kd.R_below (mv HO512.out) hb); replace HB := Aside0.mk (below_step (bt) hb); (try clear hb); (try clear hb2); (try clear hk); (try clear hi); (try clear ho0); obtain ⟨Ao8, co8, eo8⟩ := Kd.S_slice HO515.out; subst eo8))
 go_loopg [2, 7, 15] k (fun kq v2 v7 v15 w' => ∃ (x2_1 : Int) (x7_1 : List Int) (x15_1 : Int), v2 = .int .i64 x2_1 ∧ v15 = .int .i64 x15_1 ∧ Aside0 (impl_path.l0 kq x2_1 x7_1 t513 (t513.length : Int) x15_1 = some r) ∧ Aside0 (kq ≤ k) ∧ Aside0 (Kd.R (Kd.int .i64) 3 w' w.heap.size (fun _ => True) v7 x7_1) ∧ Aside0 (Kd.S (Kd.slice 3 (Kd.int .i64)) 29 w' w.heap.size (fun k_ => some k_ ≠ (v7 : Value).ownBlock) (.slice Ao8 t513.length co8) t513) ∧ Aside0 (Below w.heap.size w w'))
 case atStart => exact ⟨(a2), (y510), (0), (by first | rfl | (simp; done) | (simp [*]; done)), (by first | rfl | (simp; done) | (simp [*]; done)), H', ⟨Nat.le_refl _⟩, ⟨mv HO512.out⟩, ⟨by (with_reducible repeat (first | apply Kd.S_alloc | apply Kd.S_drewN | apply Kd.S_drew)); exact Kd.S_mono HO515.out (fun _ hk => hk.2)⟩, ⟨bt⟩⟩
 case round =>
  clear H'
  try clear c1
  try clear p2
  try clear c5
  obtain ⟨x2_1, x7_1, x15_1, rfl, rfl, HA, HK1, HO_7, HO_13, HB⟩ := hrel
  cases gk with
  | zero => exact absurd HA.out (by simp [impl_path.l0])
  | succ k1 =>
   have H := HA.out
   clear HA
   simp only [impl_path.l0] at H
   by_cases c9 : x15_1 < (t513.length : Int)
   ·rw [if_pos c9] at H
    have c9b0 : decide (x15_1 < (t513.length : Int)) = true := decide_eq_true c9
    clear c9
    by_cases c10 : 0 ≤ x15_1
    ·rw [if_pos c10] at H
     have c10b0 : decide (0 ≤ x15_1) = true := decide_eq_true c10
     clear c10
     by_cases c11 : x15_1 < (t513.length : Int)
     ·rw [if_pos c11] at H
      have c11b0 : decide (x15_1 < (t513.length : Int)) = true := decide_eq_true c11
      clear c11
      by_cases c12 : (Go.bits .xor .i64 x2_1 1) < ((rd_L3 t513 x15_1).length : Int)
      ·rw [if_pos c12] at H
       have c12b0 : decide ((Go.bits .xor .i64 x2_1 1) < ((rd_L3 t513 x15_1).length : Int)) = true := decide_eq_true c12
       clear c12
       by_cases c13 : 0 ≤ (Go.bits .xor .i64 x2_1 1)
       ·rw [if_pos c13] at H
        have c13b0 : decide (0 ≤ (Go.bits .xor .i64 x2_1 1)) = true := decide_eq_true c13
        clear c13
        by_cases c14 : x7_1.length < 17592186044416
        ·rw [if_pos c14] at H
         have LMc14 := Aside0.mk c14
         clear c14
         obtain ⟨y518, hy518⟩ : ∃ y_ : List Int, y_ = (x7_1 ++ [rd (rd_L3 t513 x15_1) (Go.bits .xor .i64 x2_1 1)]) := ⟨_, rfl⟩
         replace H : (impl_path.l0 k1 (wrap64 (Int.tdiv x2_1 2)) y518 t513 (t513.length : Int) (wrap64 (x15_1 + 1))) = some r := by first | (rw [hy518]; exact H) | exact H
         have Ny518 := Aside0.mk hy518
         clear hy518
         have H' := Aside0.mk H
         clear H
         have p516 : 0 ≤ (x15_1 : Int) := of_decide_eq_true asm
         have q516 : x15_1 < (t513.length : Int) := of_decide_eq_true asm
         obtain ⟨ad516, A516_0, c516_0, e516, hx516_0, hl516_0, hi516_0⟩ := at_L3 (Kd.S_reads' HO_13.out).2.2 x15_1 p516 q516
         cases e516
         obtain ⟨ce516, hce516, hMe516, hcc516⟩ := Kd.S_get HO_13.out [] x15_1 p516 (by first | exact q516 | exact of_decide_eq_true asm | (have e_ := (Kd.S_reads' HO_13.out).1; omega))
         obtain ⟨ve516_0, rfl, ge516_0⟩ := hMe516
         have hv516_0 := hcc516 0 _ rfl
         rw [Nat.add_zero, show ((Kd.slice 3 (Kd.int .i64))).sz = 1 from rfl, Nat.mul_one] at hv516_0
         replace hv516_0 := Option.some.inj (hv516_0.symm.trans hx516_0)
         rw [hv516_0] at ge516_0
         have HL516_0 := Aside0.mk (show Kd.R (Kd.int .i64) 3 _ _ _ _ (rd_L3 t513 x15_1) from ge516_0)
         clear hv516_0 ge516_0
         clear hcc516 hce516
         have HR516_0 := Aside0.mk hi516_0
         have HC516_0 := Aside0.mk hl516_0
         clear hi516_0 hl516_0
         replace p516 := eq_true p516
         replace q516 := eq_true q516
         have p517 : 0 ≤ ((Go.bits .xor .i64 x2_1 1) : Int) := of_decide_eq_true asm
         have q517 : (Go.bits .xor .i64 x2_1 1) < ((rd_L3 t513 x15_1).length : Int) := of_decide_eq_true asm
         obtain ⟨ad517, e517, hx517_0⟩ := Kd.at_int (by repeat (first | (with_reducible exact HR516_0.out) | (with_reducible refine Kd.C_alloc ?_ _) | (with_reducible refine Kd.C_drewN ?_ _) | (with_reducible refine Kd.C_drew ?_) | exact HR516_0.out)) (Go.bits .xor .i64 x2_1 1) p517 q517
         cases e517
         replace p517 := eq_true p517
         replace q517 := eq_true q517
         go_wp2_with (first | ((with_reducible refine gate_builtin (b := .append) (xs := #[.tmp 24, .tmp 30]) rfl ?_); at_builtin; refine Kd.R_append (Kd.int .i64) (w0 := w) w.heap.size rfl (.tmp 24) (.tmp 30) 29 3 (.int .i64 0) 8 rfl Try.underlying29 info3 rfl (by decide) (by omega) u7 x7_1 (rd (rd_L3 t513 x15_1) (Go.bits .xor .i64 x2_1 1)) [.int .i64 (rd (rd_L3 t513 x15_1) (Go.bits .xor .i64 x2_1 1))] (fun _ => True) (fun _ => False) rfl rfl ?aP (fun _ hk => hk.elim) ?aF ?aO ?aB ?aS ?aL ?_; (case aP => exact rfl); (case aB => exact (bt)); (case aF => exact (fun _ _ => trivial)); (case aO => exact (mv HO_7.out)); (case aS => exact (below_size (bt))); (case aL => have := LMc14.out; omega); intro v519 w15 ho hb hg hat; rw [← Ny518.out] at ho; replace HO_13 := Aside0.mk (Kd.S_after (ok := (fun _ => True)) (by (with_reducible repeat (first | apply Kd.S_alloc | apply Kd.S_drewN | apply Kd.S_drew)); exact Kd.S_mono HO_13.out (fun _ hk => ⟨trivial, hk⟩)) hg hat); replace HL516_0 := Aside0.mk (Kd.R_after (ok := (fun k_ => some k_ ≠ (.slice (some ad516) t513.length co8 : Value).ownBlock)) (by (with_reducible repeat (first | apply Kd.R_alloc | apply Kd.R_drewN | apply Kd.R_drew)); exact Kd.R_mono HL516_0.out (fun _ hk => ⟨hk.2, hk.1⟩)) hg hat); replace HB := Aside0.mk (hb); have HO520 := Aside0.mk (ho); clear HO_7; clear ho hb hg hat))
         go_roundg k1
         case measure => have := HK1.out; omega
         case rel => exact ⟨(wrap64 (Int.tdiv x2_1 2)), (y518), (wrap64 (x15_1 + 1)), (by first | rfl | (simp; done) | (simp [*]; done)), (by first | rfl | (simp; done) | (simp [*]; done)), H', ⟨by have := HK1.out; omega⟩, ⟨mv HO520.out⟩, ⟨by (with_reducible repeat (first | apply Kd.S_alloc | apply Kd.S_drewN | apply Kd.S_drew)); exact Kd.S_mono HO_13.out (fun _ hk => hk.2)⟩, ⟨bt⟩⟩
        ·rw [if_neg c14] at H
         exact absurd H (by simp)
       ·rw [if_neg c13] at H
        exact absurd H (by simp)
      ·rw [if_neg c12] at H
       have c12b0 : decide ((Go.bits .xor .i64 x2_1 1) < ((rd_L3 t513 x15_1).length : Int)) = false := decide_eq_false c12
       clear c12
       have H' := Aside0.mk H
       clear H
       have p516 : 0 ≤ (x15_1 : Int) := of_decide_eq_true asm
       have q516 : x15_1 < (t513.length : Int) := of_decide_eq_true asm
       obtain ⟨ad516, A516_0, c516_0, e516, hx516_0, hl516_0, hi516_0⟩ := at_L3 (Kd.S_reads' HO_13.out).2.2 x15_1 p516 q516
       cases e516
       obtain ⟨ce516, hce516, hMe516, hcc516⟩ := Kd.S_get HO_13.out [] x15_1 p516 (by first | exact q516 | exact of_decide_eq_true asm | (have e_ := (Kd.S_reads' HO_13.out).1; omega))
       obtain ⟨ve516_0, rfl, ge516_0⟩ := hMe516
       have hv516_0 := hcc516 0 _ rfl
       rw [Nat.add_zero, show ((Kd.slice 3 (Kd.int .i64))).sz = 1 from rfl, Nat.mul_one] at hv516_0
       replace hv516_0 := Option.some.inj (hv516_0.symm.trans hx516_0)
       rw [hv516_0] at ge516_0
       have HL516_0 := Aside0.mk (show Kd.R (Kd.int .i64) 3 _ _ _ _ (rd_L3 t513 x15_1) from ge516_0)
       clear hv516_0 ge516_0
       clear hcc516 hce516
       have HR516_0 := Aside0.mk hi516_0
       have HC516_0 := Aside0.mk hl516_0
       clear hi516_0 hl516_0
       replace p516 := eq_true p516
       replace q516 := eq_true q516
       go_wp2
       go_roundg k1
       case measure => have := HK1.out; omega
       case rel => exact ⟨(wrap64 (Int.tdiv x2_1 2)), (x7_1), (wrap64 (x15_1 + 1)), (by first | rfl | (simp; done) | (simp [*]; done)), (by first | rfl | (simp; done) | (simp [*]; done)), H', ⟨by have := HK1.out; omega⟩, ⟨mv HO_7.out⟩, ⟨mv HO_13.out⟩, ⟨bt⟩⟩
     ·rw [if_neg c11] at H
      exact absurd H (by simp)
    ·rw [if_neg c10] at H
     exact absurd H (by simp)
   ·rw [if_neg c9] at H
    have c9b0 : decide (x15_1 < (t513.length : Int)) = false := decide_eq_false c9
    clear c9
    obtain rfl := Option.some.inj H
    go_wp2
    go_ret
    exact ⟨_, by first | rfl | (simp [errW_none, errW_some] <;> rfl) | (simp [*, errW_none, errW_some] <;> rfl), by (with_reducible repeat (first | apply Kd.R_alloc | apply Kd.R_drewN | apply Kd.R_drew)); exact HO_7.out, bt⟩

end Go.Proofs.Ytchjajbkaiefdaa.PFnExactFirstLiar
