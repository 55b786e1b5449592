-- Written by a program of this workplace (wip/mp.py) out of the translation.
import Derived.Test.YtchjajbkaiefdaaPFnForgeryx0
import Derived.Test.YtchjajbkaiefdaaPFnForgeryx3
import Derived.Test.YtchjajbkaiefdaaPFnForgeryx10
namespace Go.Proofs.Ytchjajbkaiefdaa.PFnForgery
open Go.RowKit Go.Proofs.YtchjajbkaiefdaaW.PrintWords Go.Proofs.YtchjajbkaiefdaaW.PrintLast Go.Proofs.YtchjajbkaiefdaaW.PrintMore Go.Proofs.Ytchjajbkaiefdaa.Slim
attribute [local go_sem] max2_int min2_int max_two min_two max_three min_three max_four min_four   -- for this text's walks alone
set_option linter.unusedVariables false
set_option linter.unusedSimpArgs false

/-! ### impl_lastUnlike: function 70 -/
def impl_lastUnlike.l0 : Nat → List (List Int) → List (List Int) → Int → Option (List Int × List Int × Bool)
 | 0, _, _, _ => none
 | k + 1, x0, x1, x6 => if x6 ≥ 0 then (if 0 ≤ x6 then (if x6 < (x0.length : Int) then (if x6 < (x1.length : Int) then ((bytes_Equal.f (rd_L1 x0 x6) (rd_L1 x1 x6)).bind fun t567 => (if t567 = true then (impl_lastUnlike.l0 k x0 x1 (wrap64 (x6 - 1))) else ((impl_pairOf.f (rd_L1 x0 x6) (rd_L1 x1 x6)).bind fun bt570 => (some (bt570.1, bt570.2, true))))) else (none)) else (none)) else (none)) else (some (([] : List Int), ([] : List Int), false))
def impl_lastUnlike.f (k : Nat) (l0 : List (List Int)) (l1 : List (List Int)) : Option (List Int × List Int × Bool) := impl_lastUnlike.l0 k l0 l1 (wrap64 ((l0.length : Int) - 1))
def impl_lastUnlike.T4 : Bool × List (List Nat × List Nat) := (true, [([], []), ([], []), ([0, 1], [0, 1]), ([2], [2]), ([], []), ([], []), ([4, 5], [4, 5]), ([6], [6]), ([3, 7], [3, 7]), ([8], [8])])
def impl_lastUnlike.B4 : List Nat := [0, 0, 3, 7, 0, 0, 48, 112, 255, 511]
theorem impl_lastUnlike.tab4 : rtab .any (opsOf Try.f70 4) = impl_lastUnlike.T4 := by kernel_rfl
theorem impl_lastUnlike.bits4 : waitsOk impl_lastUnlike.T4.2 impl_lastUnlike.B4 = true := by kernel_rfl
def impl_lastUnlike.T5 : Bool × List (List Nat × List Nat) := (true, [([], []), ([], []), ([0, 1], [0, 1]), ([2], [2]), ([], []), ([], []), ([4, 5], [4, 5]), ([6], [6]), ([3, 7], [3, 7]), ([8, 8, 0, 1, 2, 3, 4, 5, 6, 7, 8], [8]), ([9, 0, 1, 2, 3, 4, 5, 6, 7, 8, 9], [])])
def impl_lastUnlike.B5 : List Nat := [0, 0, 3, 7, 0, 0, 48, 112, 255, 511, 1023]
theorem impl_lastUnlike.tab5 : rtab .any (opsOf Try.f70 5) = impl_lastUnlike.T5 := by kernel_rfl
theorem impl_lastUnlike.bits5 : waitsOk impl_lastUnlike.T5.2 impl_lastUnlike.B5 = true := by kernel_rfl
set_option maxHeartbeats 8000000 in
set_option maxRecDepth 100000 in
theorem impl_lastUnlike.calls (k : Nat) (A0 : Option Addr) (c0 : Nat) (l0 : List (List Int)) (A1 : Option Addr) (c1 : Nat) (l1 : List (List Int)) (r1 : List Int) (r2 : List Int) (r3 : Bool) (w : World) (hr0 : Kd.C (Kd.slice 5 (Kd.int .u8)) w A0 l0.length l0) (hc0 : l0.length ≤ c0) (hr1 : Kd.C (Kd.slice 5 (Kd.int .u8)) w A1 l1.length l1) (hc1 : l1.length ≤ c1) (h : impl_lastUnlike.f k l0 l1 = some (r1, r2, r3)) :
  Calls Try.prog 70 #[.slice A0 l0.length c0, .slice A1 l1.length c1] w fun e w' => ∃ v0_ v1_ : Value, e = .returned (.tuple #[.agg #[v0_, v1_], .bool r3]) ∧ Kd.R (Kd.int .u8) 5 w' w.heap.size (fun k_ => some k_ ≠ (v1_ : Value).ownBlock) v0_ r1 ∧ Kd.R (Kd.int .u8) 5 w' w.heap.size (fun k_ => some k_ ≠ (v0_ : Value).ownBlock) v1_ r2 ∧ Below w.heap.size w w' := by
 have hu33 := Try.underlying33
 have HR0 := am hr0
 have HC0 := am hc0
 clear hr0 hc0
 have HR1 := am hr1
 have HC1 := am hc1
 clear hr1 hc1
 have HB := am (Below.refl w.heap.size w)
 have H : (impl_lastUnlike.l0 k l0 l1 (wrap64 ((l0.length : Int) - 1))) = some (r1, r2, r3) := h
 clear h
 have H' := am H
 clear H
 go_enter Try.func70, Try.ntmps70
 go_wp2_with (first | ((with_reducible refine gate_dst (N := 4) rfl ?_); refine box_event ?hg (N := 4) ?hd (cs := #[.slice none 0 0, .slice none 0 0]) (t := 33) ?hr ?_; (case hd => rfl); (case hg => rfl); (case hr => first | (go_simp; done) | (go_simp; rfl)); intro gb564 hg w3 hbox hb; have BK564 := am (hbox); have GW564 := am ((by rw [hg]; exact (below_size (bt)) : w.heap.size ≤ gb564)); have GE564 := am ((by rw [hg]; exact (below_size (bt)) : w.heap.size ≤ gb564)); replace HB := am (below_step (bt) hb); clear hb hbox hg))
 go_loopg [6] k (fun kq v6 w' => ∃ (x6_1 : Int), v6 = .int .i64 x6_1 ∧ Aside0 (impl_lastUnlike.l0 kq l0 l1 x6_1 = some (r1, r2, r3)) ∧ Aside0 (kq ≤ k) ∧ Aside0 (w'.heap[gb564]? = some (.cells #[(.slice none 0 0), (.slice none 0 0)] 33 (0, 0))) ∧ Aside0 (Below w.heap.size w w'))
 case atStart => exact ⟨(wrap64 ((l0.length : Int) - 1)), (by first | rfl | (simp; done) | (simp [*]; done)), H', ⟨Nat.le_refl _⟩, ⟨mb BK564.out⟩, ⟨b1 GE564.out⟩⟩
 case round =>
  clear H'
  try clear c1
  try clear p2
  obtain ⟨x6_1, rfl, HA, HK1, BK564, HB⟩ := hrel
  cases gk with
  | zero => exact absurd HA.out (by simp [impl_lastUnlike.l0])
  | succ k1 =>
   have H := HA.out
   clear HA
   simp only [impl_lastUnlike.l0] at H
   by_cases c4 : x6_1 ≥ 0
   ·rw [if_pos c4] at H
    have c4b0 : decide (0 ≤ x6_1) = true := decide_eq_true c4
    clear c4
    by_cases c5 : 0 ≤ x6_1
    ·rw [if_pos c5] at H
     have c5b0 : decide (0 ≤ x6_1) = true := decide_eq_true c5
     clear c5
     by_cases c6 : x6_1 < (l0.length : Int)
     ·rw [if_pos c6] at H
      have c6b0 : decide (x6_1 < (l0.length : Int)) = true := decide_eq_true c6
      clear c6
      by_cases c7 : x6_1 < (l1.length : Int)
      ·rw [if_pos c7] at H
       have c7b0 : decide (x6_1 < (l1.length : Int)) = true := decide_eq_true c7
       clear c7
       replace H := Option.bind_eq_some_iff.mp H
       obtain ⟨t567, A80, H⟩ := H
       (try dsimp -simprocs only at H)
       have A8 := am A80
       clear A80
       by_cases c9 : t567 = true
       ·subst c9
        rw [if_pos rfl] at H
        have H' := am H
        clear H
        try go_wp2
        have n0_ := am (blk_drew BK564.out)
        have n1_ := am (below_drew1 HB.out)
        clear BK564
        clear HB
        have BK564 := n0_
        have HB := n1_
        clear n0_ n1_
        have p565 : 0 ≤ (x6_1 : Int) := of_decide_eq_true asm
        have q565 : x6_1 < (l0.length : Int) := of_decide_eq_true asm
        obtain ⟨ad565, A565_0, c565_0, e565, hx565_0, hl565_0, hi565_0⟩ := at_L1 HR0.out x6_1 p565 q565
        have hw565_0 := hx565_0
        cases e565
        replace hx565_0 := (HB.out.cell (World.block_lt_of_cell? w _ hx565_0)).trans hx565_0
        have HR565_0 := am hi565_0
        have HC565_0 := am hl565_0
        clear hi565_0 hl565_0
        replace p565 := eq_true p565
        replace q565 := eq_true q565
        have p566 : 0 ≤ (x6_1 : Int) := of_decide_eq_true asm
        have q566 : x6_1 < (l1.length : Int) := of_decide_eq_true asm
        obtain ⟨ad566, A566_0, c566_0, e566, hx566_0, hl566_0, hi566_0⟩ := at_L1 HR1.out x6_1 p566 q566
        have hw566_0 := hx566_0
        cases e566
        replace hx566_0 := (HB.out.cell (World.block_lt_of_cell? w _ hx566_0)).trans hx566_0
        have HR566_0 := am hi566_0
        have HC566_0 := am hl566_0
        clear hi566_0 hl566_0
        replace p566 := eq_true p566
        replace q566 := eq_true q566
        refine start_ (n := 10) (S := fun w' => w'.cell? (ad565.add (x6_1).toNat) = some (.slice A565_0 (rd_L1 l0 x6_1).length c565_0) ∧ w'.cell? (ad566.add (x6_1).toNat) = some (.slice A566_0 (rd_L1 l1 x6_1).length c566_0)) (ds := []) #[false, false, false, false, false, false, false, false, false, false] (by kernel_rfl) rfl rfl ⟨((HB.out.cell (World.block_lt_of_cell? w _ hw565_0)).trans hw565_0), ((HB.out.cell (World.block_lt_of_cell? w _ hw566_0)).trans hw566_0)⟩ (fun hHeld => ?_); refine with_tabW impl_lastUnlike.tab4 impl_lastUnlike.bits4 (fun HT_ HW_ => ?_)
        generalize wr.drew = w10 at BK564 HB HR565_0 HR566_0 hx565_0 hx566_0 hHeld ⊢
        refine pz (i := 0) (N := some 14) #[true, false, false, false, false, false, false, false, false, false] rfl rfl HT_.out ?_
        refine pz (i := 1) (N := some 15) #[true, true, false, false, false, false, false, false, false, false] rfl rfl HT_.out ?_
        refine pz (i := 2) (N := some 16) #[true, true, true, false, false, false, false, false, false, false] rfl rfl HT_.out ?_
        refine pz (i := 4) (N := some 18) #[true, true, true, false, true, false, false, false, false, false] rfl rfl HT_.out ?_
        refine pz (i := 5) (N := some 19) #[true, true, true, false, true, true, false, false, false, false] rfl rfl HT_.out ?_
        refine pz (i := 6) (N := some 20) #[true, true, true, false, true, true, true, false, false, false] rfl rfl HT_.out ?_
        refine tz (i := 3) (N := some 17) #[true, true, true, true, true, true, true, false, false, false] rfl rfl HT_.out HW_.out hHeld (Or.inl ⟨by rfl, by rintro w' ⟨s0, s1⟩; go_simp; with_reducible rfl⟩) ?_
        refine tz (i := 7) (N := some 21) #[true, true, true, true, true, true, true, true, false, false] rfl rfl HT_.out HW_.out hHeld (Or.inl ⟨by rfl, by rintro w' ⟨s0, s1⟩; go_simp; with_reducible rfl⟩) ?_
        refine one_ (i := 8) (N := some 22) #[true, true, true, true, true, true, true, true, true, false] rfl rfl (one_of HT_.out (by kernel_rfl)) (by decide) (fun K hK => ?_)
        refine goes_ Try.func60 (by kernel_rfl) rfl #[.slice A565_0 (rd_L1 l0 x6_1).length c565_0, .slice A566_0 (rd_L1 l1 x6_1).length c566_0] (by rfl) rfl rfl av ?_
        with_reducible refine (bytes_Equal.calls _ _ (rd_L1 l0 x6_1) _ _ (rd_L1 l1 x6_1) true _ ?side1 ?side2 ?side3 ?side4 A8.out).mono ?_
        (case side1 => exact cv ((Kd.C_below HR565_0.out HB.out)))
        (case side2 => exact HC565_0.out)
        (case side3 => exact cv ((Kd.C_below HR566_0.out HB.out)))
        (case side4 => exact HC566_0.out)
        rintro e w' ⟨rfl, ⟨nd, rfl⟩⟩
        refine ⟨_, rfl, ?_⟩
        refine hK.out _ _ ⟨((HB.out.cell (World.block_lt_of_cell? w _ hw565_0)).trans hw565_0), ((HB.out.cell (World.block_lt_of_cell? w _ hw566_0)).trans hw566_0)⟩ (fun hHeld => ?_)
        clear hK K
        refine nz (N := some 22) ?_
        refine pz (i := 9) (N := some 23) #[true, true, true, true, true, true, true, true, true, true] rfl rfl HT_.out ?_
        refine done_ (done_of HT_.out (by kernel_rfl)) ?_
        (try simp only [Dig.setCell_drewN])
        try go_wp2
        go_roundg k1
        case measure => have := HK1.out; omega
        case rel => exact ⟨(wrap64 (x6_1 - 1)), (by first | rfl | (simp; done) | (simp [*]; done)), H', ⟨by have := HK1.out; omega⟩, ⟨mb BK564.out⟩, ⟨b1 GE564.out⟩⟩
       ·replace c9 := Bool.eq_false_iff.mpr c9
        subst c9
        rw [if_neg (show ¬ (false = true) by decide)] at H
        replace H := Option.bind_eq_some_iff.mp H
        obtain ⟨⟨t570, t573⟩, A110, H⟩ := H
        (try dsimp -simprocs only at H)
        have A11 := am A110
        clear A110
        simp only [Option.some.injEq, Prod.mk.injEq] at H
        obtain ⟨rfl, rfl, rfl⟩ := H
        try go_wp2
        have n0_ := am (blk_drew BK564.out)
        have n1_ := am (below_drew1 HB.out)
        clear BK564
        clear HB
        have BK564 := n0_
        have HB := n1_
        clear n0_ n1_
        have p565 : 0 ≤ (x6_1 : Int) := of_decide_eq_true asm
        have q565 : x6_1 < (l0.length : Int) := of_decide_eq_true asm
        obtain ⟨ad565, A565_0, c565_0, e565, hx565_0, hl565_0, hi565_0⟩ := at_L1 HR0.out x6_1 p565 q565
        have hw565_0 := hx565_0
        cases e565
        replace hx565_0 := (HB.out.cell (World.block_lt_of_cell? w _ hx565_0)).trans hx565_0
        have HR565_0 := am hi565_0
        have HC565_0 := am hl565_0
        clear hi565_0 hl565_0
        replace p565 := eq_true p565
        replace q565 := eq_true q565
        have p566 : 0 ≤ (x6_1 : Int) := of_decide_eq_true asm
        have q566 : x6_1 < (l1.length : Int) := of_decide_eq_true asm
        obtain ⟨ad566, A566_0, c566_0, e566, hx566_0, hl566_0, hi566_0⟩ := at_L1 HR1.out x6_1 p566 q566
        have hw566_0 := hx566_0
        cases e566
        replace hx566_0 := (HB.out.cell (World.block_lt_of_cell? w _ hx566_0)).trans hx566_0
        have HR566_0 := am hi566_0
        have HC566_0 := am hl566_0
        clear hi566_0 hl566_0
        replace p566 := eq_true p566
        replace q566 := eq_true q566
        refine start_ (n := 10) (S := fun w' => w'.cell? (ad565.add (x6_1).toNat) = some (.slice A565_0 (rd_L1 l0 x6_1).length c565_0) ∧ w'.cell? (ad566.add (x6_1).toNat) = some (.slice A566_0 (rd_L1 l1 x6_1).length c566_0)) (ds := []) #[false, false, false, false, false, false, false, false, false, false] (by kernel_rfl) rfl rfl ⟨((HB.out.cell (World.block_lt_of_cell? w _ hw565_0)).trans hw565_0), ((HB.out.cell (World.block_lt_of_cell? w _ hw566_0)).trans hw566_0)⟩ (fun hHeld => ?_); refine with_tabW impl_lastUnlike.tab4 impl_lastUnlike.bits4 (fun HT_ HW_ => ?_)
        generalize wr.drew = w12 at BK564 HB HR565_0 HR566_0 hx565_0 hx566_0 hHeld ⊢
        refine pz (i := 0) (N := some 14) #[true, false, false, false, false, false, false, false, false, false] rfl rfl HT_.out ?_
        refine pz (i := 1) (N := some 15) #[true, true, false, false, false, false, false, false, false, false] rfl rfl HT_.out ?_
        refine pz (i := 2) (N := some 16) #[true, true, true, false, false, false, false, false, false, false] rfl rfl HT_.out ?_
        refine pz (i := 4) (N := some 18) #[true, true, true, false, true, false, false, false, false, false] rfl rfl HT_.out ?_
        refine pz (i := 5) (N := some 19) #[true, true, true, false, true, true, false, false, false, false] rfl rfl HT_.out ?_
        refine pz (i := 6) (N := some 20) #[true, true, true, false, true, true, true, false, false, false] rfl rfl HT_.out ?_
        refine tz (i := 3) (N := some 17) #[true, true, true, true, true, true, true, false, false, false] rfl rfl HT_.out HW_.out hHeld (Or.inl ⟨by rfl, by rintro w' ⟨s0, s1⟩; go_simp; with_reducible rfl⟩) ?_
        refine tz (i := 7) (N := some 21) #[true, true, true, true, true, true, true, true, false, false] rfl rfl HT_.out HW_.out hHeld (Or.inl ⟨by rfl, by rintro w' ⟨s0, s1⟩; go_simp; with_reducible rfl⟩) ?_
        refine one_ (i := 8) (N := some 22) #[true, true, true, true, true, true, true, true, true, false] rfl rfl (one_of HT_.out (by kernel_rfl)) (by decide) (fun K hK => ?_)
        refine goes_ Try.func60 (by kernel_rfl) rfl #[.slice A565_0 (rd_L1 l0 x6_1).length c565_0, .slice A566_0 (rd_L1 l1 x6_1).length c566_0] (by rfl) rfl rfl av ?_
        with_reducible refine (bytes_Equal.calls _ _ (rd_L1 l0 x6_1) _ _ (rd_L1 l1 x6_1) false _ ?side1 ?side2 ?side3 ?side4 A8.out).mono ?_
        (case side1 => exact cv ((Kd.C_below HR565_0.out HB.out)))
        (case side2 => exact HC565_0.out)
        (case side3 => exact cv ((Kd.C_below HR566_0.out HB.out)))
        (case side4 => exact HC566_0.out)
        rintro e w' ⟨rfl, ⟨nd, rfl⟩⟩
        refine ⟨_, rfl, ?_⟩
        refine hK.out _ _ ⟨((HB.out.cell (World.block_lt_of_cell? w _ hw565_0)).trans hw565_0), ((HB.out.cell (World.block_lt_of_cell? w _ hw566_0)).trans hw566_0)⟩ (fun hHeld => ?_)
        clear hK K
        refine nz (N := some 22) ?_
        refine pz (i := 9) (N := some 23) #[true, true, true, true, true, true, true, true, true, true] rfl rfl HT_.out ?_
        refine done_ (done_of HT_.out (by kernel_rfl)) ?_
        (try simp only [Dig.setCell_drewN])
        try go_wp2
        (try (rw [drewN_self w12]; generalize hq_ : World.drewN w12 _ = w12; have n0_ : Aside0 (w12.heap[gb564]? = some (.cells #[.slice none 0 0, .slice none 0 0] 33 (0, 0))) := ⟨by rw [← hq_]; exact (mb BK564.out)⟩; have n1_ : Aside0 (Below w.heap.size w w12) := ⟨by rw [← hq_]; exact (b1 GE564.out)⟩; clear BK564 HB hq_; have BK564 := n0_; have HB := n1_; clear n0_ n1_))
        have n0_ := am (blk_drew BK564.out)
        have n1_ := am (below_drew1 HB.out)
        clear BK564
        clear HB
        have BK564 := n0_
        have HB := n1_
        clear n0_ n1_
        have p568 : 0 ≤ (x6_1 : Int) := of_decide_eq_true asm
        have q568 : x6_1 < (l0.length : Int) := of_decide_eq_true asm
        obtain ⟨ad568, A568_0, c568_0, e568, hx568_0, hl568_0, hi568_0⟩ := at_L1 HR0.out x6_1 p568 q568
        have hw568_0 := hx568_0
        obtain rfl : ad565 = ad568 := (by injection e568)
        replace hx568_0 := (HB.out.cell (World.block_lt_of_cell? w _ hx568_0)).trans hx568_0
        have HR568_0 := am hi568_0
        have HC568_0 := am hl568_0
        clear hi568_0 hl568_0
        replace p568 := eq_true p568
        replace q568 := eq_true q568
        have p569 : 0 ≤ (x6_1 : Int) := of_decide_eq_true asm
        have q569 : x6_1 < (l1.length : Int) := of_decide_eq_true asm
        obtain ⟨ad569, A569_0, c569_0, e569, hx569_0, hl569_0, hi569_0⟩ := at_L1 HR1.out x6_1 p569 q569
        have hw569_0 := hx569_0
        obtain rfl : ad566 = ad569 := (by injection e569)
        replace hx569_0 := (HB.out.cell (World.block_lt_of_cell? w _ hx569_0)).trans hx569_0
        have HR569_0 := am hi569_0
        have HC569_0 := am hl569_0
        clear hi569_0 hl569_0
        replace p569 := eq_true p569
        replace q569 := eq_true q569
        refine start_ (n := 11) (S := fun w' => w'.cell? (ad565.add (x6_1).toNat) = some (.slice A568_0 (rd_L1 l0 x6_1).length c568_0) ∧ w'.cell? (ad566.add (x6_1).toNat) = some (.slice A569_0 (rd_L1 l1 x6_1).length c569_0)) (ds := []) #[false, false, false, false, false, false, false, false, false, false, false] (by kernel_rfl) rfl rfl ⟨((HB.out.cell (World.block_lt_of_cell? w _ hw568_0)).trans hw568_0), ((HB.out.cell (World.block_lt_of_cell? w _ hw569_0)).trans hw569_0)⟩ (fun hHeld => ?_); refine with_tabW impl_lastUnlike.tab5 impl_lastUnlike.bits5 (fun HT_ HW_ => ?_)
        generalize w12.drew = w13 at BK564 HB HR568_0 HR569_0 hx568_0 hx569_0 hHeld ⊢
        refine pz (i := 0) (N := some 24) #[true, false, false, false, false, false, false, false, false, false, false] rfl rfl HT_.out ?_
        refine pz (i := 1) (N := some 25) #[true, true, false, false, false, false, false, false, false, false, false] rfl rfl HT_.out ?_
        refine pz (i := 2) (N := some 26) #[true, true, true, false, false, false, false, false, false, false, false] rfl rfl HT_.out ?_
        refine pz (i := 4) (N := some 28) #[true, true, true, false, true, false, false, false, false, false, false] rfl rfl HT_.out ?_
        refine pz (i := 5) (N := some 29) #[true, true, true, false, true, true, false, false, false, false, false] rfl rfl HT_.out ?_
        refine pz (i := 6) (N := some 30) #[true, true, true, false, true, true, true, false, false, false, false] rfl rfl HT_.out ?_
        refine tz (i := 3) (N := some 27) #[true, true, true, true, true, true, true, false, false, false, false] rfl rfl HT_.out HW_.out hHeld (Or.inl ⟨by rfl, by rintro w' ⟨s0, s1⟩; go_simp; with_reducible rfl⟩) ?_
        refine tz (i := 7) (N := some 31) #[true, true, true, true, true, true, true, true, false, false, false] rfl rfl HT_.out HW_.out hHeld (Or.inl ⟨by rfl, by rintro w' ⟨s0, s1⟩; go_simp; with_reducible rfl⟩) ?_
        refine one_ (i := 8) (N := some 32) #[true, true, true, true, true, true, true, true, true, false, false] rfl rfl (one_of HT_.out (by kernel_rfl)) (by decide) (fun K hK => ?_)
        refine goes_ Try.func71 (by kernel_rfl) rfl #[.slice A568_0 (rd_L1 l0 x6_1).length c568_0, .slice A569_0 (rd_L1 l1 x6_1).length c569_0] (by rfl) rfl rfl av ?_
        with_reducible refine (impl_pairOf.calls _ _ (rd_L1 l0 x6_1) _ _ (rd_L1 l1 x6_1) t570 t573 _ ?side1 ?side2 ?side3 ?side4 A11.out).mono ?_
        (case side1 => exact cv ((Kd.C_below HR568_0.out HB.out)))
        (case side2 => exact HC568_0.out)
        (case side3 => exact cv ((Kd.C_below HR569_0.out HB.out)))
        (case side4 => exact HC569_0.out)
        rintro e w14 ⟨v571, v574, rfl, ho0, ho1, hb⟩
        refine ⟨_, rfl, ?_⟩
        have n0_ := am (Kd.R_lower ho0 (below_size (b1 GE564.out)))
        have n1_ := am (Kd.R_lower ho1 (below_size (b1 GE564.out)))
        have n2_ := am (blk_below (g := gb564) (o := .cells #[.slice none 0 0, .slice none 0 0] 33 (0, 0)) (mb BK564.out) hb)
        have n3_ := am (below_step (b1 GE564.out) hb)
        clear BK564
        clear HB
        have HO572 := n0_
        have HO575 := n1_
        have BK564 := n2_
        have HB := n3_
        clear n0_ n1_ n2_ n3_
        (try clear hb)
        (try clear hb2)
        (try clear hk)
        (try clear hi)
        (try clear ho0)
        (try clear ho1)
        obtain ⟨Ao15, co15, eo15⟩ := Kd.R_slice HO572.out
        (first | subst eo15 | (injection eo15 with f1_ f2_ f3_; have f4_ := f1_.symm; have f5_ := f3_.symm; clear f1_ f2_ f3_; subst f4_; subst f5_))
        obtain ⟨Ao17, co17, eo17⟩ := Kd.R_slice HO575.out
        (first | subst eo17 | (injection eo17 with f1_ f2_ f3_; have f4_ := f1_.symm; have f5_ := f3_.symm; clear f1_ f2_ f3_; subst f4_; subst f5_))
        refine hK.out _ _ ⟨((HB.out.cell (World.block_lt_of_cell? w _ hw568_0)).trans hw568_0), ((HB.out.cell (World.block_lt_of_cell? w _ hw569_0)).trans hw569_0)⟩ (fun hHeld => ?_)
        clear hK K
        refine nz (N := some 32) ?_
        refine one_ (i := 9) (N := none) #[true, true, true, true, true, true, true, true, true, true, false] rfl rfl (one_of HT_.out (by kernel_rfl)) (by decide) (fun K hK => ?_)
        have hs16 : w14.cell? ⟨gb564, 0, none⟩ = some (.slice none 0 0) := (blk_cell BK564.out 0).trans rfl
        have hfs16 := blk_frozen BK564.out 0
        have hs18 : w14.cell? ⟨gb564, 1, none⟩ = some (.slice none 0 0) := (blk_cell BK564.out 1).trans rfl
        have hfs18 := blk_frozen BK564.out 1
        refine skip_ (w1 := ?_) (by rfl) rfl ?_ ?_
        rotate_left
        ·go_simp
         rfl
        refine hK.out _ _ ⟨((cell_far (p := ⟨gb564, _, none⟩) (by first | exact Nat.ne_of_lt (Nat.lt_of_lt_of_le (by have := World.block_lt_of_cell? _ _ hw568_0; first | rwa [add_block] at this | exact this) GW564.out) | (rw [add_block]; exact Nat.ne_of_lt (Nat.lt_of_lt_of_le (by have := World.block_lt_of_cell? _ _ hw568_0; first | rwa [add_block] at this | exact this) GW564.out)) | (show (Addr.add _ _).block ≠ _; rw [add_block]; exact Nat.ne_of_lt (Nat.lt_of_lt_of_le (by have := World.block_lt_of_cell? _ _ hw568_0; first | rwa [add_block] at this | exact this) GW564.out)) | (dsimp only; exact Nat.ne_of_lt (Nat.lt_of_lt_of_le (by have := World.block_lt_of_cell? _ _ hw568_0; first | rwa [add_block] at this | exact this) GW564.out))) _).trans (((cell_far (p := ⟨gb564, _, none⟩) (by first | exact Nat.ne_of_lt (Nat.lt_of_lt_of_le (by have := World.block_lt_of_cell? _ _ hw568_0; first | rwa [add_block] at this | exact this) GW564.out) | (rw [add_block]; exact Nat.ne_of_lt (Nat.lt_of_lt_of_le (by have := World.block_lt_of_cell? _ _ hw568_0; first | rwa [add_block] at this | exact this) GW564.out)) | (show (Addr.add _ _).block ≠ _; rw [add_block]; exact Nat.ne_of_lt (Nat.lt_of_lt_of_le (by have := World.block_lt_of_cell? _ _ hw568_0; first | rwa [add_block] at this | exact this) GW564.out)) | (dsimp only; exact Nat.ne_of_lt (Nat.lt_of_lt_of_le (by have := World.block_lt_of_cell? _ _ hw568_0; first | rwa [add_block] at this | exact this) GW564.out))) _).trans (hHeld.1)))), ((cell_far (p := ⟨gb564, _, none⟩) (by first | exact Nat.ne_of_lt (Nat.lt_of_lt_of_le (by have := World.block_lt_of_cell? _ _ hw569_0; first | rwa [add_block] at this | exact this) GW564.out) | (rw [add_block]; exact Nat.ne_of_lt (Nat.lt_of_lt_of_le (by have := World.block_lt_of_cell? _ _ hw569_0; first | rwa [add_block] at this | exact this) GW564.out)) | (show (Addr.add _ _).block ≠ _; rw [add_block]; exact Nat.ne_of_lt (Nat.lt_of_lt_of_le (by have := World.block_lt_of_cell? _ _ hw569_0; first | rwa [add_block] at this | exact this) GW564.out)) | (dsimp only; exact Nat.ne_of_lt (Nat.lt_of_lt_of_le (by have := World.block_lt_of_cell? _ _ hw569_0; first | rwa [add_block] at this | exact this) GW564.out))) _).trans (((cell_far (p := ⟨gb564, _, none⟩) (by first | exact Nat.ne_of_lt (Nat.lt_of_lt_of_le (by have := World.block_lt_of_cell? _ _ hw569_0; first | rwa [add_block] at this | exact this) GW564.out) | (rw [add_block]; exact Nat.ne_of_lt (Nat.lt_of_lt_of_le (by have := World.block_lt_of_cell? _ _ hw569_0; first | rwa [add_block] at this | exact this) GW564.out)) | (show (Addr.add _ _).block ≠ _; rw [add_block]; exact Nat.ne_of_lt (Nat.lt_of_lt_of_le (by have := World.block_lt_of_cell? _ _ hw569_0; first | rwa [add_block] at this | exact this) GW564.out)) | (dsimp only; exact Nat.ne_of_lt (Nat.lt_of_lt_of_le (by have := World.block_lt_of_cell? _ _ hw569_0; first | rwa [add_block] at this | exact this) GW564.out))) _).trans (hHeld.2))))⟩ (fun hHeld => ?_)
        clear hK K
        refine pz (i := 10) (N := some 5) #[true, true, true, true, true, true, true, true, true, true, true] rfl rfl HT_.out ?_
        refine done_ (done_of HT_.out (by kernel_rfl)) ?_
        (try simp only [Dig.setCell_drewN])
        try go_wp2
        refine bodyPost_ret (results_ct rfl _ _ gb564 33 #[.slice Ao15 t570.length co15, .slice Ao17 t573.length co17] (0, 0) _ rfl (by (with_reducible repeat (first | refine blk_drewN ?_ _ | refine blk_drew ?_ | refine blk_alloc ?_ _)); refine blk_put (cs := #[.slice Ao15 t570.length co15, .slice none 0 0]) ?_ 1 _ rfl; (with_reducible repeat (first | refine blk_drewN ?_ _ | refine blk_drew ?_ | refine blk_alloc ?_ _)); refine blk_put (cs := #[.slice none 0 0, .slice none 0 0]) ?_ 0 _ rfl; (with_reducible repeat (first | refine blk_drewN ?_ _ | refine blk_drew ?_ | refine blk_alloc ?_ _)); exact BK564.out) Try.underlying33 rfl (by kernel_rfl)) rfl ?_
        exact ⟨_, _, by first | rfl | (simp [errW_none, errW_some] <;> rfl) | (simp [*, errW_none, errW_some] <;> rfl), by (with_reducible repeat (first | apply Kd.R_alloc | apply Kd.R_drewN | apply Kd.R_drew)); exact Kd.R_mono (Kd.R_far (p := ⟨gb564, 1, none⟩) (Kd.R_far (p := ⟨gb564, 0, none⟩) (Kd.R_types HO572.out BK564.out (by decide)) (fun _ hk => hk.2) (.slice Ao15 t570.length co15)) (fun _ hk => hk.2) (.slice Ao17 t573.length co17)) (fun _ hk => hk.1), by (with_reducible repeat (first | apply Kd.R_alloc | apply Kd.R_drewN | apply Kd.R_drew)); exact Kd.R_mono (Kd.R_far (p := ⟨gb564, 1, none⟩) (Kd.R_far (p := ⟨gb564, 0, none⟩) (Kd.R_types HO575.out BK564.out (by decide)) (fun _ hk => hk.2) (.slice Ao15 t570.length co15)) (fun _ hk => hk.2) (.slice Ao17 t573.length co17)) (fun _ hk => hk.1), b1 GE564.out⟩
      ·rw [if_neg c7] at H
       exact absurd H (by simp)
     ·rw [if_neg c6] at H
      exact absurd H (by simp)
    ·rw [if_neg c5] at H
     exact absurd H (by simp)
   ·rw [if_neg c4] at H
    have c4b0 : decide (0 ≤ x6_1) = false := decide_eq_false c4
    clear c4
    simp only [Option.some.injEq, Prod.mk.injEq] at H
    obtain ⟨rfl, rfl, rfl⟩ := H
    have hcz19_0 : wr.cell? ⟨gb564, 0, none⟩ = some (.slice none 0 0) := (blk_cell BK564.out 0).trans rfl
    have hcz19_1 : wr.cell? ⟨gb564, 1, none⟩ = some (.slice none 0 0) := (blk_cell BK564.out 1).trans rfl
    have hfz19_0 := blk_frozen BK564.out 0
    have hfz19_1 := blk_frozen BK564.out 1
    go_wp2
    refine bodyPost_ret (results_ct rfl _ _ gb564 33 #[.slice none 0 0, .slice none 0 0] (0, 0) _ rfl (by (with_reducible repeat (first | refine blk_drewN ?_ _ | refine blk_drew ?_ | refine blk_alloc ?_ _)); refine blk_put (cs := #[.slice none 0 0, .slice none 0 0]) ?_ 1 _ rfl; (with_reducible repeat (first | refine blk_drewN ?_ _ | refine blk_drew ?_ | refine blk_alloc ?_ _)); refine blk_put (cs := #[.slice none 0 0, .slice none 0 0]) ?_ 0 _ rfl; (with_reducible repeat (first | refine blk_drewN ?_ _ | refine blk_drew ?_ | refine blk_alloc ?_ _)); exact BK564.out) Try.underlying33 rfl (by kernel_rfl)) rfl ?_
    exact ⟨_, _, by first | rfl | (simp [errW_none, errW_some] <;> rfl) | (simp [*, errW_none, errW_some] <;> rfl), by first | exact Kd.R_nil _ _ _ _ _ | exact Kd.N_nil _ _ _ _ _ | exact Kd.V_nil _ _ _ _ _ | exact Kd.Q_nil _ _ _ _ _ | exact Kd.S_nil _ _ _ _ _, by first | exact Kd.R_nil _ _ _ _ _ | exact Kd.N_nil _ _ _ _ _ | exact Kd.V_nil _ _ _ _ _ | exact Kd.Q_nil _ _ _ _ _ | exact Kd.S_nil _ _ _ _ _, b1 GE564.out⟩

/-! ### impl_FromPaths: function 21 -/
def impl_FromPaths.f (k : Nat) (a0 : Int) (a1 : Int) (a2 : Int) (l3 : List Int) (l4 : List Int) (l5 : List Int) (l6 : List Int) : Option (List Int × List Int × Bool) := (impl_climb.f k a0 a1 a2 l3 l4).bind fun bt577 => ((impl_climb.f k a0 a1 a2 l5 l6).bind fun bt581 => (if bt577.2 = true then (if bt581.2 = true then ((impl_lastOf.f a0 bt577.1 true).bind fun t585 => ((impl_lastOf.f a0 bt581.1 true).bind fun t586 => (if t585 = t586 then ((impl_lastUnlike.f k bt577.1 bt581.1).bind fun bt587 => (some (bt587.1, bt587.2.1, bt587.2.2))) else (some (([] : List Int), ([] : List Int), false))))) else (some (([] : List Int), ([] : List Int), false))) else (some (([] : List Int), ([] : List Int), false))))
set_option maxHeartbeats 8000000 in
set_option maxRecDepth 100000 in
theorem impl_FromPaths.calls (k : Nat) (a0 : Int) (a1 : Int) (a2 : Int) (A3 : Option Addr) (c3 : Nat) (l3 : List Int) (A4 : Option Addr) (c4 : Nat) (l4 : List Int) (A5 : Option Addr) (c5 : Nat) (l5 : List Int) (A6 : Option Addr) (c6 : Nat) (l6 : List Int) (r1 : List Int) (r2 : List Int) (r3 : Bool) (w : World) (hr3 : Kd.C (Kd.int .u8) w A3 l3.length l3) (hc3 : l3.length ≤ c3) (hr4 : Kd.C (Kd.int .i64) w A4 l4.length l4) (hc4 : l4.length ≤ c4) (hr5 : Kd.C (Kd.int .u8) w A5 l5.length l5) (hc5 : l5.length ≤ c5) (hr6 : Kd.C (Kd.int .i64) w A6 l6.length l6) (hc6 : l6.length ≤ c6) (h : impl_FromPaths.f k a0 a1 a2 l3 l4 l5 l6 = some (r1, r2, r3)) :
  Calls Try.prog 21 #[.int .i64 a0, .int .i64 a1, .int .i64 a2, .slice A3 l3.length c3, .slice A4 l4.length c4, .slice A5 l5.length c5, .slice A6 l6.length c6] w fun e w' => ∃ v0_ v1_ : Value, e = .returned (.tuple #[.agg #[v0_, v1_], .bool r3]) ∧ Kd.R (Kd.int .u8) 5 w' w.heap.size (fun k_ => some k_ ≠ (v1_ : Value).ownBlock) v0_ r1 ∧ Kd.R (Kd.int .u8) 5 w' w.heap.size (fun k_ => some k_ ≠ (v0_ : Value).ownBlock) v1_ r2 ∧ Below w.heap.size w w' := by
 have hu33 := Try.underlying33
 have HR3 := am hr3
 have HC3 := am hc3
 clear hr3 hc3
 have HR4 := am hr4
 have HC4 := am hc4
 clear hr4 hc4
 have HR5 := am hr5
 have HC5 := am hc5
 clear hr5 hc5
 have HR6 := am hr6
 have HC6 := am hc6
 clear hr6 hc6
 have HB := am (Below.refl w.heap.size w)
 have H : ((impl_climb.f k a0 a1 a2 l3 l4).bind fun bt577 => ((impl_climb.f k a0 a1 a2 l5 l6).bind fun bt581 => (if bt577.2 = true then (if bt581.2 = true then ((impl_lastOf.f a0 bt577.1 true).bind fun t585 => ((impl_lastOf.f a0 bt581.1 true).bind fun t586 => (if t585 = t586 then ((impl_lastUnlike.f k bt577.1 bt581.1).bind fun bt587 => (some (bt587.1, bt587.2.1, bt587.2.2))) else (some (([] : List Int), ([] : List Int), false))))) else (some (([] : List Int), ([] : List Int), false))) else (some (([] : List Int), ([] : List Int), false))))) = some (r1, r2, r3) := h
 clear h
 replace H := Option.bind_eq_some_iff.mp H
 obtain ⟨⟨t577, t580⟩, A80, H⟩ := H
 (try dsimp -simprocs only at H)
 have A8 := am A80
 clear A80
 replace H := Option.bind_eq_some_iff.mp H
 obtain ⟨⟨t581, t584⟩, A90, H⟩ := H
 (try dsimp -simprocs only at H)
 have A9 := am A90
 clear A90
 by_cases c10 : t580 = true
 ·subst c10
  rw [if_pos rfl] at H
  by_cases c11 : t584 = true
  ·subst c11
   rw [if_pos rfl] at H
   replace H := Option.bind_eq_some_iff.mp H
   obtain ⟨t585, A120, H⟩ := H
   (try dsimp -simprocs only at H)
   have A12 := am A120
   clear A120
   replace H := Option.bind_eq_some_iff.mp H
   obtain ⟨t586, A130, H⟩ := H
   (try dsimp -simprocs only at H)
   have A13 := am A130
   clear A130
   by_cases c14 : t585 = t586
   ·rw [if_pos c14] at H
    have c14b0 : (t585 == t586) = true := beq_iff_eq.mpr c14
    have c14b1 : (t585 != t586) = false := bne_eq_false_iff_eq.mpr c14
    clear c14
    replace H := Option.bind_eq_some_iff.mp H
    obtain ⟨⟨t587, t590, t593⟩, A150, H⟩ := H
    (try dsimp -simprocs only at H)
    have A15 := am A150
    clear A150
    simp only [Option.some.injEq, Prod.mk.injEq] at H
    obtain ⟨rfl, rfl, rfl⟩ := H
    go_enter Try.func21, Try.ntmps21
    go_wp2_with (first | ((with_reducible refine gate_dst (N := 14) rfl ?_); refine box_event ?hg (N := 14) ?hd (cs := #[.slice none 0 0, .slice none 0 0]) (t := 33) ?hr ?_; (case hd => rfl); (case hg => rfl); (case hr => first | (go_simp; done) | (go_simp; rfl)); intro gb576 hg w16 hbox hb; have BK576 := am (hbox); have GW576 := am ((by rw [hg]; exact (below_size (bt)) : w.heap.size ≤ gb576)); have GE576 := am ((by rw [hg]; exact (below_size (bt)) : w.heap.size ≤ gb576)); replace HB := am (below_step (bt) hb); clear hb hbox hg) | ((with_reducible refine gate_callee (f := 59) rfl ?_); refine goesL_ (some 26) rfl rfl Try.func59 (by kernel_rfl) rfl #[.int .i64 a0, .int .i64 a1, .int .i64 a2, .slice A3 l3.length c3, .slice A4 l4.length c4] rfl av ?_; (with_reducible refine (impl_climb.calls k a0 a1 a2 _ _ l3 (fun k_ => k_ < w.heap.size) _ _ l4 t577 true _ ?side1 ?side2 ?side3 A8.out).mono ?_); (case side1 => exact cv ((Kd.C_below HR3.out HB.out))); (case side2 => exact HC3.out); (case side3 => exact Kd.V_mk HC4.out (Kd.F_below (Kd.C_F (Kd.heap_int .i64) HR4.out) (b1 GE576.out))); rintro e w17 ⟨v578, rfl, ho0, hb⟩; refine ⟨_, rfl, ?_⟩; have HO579 := am (Kd.S_lower (Kd.S_mono (ok' := fun k_ => True) ho0 (fun _ hk_ => trivial)) (below_size (b1 GE576.out))); replace BK576 := am (blk_below (g := gb576) (o := .cells #[.slice none 0 0, .slice none 0 0] 33 (0, 0)) (mb BK576.out) hb); replace HB := am (below_step (b1 GE576.out) hb); (try clear hb); (try clear hb2); (try clear hk); (try clear hi); (try clear ho0)) | ((with_reducible refine gate_callee (f := 59) rfl ?_); refine goesL_ (some 35) rfl rfl Try.func59 (by kernel_rfl) rfl #[.int .i64 a0, .int .i64 a1, .int .i64 a2, .slice A5 l5.length c5, .slice A6 l6.length c6] rfl av ?_; (with_reducible refine (impl_climb.calls k a0 a1 a2 _ _ l5 (fun k_ => k_ < w.heap.size) _ _ l6 t581 true _ ?side1 ?side2 ?side3 A9.out).mono ?_); (case side1 => exact cv ((Kd.C_below HR5.out HB.out))); (case side2 => exact HC5.out); (case side3 => exact Kd.V_mk HC6.out (Kd.F_below (Kd.C_F (Kd.heap_int .i64) HR6.out) (b1 GE576.out))); rintro e w18 ⟨v582, rfl, ho0, hb⟩; refine ⟨_, rfl, ?_⟩; have HO583 := am (Kd.S_lower (Kd.S_new' (Kd.S_mono (ok' := fun k_ => True) ho0 (fun _ hk_ => trivial)) (Kd.S_lt (mv HO579.out))) (below_size (b1 GE576.out))); replace HO579 := am (Kd.S_elder' (mv HO579.out) (Kd.S_base ho0) hb); replace BK576 := am (blk_below (g := gb576) (o := .cells #[.slice none 0 0, .slice none 0 0] 33 (0, 0)) (mb BK576.out) hb); replace HB := am (below_step (b1 GE576.out) hb); (try clear hb); (try clear hb2); (try clear hk); (try clear hi); (try clear ho0); obtain ⟨Ao19, co19, eo19⟩ := Kd.S_slice HO579.out; subst eo19) | (go_at_call 69; (with_reducible refine (impl_lastOf.calls a0 _ _ t577 true t585 _ ?side1 ?side2 A12.out).mono ?_); (case side1 => exact cv ((Kd.S_reads' HO579.out).2.2)); (case side2 => exact (Kd.S_reads' HO579.out).2.1); rintro e w20 ⟨rfl, hb⟩; replace HO579 := am (Kd.S_below (mv HO579.out) hb); replace HO583 := am (Kd.S_below (mv HO583.out) hb); replace BK576 := am (blk_below (g := gb576) (o := .cells #[.slice none 0 0, .slice none 0 0] 33 (0, 0)) (mb BK576.out) hb); replace HB := am (below_step (b1 GE576.out) hb); (try clear hb); (try clear hb2); (try clear hk); (try clear hi); obtain ⟨Ao21, co21, eo21⟩ := Kd.S_slice HO583.out; subst eo21) | (go_at_call 69; (with_reducible refine (impl_lastOf.calls a0 _ _ t581 true t586 _ ?side1 ?side2 A13.out).mono ?_); (case side1 => exact cv ((Kd.S_reads' HO583.out).2.2)); (case side2 => exact (Kd.S_reads' HO583.out).2.1); rintro e w22 ⟨rfl, hb⟩; replace HO579 := am (Kd.S_below (mv HO579.out) hb); replace HO583 := am (Kd.S_below (mv HO583.out) hb); replace BK576 := am (blk_below (g := gb576) (o := .cells #[.slice none 0 0, .slice none 0 0] 33 (0, 0)) (mb BK576.out) hb); replace HB := am (below_step (b1 GE576.out) hb); (try clear hb); (try clear hb2); (try clear hk); (try clear hi)) | ((with_reducible refine gate_callee (f := 70) rfl ?_); refine goesL_ (some 56) rfl rfl Try.func70 (by kernel_rfl) rfl #[.slice Ao19 t577.length co19, .slice Ao21 t581.length co21] rfl av ?_; (with_reducible refine (impl_lastUnlike.calls k _ _ t577 _ _ t581 t587 t590 t593 _ ?side1 ?side2 ?side3 ?side4 A15.out).mono ?_); (case side1 => exact cv ((Kd.S_reads' HO579.out).2.2)); (case side2 => exact (Kd.S_reads' HO579.out).2.1); (case side3 => exact cv ((Kd.S_reads' HO583.out).2.2)); (case side4 => exact (Kd.S_reads' HO583.out).2.1); rintro e w23 ⟨v588, v591, rfl, ho0, ho1, hb⟩; refine ⟨_, rfl, ?_⟩; replace HO579 := am (Kd.S_mono (Kd.S_told (Kd.S_told (Kd.S_old (mv HO579.out) hb) (Kd.R_base ho0)) (Kd.R_base ho1)) (fun _ h_ => h_.1)); replace HO583 := am (Kd.S_mono (Kd.S_told (Kd.S_told (Kd.S_old (mv HO583.out) hb) (Kd.R_base ho0)) (Kd.R_base ho1)) (fun _ h_ => h_.1)); have HO589 := am (Kd.R_lower ho0 (below_size (b1 GE576.out))); have HO592 := am (Kd.R_lower ho1 (below_size (b1 GE576.out))); replace BK576 := am (blk_below (g := gb576) (o := .cells #[.slice none 0 0, .slice none 0 0] 33 (0, 0)) (mb BK576.out) hb); replace HB := am (below_step (b1 GE576.out) hb); (try clear hb); (try clear hb2); (try clear hk); (try clear hi); (try clear ho0); (try clear ho1); obtain ⟨Ao24, co24, eo24⟩ := Kd.R_slice HO589.out; subst eo24; have hcz25_0 : w23.cell? ⟨gb576, 0, none⟩ = some (.slice none 0 0) := (blk_cell BK576.out 0).trans rfl; have hcz25_1 : w23.cell? ⟨gb576, 1, none⟩ = some (.slice none 0 0) := (blk_cell BK576.out 1).trans rfl; have hfz25_0 := blk_frozen BK576.out 0; have hfz25_1 := blk_frozen BK576.out 1; obtain ⟨Ao26, co26, eo26⟩ := Kd.R_slice HO592.out; subst eo26))
    refine bodyPost_ret (results_ct rfl _ _ gb576 33 #[.slice Ao24 t587.length co24, .slice Ao26 t590.length co26] (0, 0) _ rfl (by (with_reducible repeat (first | refine blk_drewN ?_ _ | refine blk_drew ?_ | refine blk_alloc ?_ _)); refine blk_put (cs := #[.slice Ao24 t587.length co24, .slice none 0 0]) ?_ 1 _ rfl; (with_reducible repeat (first | refine blk_drewN ?_ _ | refine blk_drew ?_ | refine blk_alloc ?_ _)); refine blk_put (cs := #[.slice none 0 0, .slice none 0 0]) ?_ 0 _ rfl; (with_reducible repeat (first | refine blk_drewN ?_ _ | refine blk_drew ?_ | refine blk_alloc ?_ _)); exact BK576.out) Try.underlying33 rfl (by kernel_rfl)) rfl ?_
    exact ⟨_, _, by first | rfl | (simp [errW_none, errW_some] <;> rfl) | (simp [*, errW_none, errW_some] <;> rfl), by (with_reducible repeat (first | apply Kd.R_alloc | apply Kd.R_drewN | apply Kd.R_drew)); exact Kd.R_mono (Kd.R_far (p := ⟨gb576, 1, none⟩) (Kd.R_far (p := ⟨gb576, 0, none⟩) (Kd.R_types HO589.out BK576.out (by decide)) (fun _ hk => hk.2) (.slice Ao24 t587.length co24)) (fun _ hk => hk.2) (.slice Ao26 t590.length co26)) (fun _ hk => hk.1), by (with_reducible repeat (first | apply Kd.R_alloc | apply Kd.R_drewN | apply Kd.R_drew)); exact Kd.R_mono (Kd.R_far (p := ⟨gb576, 1, none⟩) (Kd.R_far (p := ⟨gb576, 0, none⟩) (Kd.R_types HO592.out BK576.out (by decide)) (fun _ hk => hk.2) (.slice Ao24 t587.length co24)) (fun _ hk => hk.2) (.slice Ao26 t590.length co26)) (fun _ hk => hk.1), b1 GE576.out⟩
   ·rw [if_neg c14] at H
    have c14b0 : (t585 == t586) = false := beq_eq_false_iff_ne.mpr c14
    have c14b1 : (t585 != t586) = true := bne_iff_ne.mpr c14
    simp only [Option.some.injEq, Prod.mk.injEq] at H
    obtain ⟨rfl, rfl, rfl⟩ := H
    go_enter Try.func21, Try.ntmps21
    go_wp2_with (first | ((with_reducible refine gate_dst (N := 14) rfl ?_); refine box_event ?hg (N := 14) ?hd (cs := #[.slice none 0 0, .slice none 0 0]) (t := 33) ?hr ?_; (case hd => rfl); (case hg => rfl); (case hr => first | (go_simp; done) | (go_simp; rfl)); intro gb576 hg w27 hbox hb; have BK576 := am (hbox); have GW576 := am ((by rw [hg]; exact (below_size (bt)) : w.heap.size ≤ gb576)); have GE576 := am ((by rw [hg]; exact (below_size (bt)) : w.heap.size ≤ gb576)); replace HB := am (below_step (bt) hb); clear hb hbox hg) | ((with_reducible refine gate_callee (f := 59) rfl ?_); refine goesL_ (some 26) rfl rfl Try.func59 (by kernel_rfl) rfl #[.int .i64 a0, .int .i64 a1, .int .i64 a2, .slice A3 l3.length c3, .slice A4 l4.length c4] rfl av ?_; (with_reducible refine (impl_climb.calls k a0 a1 a2 _ _ l3 (fun k_ => k_ < w.heap.size) _ _ l4 t577 true _ ?side1 ?side2 ?side3 A8.out).mono ?_); (case side1 => exact cv ((Kd.C_below HR3.out HB.out))); (case side2 => exact HC3.out); (case side3 => exact Kd.V_mk HC4.out (Kd.F_below (Kd.C_F (Kd.heap_int .i64) HR4.out) (b1 GE576.out))); rintro e w28 ⟨v578, rfl, ho0, hb⟩; refine ⟨_, rfl, ?_⟩; have HO579 := am (Kd.S_lower (Kd.S_mono (ok' := fun k_ => True) ho0 (fun _ hk_ => trivial)) (below_size (b1 GE576.out))); replace BK576 := am (blk_below (g := gb576) (o := .cells #[.slice none 0 0, .slice none 0 0] 33 (0, 0)) (mb BK576.out) hb); replace HB := am (below_step (b1 GE576.out) hb); (try clear hb); (try clear hb2); (try clear hk); (try clear hi); (try clear ho0)) | ((with_reducible refine gate_callee (f := 59) rfl ?_); refine goesL_ (some 35) rfl rfl Try.func59 (by kernel_rfl) rfl #[.int .i64 a0, .int .i64 a1, .int .i64 a2, .slice A5 l5.length c5, .slice A6 l6.length c6] rfl av ?_; (with_reducible refine (impl_climb.calls k a0 a1 a2 _ _ l5 (fun k_ => k_ < w.heap.size) _ _ l6 t581 true _ ?side1 ?side2 ?side3 A9.out).mono ?_); (case side1 => exact cv ((Kd.C_below HR5.out HB.out))); (case side2 => exact HC5.out); (case side3 => exact Kd.V_mk HC6.out (Kd.F_below (Kd.C_F (Kd.heap_int .i64) HR6.out) (b1 GE576.out))); rintro e w29 ⟨v582, rfl, ho0, hb⟩; refine ⟨_, rfl, ?_⟩; have HO583 := am (Kd.S_lower (Kd.S_new' (Kd.S_mono (ok' := fun k_ => True) ho0 (fun _ hk_ => trivial)) (Kd.S_lt (mv HO579.out))) (below_size (b1 GE576.out))); replace HO579 := am (Kd.S_elder' (mv HO579.out) (Kd.S_base ho0) hb); replace BK576 := am (blk_below (g := gb576) (o := .cells #[.slice none 0 0, .slice none 0 0] 33 (0, 0)) (mb BK576.out) hb); replace HB := am (below_step (b1 GE576.out) hb); (try clear hb); (try clear hb2); (try clear hk); (try clear hi); (try clear ho0); obtain ⟨Ao30, co30, eo30⟩ := Kd.S_slice HO579.out; subst eo30) | (go_at_call 69; (with_reducible refine (impl_lastOf.calls a0 _ _ t577 true t585 _ ?side1 ?side2 A12.out).mono ?_); (case side1 => exact cv ((Kd.S_reads' HO579.out).2.2)); (case side2 => exact (Kd.S_reads' HO579.out).2.1); rintro e w31 ⟨rfl, hb⟩; replace HO579 := am (Kd.S_below (mv HO579.out) hb); replace HO583 := am (Kd.S_below (mv HO583.out) hb); replace BK576 := am (blk_below (g := gb576) (o := .cells #[.slice none 0 0, .slice none 0 0] 33 (0, 0)) (mb BK576.out) hb); replace HB := am (below_step (b1 GE576.out) hb); (try clear hb); (try clear hb2); (try clear hk); (try clear hi); obtain ⟨Ao32, co32, eo32⟩ := Kd.S_slice HO583.out; subst eo32) | (go_at_call 69; (with_reducible refine (impl_lastOf.calls a0 _ _ t581 true t586 _ ?side1 ?side2 A13.out).mono ?_); (case side1 => exact cv ((Kd.S_reads' HO583.out).2.2)); (case side2 => exact (Kd.S_reads' HO583.out).2.1); rintro e w33 ⟨rfl, hb⟩; replace HO579 := am (Kd.S_below (mv HO579.out) hb); replace HO583 := am (Kd.S_below (mv HO583.out) hb); replace BK576 := am (blk_below (g := gb576) (o := .cells #[.slice none 0 0, .slice none 0 0] 33 (0, 0)) (mb BK576.out) hb); replace HB := am (below_step (b1 GE576.out) hb); (try clear hb); (try clear hb2); (try clear hk); (try clear hi); have hcz34_0 : w33.cell? ⟨gb576, 0, none⟩ = some (.slice none 0 0) := (blk_cell BK576.out 0).trans rfl; have hcz34_1 : w33.cell? ⟨gb576, 1, none⟩ = some (.slice none 0 0) := (blk_cell BK576.out 1).trans rfl; have hfz34_0 := blk_frozen BK576.out 0; have hfz34_1 := blk_frozen BK576.out 1))
    refine bodyPost_ret (results_ct rfl _ _ gb576 33 #[.slice none 0 0, .slice none 0 0] (0, 0) _ rfl (by (with_reducible repeat (first | refine blk_drewN ?_ _ | refine blk_drew ?_ | refine blk_alloc ?_ _)); refine blk_put (cs := #[.slice none 0 0, .slice none 0 0]) ?_ 1 _ rfl; (with_reducible repeat (first | refine blk_drewN ?_ _ | refine blk_drew ?_ | refine blk_alloc ?_ _)); refine blk_put (cs := #[.slice none 0 0, .slice none 0 0]) ?_ 0 _ rfl; (with_reducible repeat (first | refine blk_drewN ?_ _ | refine blk_drew ?_ | refine blk_alloc ?_ _)); exact BK576.out) Try.underlying33 rfl (by kernel_rfl)) rfl ?_
    exact ⟨_, _, by first | rfl | (simp [errW_none, errW_some] <;> rfl) | (simp [*, errW_none, errW_some] <;> rfl), by first | exact Kd.R_nil _ _ _ _ _ | exact Kd.N_nil _ _ _ _ _ | exact Kd.V_nil _ _ _ _ _ | exact Kd.Q_nil _ _ _ _ _ | exact Kd.S_nil _ _ _ _ _, by first | exact Kd.R_nil _ _ _ _ _ | exact Kd.N_nil _ _ _ _ _ | exact Kd.V_nil _ _ _ _ _ | exact Kd.Q_nil _ _ _ _ _ | exact Kd.S_nil _ _ _ _ _, b1 GE576.out⟩
  ·replace c11 := Bool.eq_false_iff.mpr c11
   subst c11
   rw [if_neg (show ¬ (false = true) by decide)] at H
   simp only [Option.some.injEq, Prod.mk.injEq] at H
   obtain ⟨rfl, rfl, rfl⟩ := H
   go_enter Try.func21, Try.ntmps21
   go_wp2_with (first | ((with_reducible refine gate_dst (N := 14) rfl ?_); refine box_event ?hg (N := 14) ?hd (cs := #[.slice none 0 0, .slice none 0 0]) (t := 33) ?hr ?_; (case hd => rfl); (case hg => rfl); (case hr => first | (go_simp; done) | (go_simp; rfl)); intro gb576 hg w35 hbox hb; have BK576 := am (hbox); have GW576 := am ((by rw [hg]; exact (below_size (bt)) : w.heap.size ≤ gb576)); have GE576 := am ((by rw [hg]; exact (below_size (bt)) : w.heap.size ≤ gb576)); replace HB := am (below_step (bt) hb); clear hb hbox hg) | ((with_reducible refine gate_callee (f := 59) rfl ?_); refine goesL_ (some 26) rfl rfl Try.func59 (by kernel_rfl) rfl #[.int .i64 a0, .int .i64 a1, .int .i64 a2, .slice A3 l3.length c3, .slice A4 l4.length c4] rfl av ?_; (with_reducible refine (impl_climb.calls k a0 a1 a2 _ _ l3 (fun k_ => k_ < w.heap.size) _ _ l4 t577 true _ ?side1 ?side2 ?side3 A8.out).mono ?_); (case side1 => exact cv ((Kd.C_below HR3.out HB.out))); (case side2 => exact HC3.out); (case side3 => exact Kd.V_mk HC4.out (Kd.F_below (Kd.C_F (Kd.heap_int .i64) HR4.out) (b1 GE576.out))); rintro e w36 ⟨v578, rfl, ho0, hb⟩; refine ⟨_, rfl, ?_⟩; have HO579 := am (Kd.S_lower (Kd.S_mono (ok' := fun k_ => True) ho0 (fun _ hk_ => trivial)) (below_size (b1 GE576.out))); replace BK576 := am (blk_below (g := gb576) (o := .cells #[.slice none 0 0, .slice none 0 0] 33 (0, 0)) (mb BK576.out) hb); replace HB := am (below_step (b1 GE576.out) hb); (try clear hb); (try clear hb2); (try clear hk); (try clear hi); (try clear ho0)) | ((with_reducible refine gate_callee (f := 59) rfl ?_); refine goesL_ (some 35) rfl rfl Try.func59 (by kernel_rfl) rfl #[.int .i64 a0, .int .i64 a1, .int .i64 a2, .slice A5 l5.length c5, .slice A6 l6.length c6] rfl av ?_; (with_reducible refine (impl_climb.calls k a0 a1 a2 _ _ l5 (fun k_ => k_ < w.heap.size) _ _ l6 t581 false _ ?side1 ?side2 ?side3 A9.out).mono ?_); (case side1 => exact cv ((Kd.C_below HR5.out HB.out))); (case side2 => exact HC5.out); (case side3 => exact Kd.V_mk HC6.out (Kd.F_below (Kd.C_F (Kd.heap_int .i64) HR6.out) (b1 GE576.out))); rintro e w37 ⟨v582, rfl, ho0, hb⟩; refine ⟨_, rfl, ?_⟩; have HO583 := am (Kd.S_lower (Kd.S_new' (Kd.S_mono (ok' := fun k_ => True) ho0 (fun _ hk_ => trivial)) (Kd.S_lt (mv HO579.out))) (below_size (b1 GE576.out))); replace HO579 := am (Kd.S_elder' (mv HO579.out) (Kd.S_base ho0) hb); replace BK576 := am (blk_below (g := gb576) (o := .cells #[.slice none 0 0, .slice none 0 0] 33 (0, 0)) (mb BK576.out) hb); replace HB := am (below_step (b1 GE576.out) hb); (try clear hb); (try clear hb2); (try clear hk); (try clear hi); (try clear ho0); have hcz38_0 : w37.cell? ⟨gb576, 0, none⟩ = some (.slice none 0 0) := (blk_cell BK576.out 0).trans rfl; have hcz38_1 : w37.cell? ⟨gb576, 1, none⟩ = some (.slice none 0 0) := (blk_cell BK576.out 1).trans rfl; have hfz38_0 := blk_frozen BK576.out 0; have hfz38_1 := blk_frozen BK576.out 1))
   refine bodyPost_ret (results_ct rfl _ _ gb576 33 #[.slice none 0 0, .slice none 0 0] (0, 0) _ rfl (by (with_reducible repeat (first | refine blk_drewN ?_ _ | refine blk_drew ?_ | refine blk_alloc ?_ _)); refine blk_put (cs := #[.slice none 0 0, .slice none 0 0]) ?_ 1 _ rfl; (with_reducible repeat (first | refine blk_drewN ?_ _ | refine blk_drew ?_ | refine blk_alloc ?_ _)); refine blk_put (cs := #[.slice none 0 0, .slice none 0 0]) ?_ 0 _ rfl; (with_reducible repeat (first | refine blk_drewN ?_ _ | refine blk_drew ?_ | refine blk_alloc ?_ _)); exact BK576.out) Try.underlying33 rfl (by kernel_rfl)) rfl ?_
   exact ⟨_, _, by first | rfl | (simp [errW_none, errW_some] <;> rfl) | (simp [*, errW_none, errW_some] <;> rfl), by first | exact Kd.R_nil _ _ _ _ _ | exact Kd.N_nil _ _ _ _ _ | exact Kd.V_nil _ _ _ _ _ | exact Kd.Q_nil _ _ _ _ _ | exact Kd.S_nil _ _ _ _ _, by first | exact Kd.R_nil _ _ _ _ _ | exact Kd.N_nil _ _ _ _ _ | exact Kd.V_nil _ _ _ _ _ | exact Kd.Q_nil _ _ _ _ _ | exact Kd.S_nil _ _ _ _ _, b1 GE576.out⟩
 ·replace c10 := Bool.eq_false_iff.mpr c10
  subst c10
  rw [if_neg (show ¬ (false = true) by decide)] at H
  simp only [Option.some.injEq, Prod.mk.injEq] at H
  obtain ⟨rfl, rfl, rfl⟩ := H
  go_enter Try.func21, Try.ntmps21
  go_wp2_with (first | ((with_reducible refine gate_dst (N := 14) rfl ?_); refine box_event ?hg (N := 14) ?hd (cs := #[.slice none 0 0, .slice none 0 0]) (t := 33) ?hr ?_; (case hd => rfl); (case hg => rfl); (case hr => first | (go_simp; done) | (go_simp; rfl)); intro gb576 hg w39 hbox hb; have BK576 := am (hbox); have GW576 := am ((by rw [hg]; exact (below_size (bt)) : w.heap.size ≤ gb576)); have GE576 := am ((by rw [hg]; exact (below_size (bt)) : w.heap.size ≤ gb576)); replace HB := am (below_step (bt) hb); clear hb hbox hg) | ((with_reducible refine gate_callee (f := 59) rfl ?_); refine goesL_ (some 26) rfl rfl Try.func59 (by kernel_rfl) rfl #[.int .i64 a0, .int .i64 a1, .int .i64 a2, .slice A3 l3.length c3, .slice A4 l4.length c4] rfl av ?_; (with_reducible refine (impl_climb.calls k a0 a1 a2 _ _ l3 (fun k_ => k_ < w.heap.size) _ _ l4 t577 false _ ?side1 ?side2 ?side3 A8.out).mono ?_); (case side1 => exact cv ((Kd.C_below HR3.out HB.out))); (case side2 => exact HC3.out); (case side3 => exact Kd.V_mk HC4.out (Kd.F_below (Kd.C_F (Kd.heap_int .i64) HR4.out) (b1 GE576.out))); rintro e w40 ⟨v578, rfl, ho0, hb⟩; refine ⟨_, rfl, ?_⟩; have HO579 := am (Kd.S_lower (Kd.S_mono (ok' := fun k_ => True) ho0 (fun _ hk_ => trivial)) (below_size (b1 GE576.out))); replace BK576 := am (blk_below (g := gb576) (o := .cells #[.slice none 0 0, .slice none 0 0] 33 (0, 0)) (mb BK576.out) hb); replace HB := am (below_step (b1 GE576.out) hb); (try clear hb); (try clear hb2); (try clear hk); (try clear hi); (try clear ho0)) | ((with_reducible refine gate_callee (f := 59) rfl ?_); refine goesL_ (some 35) rfl rfl Try.func59 (by kernel_rfl) rfl #[.int .i64 a0, .int .i64 a1, .int .i64 a2, .slice A5 l5.length c5, .slice A6 l6.length c6] rfl av ?_; (with_reducible refine (impl_climb.calls k a0 a1 a2 _ _ l5 (fun k_ => k_ < w.heap.size) _ _ l6 t581 t584 _ ?side1 ?side2 ?side3 A9.out).mono ?_); (case side1 => exact cv ((Kd.C_below HR5.out HB.out))); (case side2 => exact HC5.out); (case side3 => exact Kd.V_mk HC6.out (Kd.F_below (Kd.C_F (Kd.heap_int .i64) HR6.out) (b1 GE576.out))); rintro e w41 ⟨v582, rfl, ho0, hb⟩; refine ⟨_, rfl, ?_⟩; have HO583 := am (Kd.S_lower (Kd.S_new' (Kd.S_mono (ok' := fun k_ => True) ho0 (fun _ hk_ => trivial)) (Kd.S_lt (mv HO579.out))) (below_size (b1 GE576.out))); replace HO579 := am (Kd.S_elder' (mv HO579.out) (Kd.S_base ho0) hb); replace BK576 := am (blk_below (g := gb576) (o := .cells #[.slice none 0 0, .slice none 0 0] 33 (0, 0)) (mb BK576.out) hb); replace HB := am (below_step (b1 GE576.out) hb); (try clear hb); (try clear hb2); (try clear hk); (try clear hi); (try clear ho0); have hcz42_0 : w41.cell? ⟨gb576, 0, none⟩ = some (.slice none 0 0) := (blk_cell BK576.out 0).trans rfl; have hcz42_1 : w41.cell? ⟨gb576, 1, none⟩ = some (.slice none 0 0) := (blk_cell BK576.out 1).trans rfl; have hfz42_0 := blk_frozen BK576.out 0; have hfz42_1 := blk_frozen BK576.out 1))
  refine bodyPost_ret (results_ct rfl _ _ gb576 33 #[.slice none 0 0, .slice none 0 0] (0, 0) _ rfl (by (with_reducible repeat (first | refine blk_drewN ?_ _ | refine blk_drew ?_ | refine blk_alloc ?_ _)); refine blk_put (cs := #[.slice none 0 0, .slice none 0 0]) ?_ 1 _ rfl; (with_reducible repeat (first | refine blk_drewN ?_ _ | refine blk_drew ?_ | refine blk_alloc ?_ _)); refine blk_put (cs := #[.slice none 0 0, .slice none 0 0]) ?_ 0 _ rfl; (with_reducible repeat (first | refine blk_drewN ?_ _ | refine blk_drew ?_ | refine blk_alloc ?_ _)); exact BK576.out) Try.underlying33 rfl (by kernel_rfl)) rfl ?_
  exact ⟨_, _, by first | rfl | (simp [errW_none, errW_some] <;> rfl) | (simp [*, errW_none, errW_some] <;> rfl), by first | exact Kd.R_nil _ _ _ _ _ | exact Kd.N_nil _ _ _ _ _ | exact Kd.V_nil _ _ _ _ _ | exact Kd.Q_nil _ _ _ _ _ | exact Kd.S_nil _ _ _ _ _, by first | exact Kd.R_nil _ _ _ _ _ | exact Kd.N_nil _ _ _ _ _ | exact Kd.V_nil _ _ _ _ _ | exact Kd.Q_nil _ _ _ _ _ | exact Kd.S_nil _ _ _ _ _, b1 GE576.out⟩

/-! ### impl_path: function 58 -/
def impl_path.l0 : Nat → Int → List Int → List (List Int) → Int → Int → Option (List Int)
 | 0, _, _, _, _, _ => none
 | k + 1, x2, x7, x13, x14, x15 => if x15 < x14 then (if 0 ≤ x15 then (if x15 < (x13.length : Int) then (if (Go.bits .xor .i64 x2 1) < ((rd_L3 x13 x15).length : Int) then (if 0 ≤ (Go.bits .xor .i64 x2 1) then (if x7.length < 17592186044416 then (impl_path.l0 k (wrap64 (Int.tdiv x2 2)) (x7 ++ [rd (rd_L3 x13 x15) (Go.bits .xor .i64 x2 1)]) x13 x14 (wrap64 (x15 + 1))) else (none)) else (none)) else (impl_path.l0 k (wrap64 (Int.tdiv x2 2)) x7 x13 x14 (wrap64 (x15 + 1)))) else (none)) else (none)) else (some x7)
def impl_path.f (k : Nat) (a0 : Int) (l1 : List (List Int)) (a2 : Int) : Option (List Int) := (impl_levels.f k a0 l1).bind fun t597 => (impl_path.l0 k a2 (([] : List Int)) t597 (t597.length : Int) 0)
set_option maxHeartbeats 8000000 in
set_option maxRecDepth 100000 in
theorem impl_path.calls (k : Nat) (a0 : Int) (A1 : Option Addr) (c1 : Nat) (l1 : List (List Int)) (a2 : Int) (r : List Int) (w : World) (hr1 : Kd.C (Kd.slice 5 (Kd.int .u8)) w A1 l1.length l1) (hc1 : l1.length ≤ c1) (h : impl_path.f k a0 l1 a2 = some r) :
  Calls Try.prog 58 #[.int .i64 a0, .slice A1 l1.length c1, .int .i64 a2] w fun e w' => ∃ v0_ : Value, e = .returned (v0_) ∧ Kd.R (Kd.int .i64) 3 w' w.heap.size (fun _ => True) v0_ r ∧ Below w.heap.size w w' := by
 have HR1 := am hr1
 have HC1 := am hc1
 clear hr1 hc1
 have HB := am (Below.refl w.heap.size w)
 have H : ((impl_levels.f k a0 l1).bind fun t597 => (impl_path.l0 k a2 (([] : List Int)) t597 (t597.length : Int) 0)) = some r := h
 clear h
 obtain ⟨y594, hy594⟩ : ∃ y_ : List Int, y_ = (([] : List Int)) := ⟨_, rfl⟩
 replace H : ((impl_levels.f k a0 l1).bind fun t597 => (impl_path.l0 k a2 y594 t597 (t597.length : Int) 0)) = some r := by first | (rw [hy594]; exact H) | exact H
 have Ny594 := am hy594
 clear hy594
 replace H := Option.bind_eq_some_iff.mp H
 obtain ⟨t597, A40, H⟩ := H
 (try dsimp -simprocs only at H)
 have A4 := am A40
 clear A40
 have H' := am H
 clear H
 go_enter Try.func58, Try.ntmps58
 go_wp2_with (first | ((with_reducible refine gate_dst (N := 10) rfl ?_); refine Kd.R_lit (Kd.int .i64) _ 3 ?hg (N := 10) ?hd (xs := ([] : List Int)) (inner := []) (ok := fun _ => True) (okp := fun _ => True) ?hr ?hp (fun _ hk => hk) trivial (Below.refl _ _) (Nat.le_refl _) (by simp) ?_; (case hd => rfl); (case hg => rfl); (case hr => first | (go_simp; done) | (go_simp; rfl)); (case hp => exact (Reps.none _ _)); intro v595 w5 ho6 hb hg_ hnew_; clear hg_ hnew_; (first | rw [← Ny594.out] at ho6 | (simp only [Int.reduceToNat] at ho6; rw [← Ny594.out] at ho6)); have HO596 := am (Kd.R_lower ho6 (below_size (bt))); replace HB := am (below_step (bt) hb); clear hb ho6) | ((with_reducible refine gate_callee (f := 90) rfl ?_); refine goesL_ (some 13) rfl rfl Try.func90 (by kernel_rfl) rfl #[.int .i64 a0, .slice A1 l1.length c1] rfl av ?_; (with_reducible refine (impl_levels.calls k a0 _ _ l1 t597 _ ?side1 ?side2 A4.out).mono ?_); (case side1 => exact cv ((Kd.C_below HR1.out HB.out))); (case side2 => exact HC1.out); rintro e w7 ⟨v598, rfl, ho0, hb⟩; refine ⟨_, rfl, ?_⟩; have HO599 := am (Kd.S_lower (Kd.S_new' ho0 (Kd.R_lt (mv HO596.out))) (below_size (bt))); replace HO596 := am (Kd.R_below (mv HO596.out) hb); replace HB := am (below_step (bt) hb); (try clear hb); (try clear hb2); (try clear hk); (try clear hi); (try clear ho0); obtain ⟨Ao8, co8, eo8⟩ := Kd.S_slice HO599.out; subst eo8))
 go_loopg [2, 7, 15] k (fun kq v2 v7 v15 w' => ∃ (x2_1 : Int) (x7_1 : List Int) (x15_1 : Int), v2 = .int .i64 x2_1 ∧ v15 = .int .i64 x15_1 ∧ Aside0 (impl_path.l0 kq x2_1 x7_1 t597 (t597.length : Int) x15_1 = some r) ∧ Aside0 (kq ≤ k) ∧ Aside0 (Kd.R (Kd.int .i64) 3 w' w.heap.size (fun _ => True) v7 x7_1) ∧ Aside0 (Kd.S (Kd.slice 3 (Kd.int .i64)) 29 w' w.heap.size (fun k_ => some k_ ≠ (v7 : Value).ownBlock) (.slice Ao8 t597.length co8) t597) ∧ Aside0 (Below w.heap.size w w'))
 case atStart => exact ⟨(a2), (y594), (0), (by first | rfl | (simp; done) | (simp [*]; done)), (by first | rfl | (simp; done) | (simp [*]; done)), H', ⟨Nat.le_refl _⟩, ⟨mv HO596.out⟩, ⟨by (with_reducible repeat (first | apply Kd.S_alloc | apply Kd.S_drewN | apply Kd.S_drew)); exact Kd.S_mono HO599.out (fun _ hk => hk.2)⟩, ⟨bt⟩⟩
 case round =>
  clear H'
  try clear c1
  try clear p2
  try clear c5
  obtain ⟨x2_1, x7_1, x15_1, rfl, rfl, HA, HK1, HO_7, HO_13, HB⟩ := hrel
  cases gk with
  | zero => exact absurd HA.out (by simp [impl_path.l0])
  | succ k1 =>
   have H := HA.out
   clear HA
   simp only [impl_path.l0] at H
   by_cases c9 : x15_1 < (t597.length : Int)
   ·rw [if_pos c9] at H
    have c9b0 : decide (x15_1 < (t597.length : Int)) = true := decide_eq_true c9
    clear c9
    by_cases c10 : 0 ≤ x15_1
    ·rw [if_pos c10] at H
     have c10b0 : decide (0 ≤ x15_1) = true := decide_eq_true c10
     clear c10
     by_cases c11 : x15_1 < (t597.length : Int)
     ·rw [if_pos c11] at H
      have c11b0 : decide (x15_1 < (t597.length : Int)) = true := decide_eq_true c11
      clear c11
      by_cases c12 : (Go.bits .xor .i64 x2_1 1) < ((rd_L3 t597 x15_1).length : Int)
      ·rw [if_pos c12] at H
       have c12b0 : decide ((Go.bits .xor .i64 x2_1 1) < ((rd_L3 t597 x15_1).length : Int)) = true := decide_eq_true c12
       clear c12
       by_cases c13 : 0 ≤ (Go.bits .xor .i64 x2_1 1)
       ·rw [if_pos c13] at H
        have c13b0 : decide (0 ≤ (Go.bits .xor .i64 x2_1 1)) = true := decide_eq_true c13
        clear c13
        by_cases c14 : x7_1.length < 17592186044416
        ·rw [if_pos c14] at H
         have LMc14 := am c14
         clear c14
         obtain ⟨y602, hy602⟩ : ∃ y_ : List Int, y_ = (x7_1 ++ [rd (rd_L3 t597 x15_1) (Go.bits .xor .i64 x2_1 1)]) := ⟨_, rfl⟩
         replace H : (impl_path.l0 k1 (wrap64 (Int.tdiv x2_1 2)) y602 t597 (t597.length : Int) (wrap64 (x15_1 + 1))) = some r := by first | (rw [hy602]; exact H) | exact H
         have Ny602 := am hy602
         clear hy602
         have H' := am H
         clear H
         have p600 : 0 ≤ (x15_1 : Int) := of_decide_eq_true asm
         have q600 : x15_1 < (t597.length : Int) := of_decide_eq_true asm
         obtain ⟨ad600, A600_0, c600_0, e600, hx600_0, hl600_0, hi600_0⟩ := at_L3 (Kd.S_reads' HO_13.out).2.2 x15_1 p600 q600
         cases e600
         obtain ⟨ce600, hce600, hMe600, hcc600⟩ := Kd.S_get HO_13.out [] x15_1 p600 (by first | exact q600 | exact of_decide_eq_true asm | (have e_ := (Kd.S_reads' HO_13.out).1; omega))
         obtain ⟨ve600_0, rfl, ge600_0⟩ := hMe600
         have hv600_0 := hcc600 0 _ rfl
         rw [Nat.add_zero, show ((Kd.slice 3 (Kd.int .i64))).sz = 1 from rfl, Nat.mul_one] at hv600_0
         replace hv600_0 := Option.some.inj (hv600_0.symm.trans hx600_0)
         rw [hv600_0] at ge600_0
         have HL600_0 := am (show Kd.R (Kd.int .i64) 3 _ _ _ _ (rd_L3 t597 x15_1) from ge600_0)
         clear hv600_0 ge600_0
         clear hcc600 hce600
         have HR600_0 := am hi600_0
         have HC600_0 := am hl600_0
         clear hi600_0 hl600_0
         replace p600 := eq_true p600
         replace q600 := eq_true q600
         have p601 : 0 ≤ ((Go.bits .xor .i64 x2_1 1) : Int) := of_decide_eq_true asm
         have q601 : (Go.bits .xor .i64 x2_1 1) < ((rd_L3 t597 x15_1).length : Int) := of_decide_eq_true asm
         obtain ⟨ad601, e601, hx601_0⟩ := Kd.at_int (cv HR600_0.out) (Go.bits .xor .i64 x2_1 1) p601 q601
         cases e601
         replace p601 := eq_true p601
         replace q601 := eq_true q601
         go_wp2_with (first | ((with_reducible refine gate_builtin (b := .append) (xs := #[.tmp 24, .tmp 30]) rfl ?_); at_builtin; refine Kd.R_append (Kd.int .i64) (w0 := w) w.heap.size rfl (.tmp 24) (.tmp 30) 29 3 (.int .i64 0) 8 rfl Try.underlying29 info3 rfl (by decide) (by omega) u7 x7_1 (rd (rd_L3 t597 x15_1) (Go.bits .xor .i64 x2_1 1)) [.int .i64 (rd (rd_L3 t597 x15_1) (Go.bits .xor .i64 x2_1 1))] (fun _ => True) (fun _ => False) rfl rfl ?aP (fun _ hk => hk.elim) ?aF ?aO ?aB ?aS ?aL ?_; (case aP => exact rfl); (case aB => exact (bt)); (case aF => exact (fun _ _ => trivial)); (case aO => exact (mv HO_7.out)); (case aS => exact (below_size (bt))); (case aL => have := LMc14.out; omega); intro v603 w15 ho hb hg hat; rw [← Ny602.out] at ho; replace HO_13 := am (Kd.S_after (ok := (fun _ => True)) (by (with_reducible repeat (first | apply Kd.S_alloc | apply Kd.S_drewN | apply Kd.S_drew)); exact Kd.S_mono HO_13.out (fun _ hk => ⟨trivial, hk⟩)) hg hat); replace HL600_0 := am (Kd.R_after (ok := (fun k_ => some k_ ≠ (.slice (some ad600) t597.length co8 : Value).ownBlock)) (by (with_reducible repeat (first | apply Kd.R_alloc | apply Kd.R_drewN | apply Kd.R_drew)); exact Kd.R_mono HL600_0.out (fun _ hk => ⟨hk.2, hk.1⟩)) hg hat); replace HB := am (hb); have HO604 := am (ho); clear HO_7; clear ho hb hg hat))
         go_roundg k1
         case measure => have := HK1.out; omega
         case rel => exact ⟨(wrap64 (Int.tdiv x2_1 2)), (y602), (wrap64 (x15_1 + 1)), (by first | rfl | (simp; done) | (simp [*]; done)), (by first | rfl | (simp; done) | (simp [*]; done)), H', ⟨by have := HK1.out; omega⟩, ⟨mv HO604.out⟩, ⟨by (with_reducible repeat (first | apply Kd.S_alloc | apply Kd.S_drewN | apply Kd.S_drew)); exact Kd.S_mono HO_13.out (fun _ hk => hk.2)⟩, ⟨bt⟩⟩
        ·rw [if_neg c14] at H
         exact absurd H (by simp)
       ·rw [if_neg c13] at H
        exact absurd H (by simp)
      ·rw [if_neg c12] at H
       have c12b0 : decide ((Go.bits .xor .i64 x2_1 1) < ((rd_L3 t597 x15_1).length : Int)) = false := decide_eq_false c12
       clear c12
       have H' := am H
       clear H
       have p600 : 0 ≤ (x15_1 : Int) := of_decide_eq_true asm
       have q600 : x15_1 < (t597.length : Int) := of_decide_eq_true asm
       obtain ⟨ad600, A600_0, c600_0, e600, hx600_0, hl600_0, hi600_0⟩ := at_L3 (Kd.S_reads' HO_13.out).2.2 x15_1 p600 q600
       cases e600
       obtain ⟨ce600, hce600, hMe600, hcc600⟩ := Kd.S_get HO_13.out [] x15_1 p600 (by first | exact q600 | exact of_decide_eq_true asm | (have e_ := (Kd.S_reads' HO_13.out).1; omega))
       obtain ⟨ve600_0, rfl, ge600_0⟩ := hMe600
       have hv600_0 := hcc600 0 _ rfl
       rw [Nat.add_zero, show ((Kd.slice 3 (Kd.int .i64))).sz = 1 from rfl, Nat.mul_one] at hv600_0
       replace hv600_0 := Option.some.inj (hv600_0.symm.trans hx600_0)
       rw [hv600_0] at ge600_0
       have HL600_0 := am (show Kd.R (Kd.int .i64) 3 _ _ _ _ (rd_L3 t597 x15_1) from ge600_0)
       clear hv600_0 ge600_0
       clear hcc600 hce600
       have HR600_0 := am hi600_0
       have HC600_0 := am hl600_0
       clear hi600_0 hl600_0
       replace p600 := eq_true p600
       replace q600 := eq_true q600
       go_wp2
       go_roundg k1
       case measure => have := HK1.out; omega
       case rel => exact ⟨(wrap64 (Int.tdiv x2_1 2)), (x7_1), (wrap64 (x15_1 + 1)), (by first | rfl | (simp; done) | (simp [*]; done)), (by first | rfl | (simp; done) | (simp [*]; done)), H', ⟨by have := HK1.out; omega⟩, ⟨mv HO_7.out⟩, ⟨mv HO_13.out⟩, ⟨bt⟩⟩
     ·rw [if_neg c11] at H
      exact absurd H (by simp)
    ·rw [if_neg c10] at H
     exact absurd H (by simp)
   ·rw [if_neg c9] at H
    have c9b0 : decide (x15_1 < (t597.length : Int)) = false := decide_eq_false c9
    clear c9
    obtain rfl := Option.some.inj H
    go_wp2
    go_ret
    exact ⟨_, by first | rfl | (simp [errW_none, errW_some] <;> rfl) | (simp [*, errW_none, errW_some] <;> rfl), by (with_reducible repeat (first | apply Kd.R_alloc | apply Kd.R_drewN | apply Kd.R_drew)); exact HO_7.out, bt⟩

end Go.Proofs.Ytchjajbkaiefdaa.PFnForgery
