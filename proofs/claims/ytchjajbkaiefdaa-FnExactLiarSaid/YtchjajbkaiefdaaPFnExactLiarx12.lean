-- Written by a program of this workplace (wip/mp.py) out of the translation.
import Derived.Test.YtchjajbkaiefdaaPFnExactLiarx0
import Derived.Test.YtchjajbkaiefdaaPFnExactLiarx10
import Derived.Test.YtchjajbkaiefdaaPFnExactLiarx11
namespace Go.Proofs.Ytchjajbkaiefdaa.PFnExactLiar
open Go.RowKit Go.Proofs.YtchjajbkaiefdaaW.PrintWords Go.Proofs.YtchjajbkaiefdaaW.PrintLast Go.Proofs.YtchjajbkaiefdaaW.PrintMore Go.Proofs.Ytchjajbkaiefdaa.Slim
attribute [local go_sem] max2_int min2_int max_two min_two max_three min_three max_four min_four   -- for this text's walks alone
set_option linter.unusedVariables false
set_option linter.unusedSimpArgs false

/-! ### impl_lastUnlike: function 70 -/
def impl_lastUnlike.l0 : Nat → List (List Int) → List (List Int) → Int → Option (List Int × List Int × Bool)
 | 0, _, _, _ => none
 | k + 1, x0, x1, x6 => if x6 ≥ 0 then (if 0 ≤ x6 then (if x6 < (x0.length : Int) then (if x6 < (x1.length : Int) then ((bytes_Equal.f (rd_L1 x0 x6) (rd_L1 x1 x6)).bind fun t473 => (if t473 = true then (impl_lastUnlike.l0 k x0 x1 (wrap64 (x6 - 1))) else ((impl_pairOf.f (rd_L1 x0 x6) (rd_L1 x1 x6)).bind fun bt476 => (some (bt476.1, bt476.2, true))))) else (none)) else (none)) else (none)) else (some (([] : List Int), ([] : List Int), false))
def impl_lastUnlike.f (k : Nat) (l0 : List (List Int)) (l1 : List (List Int)) : Option (List Int × List Int × Bool) := impl_lastUnlike.l0 k l0 l1 (wrap64 ((l0.length : Int) - 1))
def impl_lastUnlike.T4 : Bool × List (List Nat × List Nat) := (true, [([], []), ([], []), ([0, 1], [0, 1]), ([2], [2]), ([], []), ([], []), ([4, 5], [4, 5]), ([6], [6]), ([3, 7], [3, 7]), ([8], [8])])
def impl_lastUnlike.B4 : List Nat := [0, 0, 3, 7, 0, 0, 48, 112, 255, 511]
theorem impl_lastUnlike.tab4 : rtab .any (opsOf Try.f70 4) = impl_lastUnlike.T4 := by kernel_rfl
theorem impl_lastUnlike.bits4 : waitsOk impl_lastUnlike.T4.2 impl_lastUnlike.B4 = true := by kernel_rfl
def impl_lastUnlike.T5 : Bool × List (List Nat × List Nat) := (true, [([], []), ([], []), ([0, 1], [0, 1]), ([2], [2]), ([], []), ([], []), ([4, 5], [4, 5]), ([6], [6]), ([3, 7], [3, 7]), ([8, 8, 0, 1, 2, 3, 4, 5, 6, 7, 8], [8]), ([9, 0, 1, 2, 3, 4, 5, 6, 7, 8, 9], [])])
def impl_lastUnlike.B5 : List Nat := [0, 0, 3, 7, 0, 0, 48, 112, 255, 511, 1023]
theorem impl_lastUnlike.tab5 : rtab .any (opsOf Try.f70 5) = impl_lastUnlike.T5 := by kernel_rfl
theorem impl_lastUnlike.bits5 : waitsOk impl_lastUnlike.T5.2 impl_lastUnlike.B5 = true := by kernel_rfl
set_option maxHeartbeats 8000000 in
set_option maxRecDepth 100000 in
theorem impl_lastUnlike.calls (k : Nat) (A0 : Option Addr) (c0 : Nat) (l0 : List (List Int)) (A1 : Option Addr) (c1 : Nat) (l1 : List (List Int)) (r1 : List Int) (r2 : List Int) (r3 : Bool) (w : World) (hr0 : Kd.C (Kd.slice 5 (Kd.int .u8)) w A0 l0.length l0) (hc0 : l0.length ≤ c0) (hr1 : Kd.C (Kd.slice 5 (Kd.int .u8)) w A1 l1.length l1) (hc1 : l1.length ≤ c1) (h : impl_lastUnlike.f k l0 l1 = some (r1, r2, r3)) :
  Calls Try.prog 70 #[.slice A0 l0.length c0, .slice A1 l1.length c1] w fun e w' => ∃ v0_ v1_ : Value, e = .returned (.tuple #[.agg #[v0_, v1_], .bool r3]) ∧ Kd.R (Kd.int .u8) 5 w' w.heap.size (fun k_ => some k_ ≠ (v1_ : Value).ownBlock) v0_ r1 ∧ Kd.R (Kd.int .u8) 5 w' w.heap.size (fun k_ => some k_ ≠ (v0_ : Value).ownBlock) v1_ r2 ∧ Below w.heap.size w w' := by
 have hu33 := Try.underlying33
 have HR0 := Aside0.mk hr0
 have HC0 := Aside0.mk hc0
 clear hr0 hc0
 have HR1 := Aside0.mk hr1
 have HC1 := Aside0.mk hc1
 clear hr1 hc1
 have HB := Aside0.mk (Below.refl w.heap.size w)
 have H : (impl_lastUnlike.l0 k l0 l1 (wrap64 ((l0.length : Int) - 1))) = some (r1, r2, r3) := h
 clear h
 have H' := Aside0.mk H
 clear H
 go_enter Try.func70, Try.ntmps70
 go_wp2_with (first | ((with_reducible refine gate_dst (N := 4) rfl ?_); refine box_event ?hg (N := 4) ?hd (cs := #[.slice none 0 0, .slice none 0 0]) (t := 33) ?hr ?_; (case hd => rfl); (case hg => rfl); (case hr => first | (go_simp; done) | (go_simp; rfl)); intro gb470 hg w3 hbox hb; have BK470 := Aside0.mk (hbox); have GW470 := Aside0.mk ((by rw [hg]; exact (below_size (bt)) : w.heap.size ≤ gb470)); have GE470 := Aside0.mk ((by rw [hg]; exact (below_size (bt)) : w.heap.size ≤ gb470)); replace HB := Aside0.mk (below_step (bt) hb); clear hb hbox hg))
 go_loopg [6] k (fun kq v6 w' => ∃ (x6_1 : Int), v6 = .int .i64 x6_1 ∧ Aside0 (impl_lastUnlike.l0 kq l0 l1 x6_1 = some (r1, r2, r3)) ∧ Aside0 (kq ≤ k) ∧ Aside0 (w'.heap[gb470]? = some (.cells #[(.slice none 0 0), (.slice none 0 0)] 33 (0, 0))) ∧ Aside0 (Below w.heap.size w w'))
 case atStart => exact ⟨(wrap64 ((l0.length : Int) - 1)), (by first | rfl | (simp; done) | (simp [*]; done)), H', ⟨Nat.le_refl _⟩, ⟨mb BK470.out⟩, ⟨b1 GE470.out⟩⟩
 case round =>
  clear H'
  try clear c1
  try clear p2
  obtain ⟨x6_1, rfl, HA, HK1, BK470, HB⟩ := hrel
  cases gk with
  | zero => exact absurd HA.out (by simp [impl_lastUnlike.l0])
  | succ k1 =>
   have H := HA.out
   clear HA
   simp only [impl_lastUnlike.l0] at H
   by_cases c4 : x6_1 ≥ 0
   ·rw [if_pos c4] at H
    have c4b0 : decide (0 ≤ x6_1) = true := decide_eq_true c4
    clear c4
    by_cases c5 : 0 ≤ x6_1
    ·rw [if_pos c5] at H
     have c5b0 : decide (0 ≤ x6_1) = true := decide_eq_true c5
     clear c5
     by_cases c6 : x6_1 < (l0.length : Int)
     ·rw [if_pos c6] at H
      have c6b0 : decide (x6_1 < (l0.length : Int)) = true := decide_eq_true c6
      clear c6
      by_cases c7 : x6_1 < (l1.length : Int)
      ·rw [if_pos c7] at H
       have c7b0 : decide (x6_1 < (l1.length : Int)) = true := decide_eq_true c7
       clear c7
       replace H := Option.bind_eq_some_iff.mp H
       obtain ⟨t473, A80, H⟩ := H
       (try dsimp -simprocs only at H)
       have A8 := Aside0.mk A80
       clear A80
       by_cases c9 : t473 = true
       ·subst c9
        rw [if_pos rfl] at H
        have H' := Aside0.mk H
        clear H
        try go_wp2
        have n0_ := Aside0.mk (blk_drew BK470.out)
        have n1_ := Aside0.mk (below_drew1 HB.out)
        clear BK470
        clear HB
        have BK470 := n0_
        have HB := n1_
        clear n0_ n1_
        have p471 : 0 ≤ (x6_1 : Int) := of_decide_eq_true asm
        have q471 : x6_1 < (l0.length : Int) := of_decide_eq_true asm
        obtain ⟨ad471, A471_0, c471_0, e471, hx471_0, hl471_0, hi471_0⟩ := at_L1 HR0.out x6_1 p471 q471
        have hw471_0 := hx471_0
        cases e471
        replace hx471_0 := (HB.out.cell (World.block_lt_of_cell? w _ hx471_0)).trans hx471_0
        have HR471_0 := Aside0.mk hi471_0
        have HC471_0 := Aside0.mk hl471_0
        clear hi471_0 hl471_0
        replace p471 := eq_true p471
        replace q471 := eq_true q471
        have p472 : 0 ≤ (x6_1 : Int) := of_decide_eq_true asm
        have q472 : x6_1 < (l1.length : Int) := of_decide_eq_true asm
        obtain ⟨ad472, A472_0, c472_0, e472, hx472_0, hl472_0, hi472_0⟩ := at_L1 HR1.out x6_1 p472 q472
        have hw472_0 := hx472_0
        cases e472
        replace hx472_0 := (HB.out.cell (World.block_lt_of_cell? w _ hx472_0)).trans hx472_0
        have HR472_0 := Aside0.mk hi472_0
        have HC472_0 := Aside0.mk hl472_0
        clear hi472_0 hl472_0
        replace p472 := eq_true p472
        replace q472 := eq_true q472
        refine start_ (n := 10) (S := fun w' => w'.cell? (ad471.add (x6_1).toNat) = some (.slice A471_0 (rd_L1 l0 x6_1).length c471_0) ∧ w'.cell? (ad472.add (x6_1).toNat) = some (.slice A472_0 (rd_L1 l1 x6_1).length c472_0)) (ds := []) #[false, false, false, false, false, false, false, false, false, false] (by kernel_rfl) rfl rfl ⟨((HB.out.cell (World.block_lt_of_cell? w _ hw471_0)).trans hw471_0), ((HB.out.cell (World.block_lt_of_cell? w _ hw472_0)).trans hw472_0)⟩ (fun hHeld => ?_); refine with_tabW impl_lastUnlike.tab4 impl_lastUnlike.bits4 (fun HT_ HW_ => ?_)
        generalize wr.drew = w10 at BK470 HB HR471_0 HR472_0 hx471_0 hx472_0 hHeld ⊢
        refine pz (i := 0) (N := some 14) #[true, false, false, false, false, false, false, false, false, false] rfl rfl HT_.out ?_
        refine pz (i := 1) (N := some 15) #[true, true, false, false, false, false, false, false, false, false] rfl rfl HT_.out ?_
        refine pz (i := 2) (N := some 16) #[true, true, true, false, false, false, false, false, false, false] rfl rfl HT_.out ?_
        refine pz (i := 4) (N := some 18) #[true, true, true, false, true, false, false, false, false, false] rfl rfl HT_.out ?_
        refine pz (i := 5) (N := some 19) #[true, true, true, false, true, true, false, false, false, false] rfl rfl HT_.out ?_
        refine pz (i := 6) (N := some 20) #[true, true, true, false, true, true, true, false, false, false] rfl rfl HT_.out ?_
        refine tz (i := 3) (N := some 17) #[true, true, true, true, true, true, true, false, false, false] rfl rfl HT_.out HW_.out hHeld (Or.inl ⟨by rfl, by rintro w' ⟨s0, s1⟩; go_simp; with_reducible rfl⟩) ?_
        refine tz (i := 7) (N := some 21) #[true, true, true, true, true, true, true, true, false, false] rfl rfl HT_.out HW_.out hHeld (Or.inl ⟨by rfl, by rintro w' ⟨s0, s1⟩; go_simp; with_reducible rfl⟩) ?_
        refine one_ (i := 8) (N := some 22) #[true, true, true, true, true, true, true, true, true, false] rfl rfl (one_of HT_.out (by kernel_rfl)) (by decide) (fun K hK => ?_)
        refine goes_ Try.func60 (by kernel_rfl) rfl #[.slice A471_0 (rd_L1 l0 x6_1).length c471_0, .slice A472_0 (rd_L1 l1 x6_1).length c472_0] (by rfl) rfl rfl av ?_
        with_reducible refine (bytes_Equal.calls _ _ (rd_L1 l0 x6_1) _ _ (rd_L1 l1 x6_1) true _ ?side1 ?side2 ?side3 ?side4 A8.out).mono ?_
        (case side1 => exact cv ((Kd.C_below HR471_0.out HB.out)))
        (case side2 => exact HC471_0.out)
        (case side3 => exact cv ((Kd.C_below HR472_0.out HB.out)))
        (case side4 => exact HC472_0.out)
        rintro e w' ⟨rfl, ⟨nd, rfl⟩⟩
        refine ⟨_, rfl, ?_⟩
        refine hK.out _ _ ⟨((HB.out.cell (World.block_lt_of_cell? w _ hw471_0)).trans hw471_0), ((HB.out.cell (World.block_lt_of_cell? w _ hw472_0)).trans hw472_0)⟩ (fun hHeld => ?_)
        clear hK K
        refine nz (N := some 22) ?_
        refine pz (i := 9) (N := some 23) #[true, true, true, true, true, true, true, true, true, true] rfl rfl HT_.out ?_
        refine done_ (done_of HT_.out (by kernel_rfl)) ?_
        (try simp only [Dig.setCell_drewN])
        try go_wp2
        go_roundg k1
        case measure => have := HK1.out; omega
        case rel => exact ⟨(wrap64 (x6_1 - 1)), (by first | rfl | (simp; done) | (simp [*]; done)), H', ⟨by have := HK1.out; omega⟩, ⟨mb BK470.out⟩, ⟨b1 GE470.out⟩⟩
       ·replace c9 := Bool.eq_false_iff.mpr c9
        subst c9
        rw [if_neg (show ¬ (false = true) by decide)] at H
        replace H := Option.bind_eq_some_iff.mp H
        obtain ⟨⟨t476, t479⟩, A110, H⟩ := H
        (try dsimp -simprocs only at H)
        have A11 := Aside0.mk A110
        clear A110
        simp only [Option.some.injEq, Prod.mk.injEq] at H
        obtain ⟨rfl, rfl, rfl⟩ := H
        try go_wp2
        have n0_ := Aside0.mk (blk_drew BK470.out)
        have n1_ := Aside0.mk (below_drew1 HB.out)
        clear BK470
        clear HB
        have BK470 := n0_
        have HB := n1_
        clear n0_ n1_
        have p471 : 0 ≤ (x6_1 : Int) := of_decide_eq_true asm
        have q471 : x6_1 < (l0.length : Int) := of_decide_eq_true asm
        obtain ⟨ad471, A471_0, c471_0, e471, hx471_0, hl471_0, hi471_0⟩ := at_L1 HR0.out x6_1 p471 q471
        have hw471_0 := hx471_0
        cases e471
        replace hx471_0 := (HB.out.cell (World.block_lt_of_cell? w _ hx471_0)).trans hx471_0
        have HR471_0 := Aside0.mk hi471_0
        have HC471_0 := Aside0.mk hl471_0
        clear hi471_0 hl471_0
        replace p471 := eq_true p471
        replace q471 := eq_true q471
        have p472 : 0 ≤ (x6_1 : Int) := of_decide_eq_true asm
        have q472 : x6_1 < (l1.length : Int) := of_decide_eq_true asm
        obtain ⟨ad472, A472_0, c472_0, e472, hx472_0, hl472_0, hi472_0⟩ := at_L1 HR1.out x6_1 p472 q472
        have hw472_0 := hx472_0
        cases e472
        replace hx472_0 := (HB.out.cell (World.block_lt_of_cell? w _ hx472_0)).trans hx472_0
        have HR472_0 := Aside0.mk hi472_0
        have HC472_0 := Aside0.mk hl472_0
        clear hi472_0 hl472_0
        replace p472 := eq_true p472
        replace q472 := eq_true q472
        refine start_ (n := 10) (S := fun w' => w'.cell? (ad471.add (x6_1).toNat) = some (.slice A471_0 (rd_L1 l0 x6_1).length c471_0) ∧ w'.cell? (ad472.add (x6_1).toNat) = some (.slice A472_0 (rd_L1 l1 x6_1).length c472_0)) (ds := []) #[false, false, false, false, false, false, false, false, false, false] (by kernel_rfl) rfl rfl ⟨((HB.out.cell (World.block_lt_of_cell? w _ hw471_0)).trans hw471_0), ((HB.out.cell (World.block_lt_of_cell? w _ hw472_0)).trans hw472_0)⟩ (fun hHeld => ?_); refine with_tabW impl_lastUnlike.tab4 impl_lastUnlike.bits4 (fun HT_ HW_ => ?_)
        generalize wr.drew = w12 at BK470 HB HR471_0 HR472_0 hx471_0 hx472_0 hHeld ⊢
        refine pz (i := 0) (N := some 14) #[true, false, false, false, false, false, false, false, false, false] rfl rfl HT_.out ?_
        refine pz (i := 1) (N := some 15) #[true, true, false, false, false, false, false, false, false, false] rfl rfl HT_.out ?_
        refine pz (i := 2) (N := some 16) #[true, true, true, false, false, false, false, false, false, false] rfl rfl HT_.out ?_
        refine pz (i := 4) (N := some 18) #[true, true, true, false, true, false, false, false, false, false] rfl rfl HT_.out ?_
        refine pz (i := 5) (N := some 19) #[true, true, true, false, true, true, false, false, false, false] rfl rfl HT_.out ?_
        refine pz (i := 6) (N := some 20) #[true, true, true, false, true, true, true, false, false, false] rfl rfl HT_.out ?_
        refine tz (i := 3) (N := some 17) #[true, true, true, true, true, true, true, false, false, false] rfl rfl HT_.out HW_.out hHeld (Or.inl ⟨by rfl, by rintro w' ⟨s0, s1⟩; go_simp; with_reducible rfl⟩) ?_
        refine tz (i := 7) (N := some 21) #[true, true, true, true, true, true, true, true, false, false] rfl rfl HT_.out HW_.out hHeld (Or.inl ⟨by rfl, by rintro w' ⟨s0, s1⟩; go_simp; with_reducible rfl⟩) ?_
        refine one_ (i := 8) (N := some 22) #[true, true, true, true, true, true, true, true, true, false] rfl rfl (one_of HT_.out (by kernel_rfl)) (by decide) (fun K hK => ?_)
        refine goes_ Try.func60 (by kernel_rfl) rfl #[.slice A471_0 (rd_L1 l0 x6_1).length c471_0, .slice A472_0 (rd_L1 l1 x6_1).length c472_0] (by rfl) rfl rfl av ?_
        with_reducible refine (bytes_Equal.calls _ _ (rd_L1 l0 x6_1) _ _ (rd_L1 l1 x6_1) false _ ?side1 ?side2 ?side3 ?side4 A8.out).mono ?_
        (case side1 => exact cv ((Kd.C_below HR471_0.out HB.out)))
        (case side2 => exact HC471_0.out)
        (case side3 => exact cv ((Kd.C_below HR472_0.out HB.out)))
        (case side4 => exact HC472_0.out)
        rintro e w' ⟨rfl, ⟨nd, rfl⟩⟩
        refine ⟨_, rfl, ?_⟩
        refine hK.out _ _ ⟨((HB.out.cell (World.block_lt_of_cell? w _ hw471_0)).trans hw471_0), ((HB.out.cell (World.block_lt_of_cell? w _ hw472_0)).trans hw472_0)⟩ (fun hHeld => ?_)
        clear hK K
        refine nz (N := some 22) ?_
        refine pz (i := 9) (N := some 23) #[true, true, true, true, true, true, true, true, true, true] rfl rfl HT_.out ?_
        refine done_ (done_of HT_.out (by kernel_rfl)) ?_
        (try simp only [Dig.setCell_drewN])
        try go_wp2
        (try (rw [drewN_self w12]; generalize hq_ : World.drewN w12 _ = w12; have n0_ : Aside0 (w12.heap[gb470]? = some (.cells #[.slice none 0 0, .slice none 0 0] 33 (0, 0))) := ⟨by rw [← hq_]; exact (mb BK470.out)⟩; have n1_ : Aside0 (Below w.heap.size w w12) := ⟨by rw [← hq_]; exact (b1 GE470.out)⟩; clear BK470 HB hq_; have BK470 := n0_; have HB := n1_; clear n0_ n1_))
        have n0_ := Aside0.mk (blk_drew BK470.out)
        have n1_ := Aside0.mk (below_drew1 HB.out)
        clear BK470
        clear HB
        have BK470 := n0_
        have HB := n1_
        clear n0_ n1_
        have p474 : 0 ≤ (x6_1 : Int) := of_decide_eq_true asm
        have q474 : x6_1 < (l0.length : Int) := of_decide_eq_true asm
        obtain ⟨ad474, A474_0, c474_0, e474, hx474_0, hl474_0, hi474_0⟩ := at_L1 HR0.out x6_1 p474 q474
        have hw474_0 := hx474_0
        obtain rfl : ad471 = ad474 := (by injection e474)
        replace hx474_0 := (HB.out.cell (World.block_lt_of_cell? w _ hx474_0)).trans hx474_0
        have HR474_0 := Aside0.mk hi474_0
        have HC474_0 := Aside0.mk hl474_0
        clear hi474_0 hl474_0
        replace p474 := eq_true p474
        replace q474 := eq_true q474
        have p475 : 0 ≤ (x6_1 : Int) := of_decide_eq_true asm
        have q475 : x6_1 < (l1.length : Int) := of_decide_eq_true asm
        obtain ⟨ad475, A475_0, c475_0, e475, hx475_0, hl475_0, hi475_0⟩ := at_L1 HR1.out x6_1 p475 q475
        have hw475_0 := hx475_0
        obtain rfl : ad472 = ad475 := (by injection e475)
        replace hx475_0 := (HB.out.cell (World.block_lt_of_cell? w _ hx475_0)).trans hx475_0
        have HR475_0 := Aside0.mk hi475_0
        have HC475_0 := Aside0.mk hl475_0
        clear hi475_0 hl475_0
        replace p475 := eq_true p475
        replace q475 := eq_true q475
        refine start_ (n := 11) (S := fun w' => w'.cell? (ad471.add (x6_1).toNat) = some (.slice A474_0 (rd_L1 l0 x6_1).length c474_0) ∧ w'.cell? (ad472.add (x6_1).toNat) = some (.slice A475_0 (rd_L1 l1 x6_1).length c475_0)) (ds := []) #[false, false, false, false, false, false, false, false, false, false, false] (by kernel_rfl) rfl rfl ⟨((HB.out.cell (World.block_lt_of_cell? w _ hw474_0)).trans hw474_0), ((HB.out.cell (World.block_lt_of_cell? w _ hw475_0)).trans hw475_0)⟩ (fun hHeld => ?_); refine with_tabW impl_lastUnlike.tab5 impl_lastUnlike.bits5 (fun HT_ HW_ => ?_)
        generalize w12.drew = w13 at BK470 HB HR474_0 HR475_0 hx474_0 hx475_0 hHeld ⊢
        refine pz (i := 0) (N := some 24) #[true, false, false, false, false, false, false, false, false, false, false] rfl rfl HT_.out ?_
        refine pz (i := 1) (N := some 25) #[true, true, false, false, false, false, false, false, false, false, false] rfl rfl HT_.out ?_
        refine pz (i := 2) (N := some 26) #[true, true, true, false, false, false, false, false, false, false, false] rfl rfl HT_.out ?_
        refine pz (i := 4) (N := some 28) #[true, true, true, false, true, false, false, false, false, false, false] rfl rfl HT_.out ?_
        refine pz (i := 5) (N := some 29) #[true, true, true, false, true, true, false, false, false, false, false] rfl rfl HT_.out ?_
        refine pz (i := 6) (N := some 30) #[true, true, true, false, true, true, true, false, false, false, false] rfl rfl HT_.out ?_
        refine tz (i := 3) (N := some 27) #[true, true, true, true, true, true, true, false, false, false, false] rfl rfl HT_.out HW_.out hHeld (Or.inl ⟨by rfl, by rintro w' ⟨s0, s1⟩; go_simp; with_reducible rfl⟩) ?_
        refine tz (i := 7) (N := some 31) #[true, true, true, true, true, true, true, true, false, false, false] rfl rfl HT_.out HW_.out hHeld (Or.inl ⟨by rfl, by rintro w' ⟨s0, s1⟩; go_simp; with_reducible rfl⟩) ?_
        refine one_ (i := 8) (N := some 32) #[true, true, true, true, true, true, true, true, true, false, false] rfl rfl (one_of HT_.out (by kernel_rfl)) (by decide) (fun K hK => ?_)
        refine goes_ Try.func71 (by kernel_rfl) rfl #[.slice A474_0 (rd_L1 l0 x6_1).length c474_0, .slice A475_0 (rd_L1 l1 x6_1).length c475_0] (by rfl) rfl rfl av ?_
        with_reducible refine (impl_pairOf.calls _ _ (rd_L1 l0 x6_1) _ _ (rd_L1 l1 x6_1) t476 t479 _ ?side1 ?side2 ?side3 ?side4 A11.out).mono ?_
        (case side1 => exact cv ((Kd.C_below HR474_0.out HB.out)))
        (case side2 => exact HC474_0.out)
        (case side3 => exact cv ((Kd.C_below HR475_0.out HB.out)))
        (case side4 => exact HC475_0.out)
        rintro e w14 ⟨v477, v480, rfl, ho0, ho1, hb⟩
        refine ⟨_, rfl, ?_⟩
        have n0_ := Aside0.mk (Kd.R_lower ho0 (below_size (b1 GE470.out)))
        have n1_ := Aside0.mk (Kd.R_lower ho1 (below_size (b1 GE470.out)))
        have n2_ := Aside0.mk (blk_below (g := gb470) (o := .cells #[.slice none 0 0, .slice none 0 0] 33 (0, 0)) (mb BK470.out) hb)
        have n3_ := Aside0.mk (below_step (b1 GE470.out) hb)
        clear BK470
        clear HB
        have HO478 := n0_
        have HO481 := n1_
        have BK470 := n2_
        have HB := n3_
        clear n0_ n1_ n2_ n3_
        (try clear hb)
        (try clear hb2)
        (try clear hk)
        (try clear hi)
        (try clear ho0)
        (try clear ho1)
        obtain ⟨Ao15, co15, eo15⟩ := Kd.R_slice HO478.out
        (first | subst eo15 | (injection eo15 with f1_ f2_ f3_; have f4_ := f1_.symm; have f5_ := f3_.symm; clear f1_ f2_ f3_; subst f4_; subst f5_))
        obtain ⟨Ao17, co17, eo17⟩ := Kd.R_slice HO481.out
        (first | subst eo17 | (injection eo17 with f1_ f2_ f3_; have f4_ := f1_.symm; have f5_ := f3_.symm; clear f1_ f2_ f3_; subst f4_; subst f5_))
        refine hK.out _ _ ⟨((HB.out.cell (World.block_lt_of_cell? w _ hw474_0)).trans hw474_0), ((HB.out.cell (World.block_lt_of_cell? w _ hw475_0)).trans hw475_0)⟩ (fun hHeld => ?_)
        clear hK K
        refine nz (N := some 32) ?_
        refine one_ (i := 9) (N := none) #[true, true, true, true, true, true, true, true, true, true, false] rfl rfl (one_of HT_.out (by kernel_rfl)) (by decide) (fun K hK => ?_)
        have hs16 : w14.cell? ⟨gb470, 0, none⟩ = some (.slice none 0 0) := (blk_cell BK470.out 0).trans rfl
        have hfs16 := blk_frozen BK470.out 0
        have hs18 : w14.cell? ⟨gb470, 1, none⟩ = some (.slice none 0 0) := (blk_cell BK470.out 1).trans rfl
        have hfs18 := blk_frozen BK470.out 1
        refine skip_ (w1 := ?_) (by rfl) rfl ?_ ?_
        rotate_left
        ·go_simp
         rfl
        refine hK.out _ _ ⟨((cell_far (p := ⟨gb470, _, none⟩) (by first | exact Nat.ne_of_lt (Nat.lt_of_lt_of_le (by have := World.block_lt_of_cell? _ _ hw474_0; first | rwa [add_block] at this | exact this) GW470.out) | (rw [add_block]; exact Nat.ne_of_lt (Nat.lt_of_lt_of_le (by have := World.block_lt_of_cell? _ _ hw474_0; first | rwa [add_block] at this | exact this) GW470.out)) | (show (Addr.add _ _).block ≠ _; rw [add_block]; exact Nat.ne_of_lt (Nat.lt_of_lt_of_le (by have := World.block_lt_of_cell? _ _ hw474_0; first | rwa [add_block] at this | exact this) GW470.out)) | (dsimp only; exact Nat.ne_of_lt (Nat.lt_of_lt_of_le (by have := World.block_lt_of_cell? _ _ hw474_0; first | rwa [add_block] at this | exact this) GW470.out))) _).trans (((cell_far (p := ⟨gb470, _, none⟩) (by first | exact Nat.ne_of_lt (Nat.lt_of_lt_of_le (by have := World.block_lt_of_cell? _ _ hw474_0; first | rwa [add_block] at this | exact this) GW470.out) | (rw [add_block]; exact Nat.ne_of_lt (Nat.lt_of_lt_of_le (by have := World.block_lt_of_cell? _ _ hw474_0; first | rwa [add_block] at this | exact this) GW470.out)) | (show (Addr.add _ _).block ≠ _; rw [add_block]; exact Nat.ne_of_lt (Nat.lt_of_lt_of_le (by have := World.block_lt_of_cell? _ _ hw474_0; first | rwa [add_block] at this | exact this) GW470.out)) | (dsimp only; exact Nat.ne_of_lt (Nat.lt_of_lt_of_le (by have := World.block_lt_of_cell? _ _ hw474_0; first | rwa [add_block] at this | exact this) GW470.out))) _).trans (hHeld.1)))), ((cell_far (p := ⟨gb470, _, none⟩) (by first | exact Nat.ne_of_lt (Nat.lt_of_lt_of_le (by have := World.block_lt_of_cell? _ _ hw475_0; first | rwa [add_block] at this | exact this) GW470.out) | (rw [add_block]; exact Nat.ne_of_lt (Nat.lt_of_lt_of_le (by have := World.block_lt_of_cell? _ _ hw475_0; first | rwa [add_block] at this | exact this) GW470.out)) | (show (Addr.add _ _).block ≠ _; rw [add_block]; exact Nat.ne_of_lt (Nat.lt_of_lt_of_le (by have := World.block_lt_of_cell? _ _ hw475_0; first | rwa [add_block] at this | exact this) GW470.out)) | (dsimp only; exact Nat.ne_of_lt (Nat.lt_of_lt_of_le (by have := World.block_lt_of_cell? _ _ hw475_0; first | rwa [add_block] at this | exact this) GW470.out))) _).trans (((cell_far (p := ⟨gb470, _, none⟩) (by first | exact Nat.ne_of_lt (Nat.lt_of_lt_of_le (by have := World.block_lt_of_cell? _ _ hw475_0; first | rwa [add_block] at this | exact this) GW470.out) | (rw [add_block]; exact Nat.ne_of_lt (Nat.lt_of_lt_of_le (by have := World.block_lt_of_cell? _ _ hw475_0; first | rwa [add_block] at this | exact this) GW470.out)) | (show (Addr.add _ _).block ≠ _; rw [add_block]; exact Nat.ne_of_lt (Nat.lt_of_lt_of_le (by have := World.block_lt_of_cell? _ _ hw475_0; first | rwa [add_block] at this | exact this) GW470.out)) | (dsimp only; exact Nat.ne_of_lt (Nat.lt_of_lt_of_le (by have := World.block_lt_of_cell? _ _ hw475_0; first | rwa [add_block] at this | exact this) GW470.out))) _).trans (hHeld.2))))⟩ (fun hHeld => ?_)
        clear hK K
        refine pz (i := 10) (N := some 5) #[true, true, true, true, true, true, true, true, true, true, true] rfl rfl HT_.out ?_
        refine done_ (done_of HT_.out (by kernel_rfl)) ?_
        (try simp only [Dig.setCell_drewN])
        try go_wp2
        refine bodyPost_ret (results_ct rfl _ _ gb470 33 #[.slice Ao15 t476.length co15, .slice Ao17 t479.length co17] (0, 0) _ rfl (by (with_reducible repeat (first | refine blk_drewN ?_ _ | refine blk_drew ?_ | refine blk_alloc ?_ _)); refine blk_put (cs := #[.slice Ao15 t476.length co15, .slice none 0 0]) ?_ 1 _ rfl; (with_reducible repeat (first | refine blk_drewN ?_ _ | refine blk_drew ?_ | refine blk_alloc ?_ _)); refine blk_put (cs := #[.slice none 0 0, .slice none 0 0]) ?_ 0 _ rfl; (with_reducible repeat (first | refine blk_drewN ?_ _ | refine blk_drew ?_ | refine blk_alloc ?_ _)); exact BK470.out) Try.underlying33 rfl (by kernel_rfl)) rfl ?_
        exact ⟨_, _, by first | rfl | (simp [errW_none, errW_some] <;> rfl) | (simp [*, errW_none, errW_some] <;> rfl), by (with_reducible repeat (first | apply Kd.R_alloc | apply Kd.R_drewN | apply Kd.R_drew)); exact Kd.R_mono (Kd.R_far (p := ⟨gb470, 1, none⟩) (Kd.R_far (p := ⟨gb470, 0, none⟩) (Kd.R_types HO478.out BK470.out (by decide)) (fun _ hk => hk.2) (.slice Ao15 t476.length co15)) (fun _ hk => hk.2) (.slice Ao17 t479.length co17)) (fun _ hk => hk.1), by (with_reducible repeat (first | apply Kd.R_alloc | apply Kd.R_drewN | apply Kd.R_drew)); exact Kd.R_mono (Kd.R_far (p := ⟨gb470, 1, none⟩) (Kd.R_far (p := ⟨gb470, 0, none⟩) (Kd.R_types HO481.out BK470.out (by decide)) (fun _ hk => hk.2) (.slice Ao15 t476.length co15)) (fun _ hk => hk.2) (.slice Ao17 t479.length co17)) (fun _ hk => hk.1), b1 GE470.out⟩
      ·rw [if_neg c7] at H
       exact absurd H (by simp)
     ·rw [if_neg c6] at H
      exact absurd H (by simp)
    ·rw [if_neg c5] at H
     exact absurd H (by simp)
   ·rw [if_neg c4] at H
    have c4b0 : decide (0 ≤ x6_1) = false := decide_eq_false c4
    clear c4
    simp only [Option.some.injEq, Prod.mk.injEq] at H
    obtain ⟨rfl, rfl, rfl⟩ := H
    have hcz19_0 : wr.cell? ⟨gb470, 0, none⟩ = some (.slice none 0 0) := (blk_cell BK470.out 0).trans rfl
    have hcz19_1 : wr.cell? ⟨gb470, 1, none⟩ = some (.slice none 0 0) := (blk_cell BK470.out 1).trans rfl
    have hfz19_0 := blk_frozen BK470.out 0
    have hfz19_1 := blk_frozen BK470.out 1
    go_wp2
    refine bodyPost_ret (results_ct rfl _ _ gb470 33 #[.slice none 0 0, .slice none 0 0] (0, 0) _ rfl (by (with_reducible repeat (first | refine blk_drewN ?_ _ | refine blk_drew ?_ | refine blk_alloc ?_ _)); refine blk_put (cs := #[.slice none 0 0, .slice none 0 0]) ?_ 1 _ rfl; (with_reducible repeat (first | refine blk_drewN ?_ _ | refine blk_drew ?_ | refine blk_alloc ?_ _)); refine blk_put (cs := #[.slice none 0 0, .slice none 0 0]) ?_ 0 _ rfl; (with_reducible repeat (first | refine blk_drewN ?_ _ | refine blk_drew ?_ | refine blk_alloc ?_ _)); exact BK470.out) Try.underlying33 rfl (by kernel_rfl)) rfl ?_
    exact ⟨_, _, by first | rfl | (simp [errW_none, errW_some] <;> rfl) | (simp [*, errW_none, errW_some] <;> rfl), by first | exact Kd.R_nil _ _ _ _ _ | exact Kd.N_nil _ _ _ _ _ | exact Kd.V_nil _ _ _ _ _ | exact Kd.Q_nil _ _ _ _ _ | exact Kd.S_nil _ _ _ _ _, by first | exact Kd.R_nil _ _ _ _ _ | exact Kd.N_nil _ _ _ _ _ | exact Kd.V_nil _ _ _ _ _ | exact Kd.Q_nil _ _ _ _ _ | exact Kd.S_nil _ _ _ _ _, b1 GE470.out⟩

/-! ### impl_FromPaths: function 21 -/
def impl_FromPaths.f (k : Nat) (a0 : Int) (a1 : Int) (a2 : Int) (l3 : List Int) (l4 : List Int) (l5 : List Int) (l6 : List Int) : Option (List Int × List Int × Bool) := (impl_climb.f k a0 a1 a2 l3 l4).bind fun bt483 => ((impl_climb.f k a0 a1 a2 l5 l6).bind fun bt487 => (if bt483.2 = true then (if bt487.2 = true then ((impl_lastOf.f a0 bt483.1 true).bind fun t491 => ((impl_lastOf.f a0 bt487.1 true).bind fun t492 => (if t491 = t492 then ((impl_lastUnlike.f k bt483.1 bt487.1).bind fun bt493 => (some (bt493.1, bt493.2.1, bt493.2.2))) else (some (([] : List Int), ([] : List Int), false))))) else (some (([] : List Int), ([] : List Int), false))) else (some (([] : List Int), ([] : List Int), false))))
set_option maxHeartbeats 8000000 in
set_option maxRecDepth 100000 in
theorem impl_FromPaths.calls (k : Nat) (a0 : Int) (a1 : Int) (a2 : Int) (A3 : Option Addr) (c3 : Nat) (l3 : List Int) (A4 : Option Addr) (c4 : Nat) (l4 : List Int) (A5 : Option Addr) (c5 : Nat) (l5 : List Int) (A6 : Option Addr) (c6 : Nat) (l6 : List Int) (r1 : List Int) (r2 : List Int) (r3 : Bool) (w : World) (hr3 : Kd.C (Kd.int .u8) w A3 l3.length l3) (hc3 : l3.length ≤ c3) (hr4 : Kd.C (Kd.int .i64) w A4 l4.length l4) (hc4 : l4.length ≤ c4) (hr5 : Kd.C (Kd.int .u8) w A5 l5.length l5) (hc5 : l5.length ≤ c5) (hr6 : Kd.C (Kd.int .i64) w A6 l6.length l6) (hc6 : l6.length ≤ c6) (h : impl_FromPaths.f k a0 a1 a2 l3 l4 l5 l6 = some (r1, r2, r3)) :
  Calls Try.prog 21 #[.int .i64 a0, .int .i64 a1, .int .i64 a2, .slice A3 l3.length c3, .slice A4 l4.length c4, .slice A5 l5.length c5, .slice A6 l6.length c6] w fun e w' => ∃ v0_ v1_ : Value, e = .returned (.tuple #[.agg #[v0_, v1_], .bool r3]) ∧ Kd.R (Kd.int .u8) 5 w' w.heap.size (fun k_ => some k_ ≠ (v1_ : Value).ownBlock) v0_ r1 ∧ Kd.R (Kd.int .u8) 5 w' w.heap.size (fun k_ => some k_ ≠ (v0_ : Value).ownBlock) v1_ r2 ∧ Below w.heap.size w w' := by
 have hu33 := Try.underlying33
 have HR3 := Aside0.mk hr3
 have HC3 := Aside0.mk hc3
 clear hr3 hc3
 have HR4 := Aside0.mk hr4
 have HC4 := Aside0.mk hc4
 clear hr4 hc4
 have HR5 := Aside0.mk hr5
 have HC5 := Aside0.mk hc5
 clear hr5 hc5
 have HR6 := Aside0.mk hr6
 have HC6 := Aside0.mk hc6
 clear hr6 hc6
 have HB := Aside0.mk (Below.refl w.heap.size w)
 have H : ((impl_climb.f k a0 a1 a2 l3 l4).bind fun bt483 => ((impl_climb.f k a0 a1 a2 l5 l6).bind fun bt487 => (if bt483.2 = true then (if bt487.2 = true then ((impl_lastOf.f a0 bt483.1 true).bind fun t491 => ((impl_lastOf.f a0 bt487.1 true).bind fun t492 => (if t491 = t492 then ((impl_lastUnlike.f k bt483.1 bt487.1).bind fun bt493 => (some (bt493.1, bt493.2.1, bt493.2.2))) else (some (([] : List Int), ([] : List Int), false))))) else (some (([] : List Int), ([] : List Int), false))) else (some (([] : List Int), ([] : List Int), false))))) = some (r1, r2, r3) := h
 clear h
 replace H := Option.bind_eq_some_iff.mp H
 obtain ⟨⟨t483, t486⟩, A80, H⟩ := H
 (try dsimp -simprocs only at H)
 have A8 := Aside0.mk A80
 clear A80
 replace H := Option.bind_eq_some_iff.mp H
 obtain ⟨⟨t487, t490⟩, A90, H⟩ := H
 (try dsimp -simprocs only at H)
 have A9 := Aside0.mk A90
 clear A90
 by_cases c10 : t486 = true
 ·subst c10
  rw [if_pos rfl] at H
  by_cases c11 : t490 = true
  ·subst c11
   rw [if_pos rfl] at H
   replace H := Option.bind_eq_some_iff.mp H
   obtain ⟨t491, A120, H⟩ := H
   (try dsimp -simprocs only at H)
   have A12 := Aside0.mk A120
   clear A120
   replace H := Option.bind_eq_some_iff.mp H
   obtain ⟨t492, A130, H⟩ := H
   (try dsimp -simprocs only at H)
   have A13 := Aside0.mk A130
   clear A130
   by_cases c14 : t491 = t492
   ·rw [if_pos c14] at H
    have c14b0 : (t491 == t492) = true := beq_iff_eq.mpr c14
    have c14b1 : (t491 != t492) = false := bne_eq_false_iff_eq.mpr c14
    clear c14
    replace H := Option.bind_eq_some_iff.mp H
    obtain ⟨⟨t493, t496, t499⟩, A150, H⟩ := H
    (try dsimp -simprocs only at H)
    have A15 := Aside0.mk A150
    clear A150
    simp only [Option.some.injEq, Prod.mk.injEq] at H
    obtain ⟨rfl, rfl, rfl⟩ := H
    go_enter Try.func21, Try.ntmps21
    go_wp2_with (first | ((with_reducible refine gate_dst (N := 14) rfl ?_); refine box_event ?hg (N := 14) ?hd (cs := #[.slice none 0 0, .slice none 0 0]) (t := 33) ?hr ?_; (case hd => rfl); (case hg => rfl); (case hr => first | (go_simp; done) | (go_simp; rfl)); intro gb482 hg w16 hbox hb; have BK482 := Aside0.mk (hbox); have GW482 := Aside0.mk ((by rw [hg]; exact (below_size (bt)) : w.heap.size ≤ gb482)); have GE482 := Aside0.mk ((by rw [hg]; exact (below_size (bt)) : w.heap.size ≤ gb482)); replace HB := Aside0.mk (below_step (bt) hb); clear hb hbox hg) | ((with_reducible refine gate_callee (f := 59) rfl ?_); refine goesL_ (some 26) rfl rfl Try.func59 (by kernel_rfl) rfl #[.int .i64 a0, .int .i64 a1, .int .i64 a2, .slice A3 l3.length c3, .slice A4 l4.length c4] rfl av ?_; (with_reducible refine (impl_climb.calls k a0 a1 a2 _ _ l3 (fun k_ => k_ < w.heap.size) _ _ l4 t483 true _ ?side1 ?side2 ?side3 A8.out).mono ?_); (case side1 => exact cv ((Kd.C_below HR3.out HB.out))); (case side2 => exact HC3.out); (case side3 => exact Kd.V_mk HC4.out (Kd.F_below (Kd.C_F (Kd.heap_int .i64) HR4.out) (b1 GE482.out))); rintro e w17 ⟨v484, rfl, ho0, hb⟩; refine ⟨_, rfl, ?_⟩; have HO485 := Aside0.mk (Kd.S_lower (Kd.S_mono (ok' := fun k_ => True) ho0 (fun _ hk_ => trivial)) (below_size (b1 GE482.out))); replace BK482 := Aside0.mk (blk_below (g := gb482) (o := .cells #[.slice none 0 0, .slice none 0 0] 33 (0, 0)) (mb BK482.out) hb); replace HB := Aside0.mk (below_step (b1 GE482.out) hb); (try clear hb); (try clear hb2); (try clear hk); (try clear hi); (try clear ho0)) | ((with_reducible refine gate_callee (f := 59) rfl ?_); refine goesL_ (some 35) rfl rfl Try.func59 (by kernel_rfl) rfl #[.int .i64 a0, .int .i64 a1, .int .i64 a2, .slice A5 l5.length c5, .slice A6 l6.length c6] rfl av ?_; (with_reducible refine (impl_climb.calls k a0 a1 a2 _ _ l5 (fun k_ => k_ < w.heap.size) _ _ l6 t487 true _ ?side1 ?side2 ?side3 A9.out).mono ?_); (case side1 => exact cv ((Kd.C_below HR5.out HB.out))); (case side2 => exact HC5.out); (case side3 => exact Kd.V_mk HC6.out (Kd.F_below (Kd.C_F (Kd.heap_int .i64) HR6.out) (b1 GE482.out))); rintro e w18 ⟨v488, rfl, ho0, hb⟩; refine ⟨_, rfl, ?_⟩; have HO489 := Aside0.mk (Kd.S_lower (Kd.S_new' (Kd.S_mono (ok' := fun k_ => True) ho0 (fun _ hk_ => trivial)) (Kd.S_lt (mv HO485.out))) (below_size (b1 GE482.out))); replace HO485 := Aside0.mk (Kd.S_elder' (mv HO485.out) (Kd.S_base ho0) hb); replace BK482 := Aside0.mk (blk_below (g := gb482) (o := .cells #[.slice none 0 0, .slice none 0 0] 33 (0, 0)) (mb BK482.out) hb); replace HB := Aside0.mk (below_step (b1 GE482.out) hb); (try clear hb); (try clear hb2); (try clear hk); (try clear hi); (try clear ho0); obtain ⟨Ao19, co19, eo19⟩ := Kd.S_slice HO485.out; subst eo19) | (go_at_call 69; (with_reducible refine (impl_lastOf.calls a0 _ _ t483 true t491 _ ?side1 ?side2 A12.out).mono ?_); (case side1 => exact cv ((Kd.S_reads' HO485.out).2.2)); (case side2 => exact (Kd.S_reads' HO485.out).2.1); rintro e w20 ⟨rfl, hb⟩; replace HO485 := Aside0.mk (Kd.S_below (mv HO485.out) hb); replace HO489 := Aside0.mk (Kd.S_below (mv HO489.out) hb); replace BK482 := Aside0.mk (blk_below (g := gb482) (o := .cells #[.slice none 0 0, .slice none 0 0] 33 (0, 0)) (mb BK482.out) hb); replace HB := Aside0.mk (below_step (b1 GE482.out) hb); (try clear hb); (try clear hb2); (try clear hk); (try clear hi); obtain ⟨Ao21, co21, eo21⟩ := Kd.S_slice HO489.out; subst eo21) | (go_at_call 69; (with_reducible refine (impl_lastOf.calls a0 _ _ t487 true t492 _ ?side1 ?side2 A13.out).mono ?_); (case side1 => exact cv ((Kd.S_reads' HO489.out).2.2)); (case side2 => exact (Kd.S_reads' HO489.out).2.1); rintro e w22 ⟨rfl, hb⟩; replace HO485 := Aside0.mk (Kd.S_below (mv HO485.out) hb); replace HO489 := Aside0.mk (Kd.S_below (mv HO489.out) hb); replace BK482 := Aside0.mk (blk_below (g := gb482) (o := .cells #[.slice none 0 0, .slice none 0 0] 33 (0, 0)) (mb BK482.out) hb); replace HB := Aside0.mk (below_step (b1 GE482.out) hb); (try clear hb); (try clear hb2); (try clear hk); (try clear hi)) | ((with_reducible refine gate_callee (f := 70) rfl ?_); refine goesL_ (some 56) rfl rfl Try.func70 (by kernel_rfl) rfl #[.slice Ao19 t483.length co19, .slice Ao21 t487.length co21] rfl av ?_; (with_reducible refine (impl_lastUnlike.calls k _ _ t483 _ _ t487 t493 t496 t499 _ ?side1 ?side2 ?side3 ?side4 A15.out).mono ?_); (case side1 => exact cv ((Kd.S_reads' HO485.out).2.2)); (case side2 => exact (Kd.S_reads' HO485.out).2.1); (case side3 => exact cv ((Kd.S_reads' HO489.out).2.2)); (case side4 => exact (Kd.S_reads' HO489.out).2.1); rintro e w23 ⟨v494, v497, rfl, ho0, ho1, hb⟩; refine ⟨_, rfl, ?_⟩; replace HO485 := Aside0.mk (Kd.S_mono (Kd.S_told (Kd.S_told (Kd.S_old (mv HO485.out) hb) (Kd.R_base ho0)) (Kd.R_base ho1)) (fun _ h_ => h_.1)); replace HO489 := Aside0.mk (Kd.S_mono (Kd.S_told (Kd.S_told (Kd.S_old (mv HO489.out) hb) (Kd.R_base ho0)) (Kd.R_base ho1)) (fun _ h_ => h_.1)); have HO495 := Aside0.mk (Kd.R_lower ho0 (below_size (b1 GE482.out))); have HO498 := Aside0.mk (Kd.R_lower ho1 (below_size (b1 GE482.out))); replace BK482 := Aside0.mk (blk_below (g := gb482) (o := .cells #[.slice none 0 0, .slice none 0 0] 33 (0, 0)) (mb BK482.out) hb); replace HB := Aside0.mk (below_step (b1 GE482.out) hb); (try clear hb); (try clear hb2); (try clear hk); (try clear hi); (try clear ho0); (try clear ho1); obtain ⟨Ao24, co24, eo24⟩ := Kd.R_slice HO495.out; subst eo24; have hcz25_0 : w23.cell? ⟨gb482, 0, none⟩ = some (.slice none 0 0) := (blk_cell BK482.out 0).trans rfl; have hcz25_1 : w23.cell? ⟨gb482, 1, none⟩ = some (.slice none 0 0) := (blk_cell BK482.out 1).trans rfl; have hfz25_0 := blk_frozen BK482.out 0; have hfz25_1 := blk_frozen BK482.out 1; obtain ⟨Ao26, co26, eo26⟩ := Kd.R_slice HO498.out; subst eo26))
    refine bodyPost_ret (results_ct rfl _ _ gb482 33 #[.slice Ao24 t493.length co24, .slice Ao26 t496.length co26] (0, 0) _ rfl (by (with_reducible repeat (first | refine blk_drewN ?_ _ | refine blk_drew ?_ | refine blk_alloc ?_ _)); refine blk_put (cs := #[.slice Ao24 t493.length co24, .slice none 0 0]) ?_ 1 _ rfl; (with_reducible repeat (first | refine blk_drewN ?_ _ | refine blk_drew ?_ | refine blk_alloc ?_ _)); refine blk_put (cs := #[.slice none 0 0, .slice none 0 0]) ?_ 0 _ rfl; (with_reducible repeat (first | refine blk_drewN ?_ _ | refine blk_drew ?_ | refine blk_alloc ?_ _)); exact BK482.out) Try.underlying33 rfl (by kernel_rfl)) rfl ?_
    exact ⟨_, _, by first | rfl | (simp [errW_none, errW_some] <;> rfl) | (simp [*, errW_none, errW_some] <;> rfl), by (with_reducible repeat (first | apply Kd.R_alloc | apply Kd.R_drewN | apply Kd.R_drew)); exact Kd.R_mono (Kd.R_far (p := ⟨gb482, 1, none⟩) (Kd.R_far (p := ⟨gb482, 0, none⟩) (Kd.R_types HO495.out BK482.out (by decide)) (fun _ hk => hk.2) (.slice Ao24 t493.length co24)) (fun _ hk => hk.2) (.slice Ao26 t496.length co26)) (fun _ hk => hk.1), by (with_reducible repeat (first | apply Kd.R_alloc | apply Kd.R_drewN | apply Kd.R_drew)); exact Kd.R_mono (Kd.R_far (p := ⟨gb482, 1, none⟩) (Kd.R_far (p := ⟨gb482, 0, none⟩) (Kd.R_types HO498.out BK482.out (by decide)) (fun _ hk => hk.2) (.slice Ao24 t493.length co24)) (fun _ hk => hk.2) (.slice Ao26 t496.length co26)) (fun _ hk => hk.1), b1 GE482.out⟩
   ·rw [if_neg c14] at H
    have c14b0 : (t491 == t492) = false := beq_eq_false_iff_ne.mpr c14
    have c14b1 : (t491 != t492) = true := bne_iff_ne.mpr c14
    simp only [Option.some.injEq, Prod.mk.injEq] at H
    obtain ⟨rfl, rfl, rfl⟩ := H
    go_enter Try.func21, Try.ntmps21
    go_wp2_with (first | ((with_reducible refine gate_dst (N := 14) rfl ?_); refine box_event ?hg (N := 14) ?hd (cs := #[.slice none 0 0, .slice none 0 0]) (t := 33) ?hr ?_; (case hd => rfl); (case hg => rfl); (case hr => first | (go_simp; done) | (go_simp; rfl)); intro gb482 hg w27 hbox hb; have BK482 := Aside0.mk (hbox); have GW482 := Aside0.mk ((by rw [hg]; exact (below_size (bt)) : w.heap.size ≤ gb482)); have GE482 := Aside0.mk ((by rw [hg]; exact (below_size (bt)) : w.heap.size ≤ gb482)); replace HB := Aside0.mk (below_step (bt) hb); clear hb hbox hg) | ((with_reducible refine gate_callee (f := 59) rfl ?_); refine goesL_ (some 26) rfl rfl Try.func59 (by kernel_rfl) rfl #[.int .i64 a0, .int .i64 a1, .int .i64 a2, .slice A3 l3.length c3, .slice A4 l4.length c4] rfl av ?_; (with_reducible refine (impl_climb.calls k a0 a1 a2 _ _ l3 (fun k_ => k_ < w.heap.size) _ _ l4 t483 true _ ?side1 ?side2 ?side3 A8.out).mono ?_); (case side1 => exact cv ((Kd.C_below HR3.out HB.out))); (case side2 => exact HC3.out); (case side3 => exact Kd.V_mk HC4.out (Kd.F_below (Kd.C_F (Kd.heap_int .i64) HR4.out) (b1 GE482.out))); rintro e w28 ⟨v484, rfl, ho0, hb⟩; refine ⟨_, rfl, ?_⟩; have HO485 := Aside0.mk (Kd.S_lower (Kd.S_mono (ok' := fun k_ => True) ho0 (fun _ hk_ => trivial)) (below_size (b1 GE482.out))); replace BK482 := Aside0.mk (blk_below (g := gb482) (o := .cells #[.slice none 0 0, .slice none 0 0] 33 (0, 0)) (mb BK482.out) hb); replace HB := Aside0.mk (below_step (b1 GE482.out) hb); (try clear hb); (try clear hb2); (try clear hk); (try clear hi); (try clear ho0)) | ((with_reducible refine gate_callee (f := 59) rfl ?_); refine goesL_ (some 35) rfl rfl Try.func59 (by kernel_rfl) rfl #[.int .i64 a0, .int .i64 a1, .int .i64 a2, .slice A5 l5.length c5, .slice A6 l6.length c6] rfl av ?_; (with_reducible refine (impl_climb.calls k a0 a1 a2 _ _ l5 (fun k_ => k_ < w.heap.size) _ _ l6 t487 true _ ?side1 ?side2 ?side3 A9.out).mono ?_); (case side1 => exact cv ((Kd.C_below HR5.out HB.out))); (case side2 => exact HC5.out); (case side3 => exact Kd.V_mk HC6.out (Kd.F_below (Kd.C_F (Kd.heap_int .i64) HR6.out) (b1 GE482.out))); rintro e w29 ⟨v488, rfl, ho0, hb⟩; refine ⟨_, rfl, ?_⟩; have HO489 := Aside0.mk (Kd.S_lower (Kd.S_new' (Kd.S_mono (ok' := fun k_ => True) ho0 (fun _ hk_ => trivial)) (Kd.S_lt (mv HO485.out))) (below_size (b1 GE482.out))); replace HO485 := Aside0.mk (Kd.S_elder' (mv HO485.out) (Kd.S_base ho0) hb); replace BK482 := Aside0.mk (blk_below (g := gb482) (o := .cells #[.slice none 0 0, .slice none 0 0] 33 (0, 0)) (mb BK482.out) hb); replace HB := Aside0.mk (below_step (b1 GE482.out) hb); (try clear hb); (try clear hb2); (try clear hk); (try clear hi); (try clear ho0); obtain ⟨Ao30, co30, eo30⟩ := Kd.S_slice HO485.out; subst eo30) | (go_at_call 69; (with_reducible refine (impl_lastOf.calls a0 _ _ t483 true t491 _ ?side1 ?side2 A12.out).mono ?_); (case side1 => exact cv ((Kd.S_reads' HO485.out).2.2)); (case side2 => exact (Kd.S_reads' HO485.out).2.1); rintro e w31 ⟨rfl, hb⟩; replace HO485 := Aside0.mk (Kd.S_below (mv HO485.out) hb); replace HO489 := Aside0.mk (Kd.S_below (mv HO489.out) hb); replace BK482 := Aside0.mk (blk_below (g := gb482) (o := .cells #[.slice none 0 0, .slice none 0 0] 33 (0, 0)) (mb BK482.out) hb); replace HB := Aside0.mk (below_step (b1 GE482.out) hb); (try clear hb); (try clear hb2); (try clear hk); (try clear hi); obtain ⟨Ao32, co32, eo32⟩ := Kd.S_slice HO489.out; subst eo32) | (go_at_call 69; (with_reducible refine (impl_lastOf.calls a0 _ _ t487 true t492 _ ?side1 ?side2 A13.out).mono ?_); (case side1 => exact cv ((Kd.S_reads' HO489.out).2.2)); (case side2 => exact (Kd.S_reads' HO489.out).2.1); rintro e w33 ⟨rfl, hb⟩; replace HO485 := Aside0.mk (Kd.S_below (mv HO485.out) hb); replace HO489 := Aside0.mk (Kd.S_below (mv HO489.out) hb); replace BK482 := Aside0.mk (blk_below (g := gb482) (o := .cells #[.slice none 0 0, .slice none 0 0] 33 (0, 0)) (mb BK482.out) hb); replace HB := Aside0.mk (below_step (b1 GE482.out) hb); (try clear hb); (try clear hb2); (try clear hk); (try clear hi); have hcz34_0 : w33.cell? ⟨gb482, 0, none⟩ = some (.slice none 0 0) := (blk_cell BK482.out 0).trans rfl; have hcz34_1 : w33.cell? ⟨gb482, 1, none⟩ = some (.slice none 0 0) := (blk_cell BK482.out 1).trans rfl; have hfz34_0 := blk_frozen BK482.out 0; have hfz34_1 := blk_frozen BK482.out 1))
    refine bodyPost_ret (results_ct rfl _ _ gb482 33 #[.slice none 0 0, .slice none 0 0] (0, 0) _ rfl (by (with_reducible repeat (first | refine blk_drewN ?_ _ | refine blk_drew ?_ | refine blk_alloc ?_ _)); refine blk_put (cs := #[.slice none 0 0, .slice none 0 0]) ?_ 1 _ rfl; (with_reducible repeat (first | refine blk_drewN ?_ _ | refine blk_drew ?_ | refine blk_alloc ?_ _)); refine blk_put (cs := #[.slice none 0 0, .slice none 0 0]) ?_ 0 _ rfl; (with_reducible repeat (first | refine blk_drewN ?_ _ | refine blk_drew ?_ | refine blk_alloc ?_ _)); exact BK482.out) Try.underlying33 rfl (by kernel_rfl)) rfl ?_
    exact ⟨_, _, by first | rfl | (simp [errW_none, errW_some] <;> rfl) | (simp [*, errW_none, errW_some] <;> rfl), by first | exact Kd.R_nil _ _ _ _ _ | exact Kd.N_nil _ _ _ _ _ | exact Kd.V_nil _ _ _ _ _ | exact Kd.Q_nil _ _ _ _ _ | exact Kd.S_nil _ _ _ _ _, by first | exact Kd.R_nil _ _ _ _ _ | exact Kd.N_nil _ _ _ _ _ | exact Kd.V_nil _ _ _ _ _ | exact Kd.Q_nil _ _ _ _ _ | exact Kd.S_nil _ _ _ _ _, b1 GE482.out⟩
  ·replace c11 := Bool.eq_false_iff.mpr c11
   subst c11
   rw [if_neg (show ¬ (false = true) by decide)] at H
   simp only [Option.some.injEq, Prod.mk.injEq] at H
   obtain ⟨rfl, rfl, rfl⟩ := H
   go_enter Try.func21, Try.ntmps21
   go_wp2_with (first | ((with_reducible refine gate_dst (N := 14) rfl ?_); refine box_event ?hg (N := 14) ?hd (cs := #[.slice none 0 0, .slice none 0 0]) (t := 33) ?hr ?_; (case hd => rfl); (case hg => rfl); (case hr => first | (go_simp; done) | (go_simp; rfl)); intro gb482 hg w35 hbox hb; have BK482 := Aside0.mk (hbox); have GW482 := Aside0.mk ((by rw [hg]; exact (below_size (bt)) : w.heap.size ≤ gb482)); have GE482 := Aside0.mk ((by rw [hg]; exact (below_size (bt)) : w.heap.size ≤ gb482)); replace HB := Aside0.mk (below_step (bt) hb); clear hb hbox hg) | ((with_reducible refine gate_callee (f := 59) rfl ?_); refine goesL_ (some 26) rfl rfl Try.func59 (by kernel_rfl) rfl #[.int .i64 a0, .int .i64 a1, .int .i64 a2, .slice A3 l3.length c3, .slice A4 l4.length c4] rfl av ?_; (with_reducible refine (impl_climb.calls k a0 a1 a2 _ _ l3 (fun k_ => k_ < w.heap.size) _ _ l4 t483 true _ ?side1 ?side2 ?side3 A8.out).mono ?_); (case side1 => exact cv ((Kd.C_below HR3.out HB.out))); (case side2 => exact HC3.out); (case side3 => exact Kd.V_mk HC4.out (Kd.F_below (Kd.C_F (Kd.heap_int .i64) HR4.out) (b1 GE482.out))); rintro e w36 ⟨v484, rfl, ho0, hb⟩; refine ⟨_, rfl, ?_⟩; have HO485 := Aside0.mk (Kd.S_lower (Kd.S_mono (ok' := fun k_ => True) ho0 (fun _ hk_ => trivial)) (below_size (b1 GE482.out))); replace BK482 := Aside0.mk (blk_below (g := gb482) (o := .cells #[.slice none 0 0, .slice none 0 0] 33 (0, 0)) (mb BK482.out) hb); replace HB := Aside0.mk (below_step (b1 GE482.out) hb); (try clear hb); (try clear hb2); (try clear hk); (try clear hi); (try clear ho0)) | ((with_reducible refine gate_callee (f := 59) rfl ?_); refine goesL_ (some 35) rfl rfl Try.func59 (by kernel_rfl) rfl #[.int .i64 a0, .int .i64 a1, .int .i64 a2, .slice A5 l5.length c5, .slice A6 l6.length c6] rfl av ?_; (with_reducible refine (impl_climb.calls k a0 a1 a2 _ _ l5 (fun k_ => k_ < w.heap.size) _ _ l6 t487 false _ ?side1 ?side2 ?side3 A9.out).mono ?_); (case side1 => exact cv ((Kd.C_below HR5.out HB.out))); (case side2 => exact HC5.out); (case side3 => exact Kd.V_mk HC6.out (Kd.F_below (Kd.C_F (Kd.heap_int .i64) HR6.out) (b1 GE482.out))); rintro e w37 ⟨v488, rfl, ho0, hb⟩; refine ⟨_, rfl, ?_⟩; have HO489 := Aside0.mk (Kd.S_lower (Kd.S_new' (Kd.S_mono (ok' := fun k_ => True) ho0 (fun _ hk_ => trivial)) (Kd.S_lt (mv HO485.out))) (below_size (b1 GE482.out))); replace HO485 := Aside0.mk (Kd.S_elder' (mv HO485.out) (Kd.S_base ho0) hb); replace BK482 := Aside0.mk (blk_below (g := gb482) (o := .cells #[.slice none 0 0, .slice none 0 0] 33 (0, 0)) (mb BK482.out) hb); replace HB := Aside0.mk (below_step (b1 GE482.out) hb); (try clear hb); (try clear hb2); (try clear hk); (try clear hi); (try clear ho0); have hcz38_0 : w37.cell? ⟨gb482, 0, none⟩ = some (.slice none 0 0) := (blk_cell BK482.out 0).trans rfl; have hcz38_1 : w37.cell? ⟨gb482, 1, none⟩ = some (.slice none 0 0) := (blk_cell BK482.out 1).trans rfl; have hfz38_0 := blk_frozen BK482.out 0; have hfz38_1 := blk_frozen BK482.out 1))
   refine bodyPost_ret (results_ct rfl _ _ gb482 33 #[.slice none 0 0, .slice none 0 0] (0, 0) _ rfl (by (with_reducible repeat (first | refine blk_drewN ?_ _ | refine blk_drew ?_ | refine blk_alloc ?_ _)); refine blk_put (cs := #[.slice none 0 0, .slice none 0 0]) ?_ 1 _ rfl; (with_reducible repeat (first | refine blk_drewN ?_ _ | refine blk_drew ?_ | refine blk_alloc ?_ _)); refine blk_put (cs := #[.slice none 0 0, .slice none 0 0]) ?_ 0 _ rfl; (with_reducible repeat (first | refine blk_drewN ?_ _ | refine blk_drew ?_ | refine blk_alloc ?_ _)); exact BK482.out) Try.underlying33 rfl (by kernel_rfl)) rfl ?_
   exact ⟨_, _, by first | rfl | (simp [errW_none, errW_some] <;> rfl) | (simp [*, errW_none, errW_some] <;> rfl), by first | exact Kd.R_nil _ _ _ _ _ | exact Kd.N_nil _ _ _ _ _ | exact Kd.V_nil _ _ _ _ _ | exact Kd.Q_nil _ _ _ _ _ | exact Kd.S_nil _ _ _ _ _, by first | exact Kd.R_nil _ _ _ _ _ | exact Kd.N_nil _ _ _ _ _ | exact Kd.V_nil _ _ _ _ _ | exact Kd.Q_nil _ _ _ _ _ | exact Kd.S_nil _ _ _ _ _, b1 GE482.out⟩
 ·replace c10 := Bool.eq_false_iff.mpr c10
  subst c10
  rw [if_neg (show ¬ (false = true) by decide)] at H
  simp only [Option.some.injEq, Prod.mk.injEq] at H
  obtain ⟨rfl, rfl, rfl⟩ := H
  go_enter Try.func21, Try.ntmps21
  go_wp2_with (first | ((with_reducible refine gate_dst (N := 14) rfl ?_); refine box_event ?hg (N := 14) ?hd (cs := #[.slice none 0 0, .slice none 0 0]) (t := 33) ?hr ?_; (case hd => rfl); (case hg => rfl); (case hr => first | (go_simp; done) | (go_simp; rfl)); intro gb482 hg w39 hbox hb; have BK482 := Aside0.mk (hbox); have GW482 := Aside0.mk ((by rw [hg]; exact (below_size (bt)) : w.heap.size ≤ gb482)); have GE482 := Aside0.mk ((by rw [hg]; exact (below_size (bt)) : w.heap.size ≤ gb482)); replace HB := Aside0.mk (below_step (bt) hb); clear hb hbox hg) | ((with_reducible refine gate_callee (f := 59) rfl ?_); refine goesL_ (some 26) rfl rfl Try.func59 (by kernel_rfl) rfl #[.int .i64 a0, .int .i64 a1, .int .i64 a2, .slice A3 l3.length c3, .slice A4 l4.length c4] rfl av ?_; (with_reducible refine (impl_climb.calls k a0 a1 a2 _ _ l3 (fun k_ => k_ < w.heap.size) _ _ l4 t483 false _ ?side1 ?side2 ?side3 A8.out).mono ?_); (case side1 => exact cv ((Kd.C_below HR3.out HB.out))); (case side2 => exact HC3.out); (case side3 => exact Kd.V_mk HC4.out (Kd.F_below (Kd.C_F (Kd.heap_int .i64) HR4.out) (b1 GE482.out))); rintro e w40 ⟨v484, rfl, ho0, hb⟩; refine ⟨_, rfl, ?_⟩; have HO485 := Aside0.mk (Kd.S_lower (Kd.S_mono (ok' := fun k_ => True) ho0 (fun _ hk_ => trivial)) (below_size (b1 GE482.out))); replace BK482 := Aside0.mk (blk_below (g := gb482) (o := .cells #[.slice none 0 0, .slice none 0 0] 33 (0, 0)) (mb BK482.out) hb); replace HB := Aside0.mk (below_step (b1 GE482.out) hb); (try clear hb); (try clear hb2); (try clear hk); (try clear hi); (try clear ho0)) | ((with_reducible refine gate_callee (f := 59) rfl ?_); refine goesL_ (some 35) rfl rfl Try.func59 (by kernel_rfl) rfl #[.int .i64 a0, .int .i64 a1, .int .i64 a2, .slice A5 l5.length c5, .slice A6 l6.length c6] rfl av ?_; (with_reducible refine (impl_climb.calls k a0 a1 a2 _ _ l5 (fun k_ => k_ < w.heap.size) _ _ l6 t487 t490 _ ?side1 ?side2 ?side3 A9.out).mono ?_); (case side1 => exact cv ((Kd.C_below HR5.out HB.out))); (case side2 => exact HC5.out); (case side3 => exact Kd.V_mk HC6.out (Kd.F_below (Kd.C_F (Kd.heap_int .i64) HR6.out) (b1 GE482.out))); rintro e w41 ⟨v488, rfl, ho0, hb⟩; refine ⟨_, rfl, ?_⟩; have HO489 := Aside0.mk (Kd.S_lower (Kd.S_new' (Kd.S_mono (ok' := fun k_ => True) ho0 (fun _ hk_ => trivial)) (Kd.S_lt (mv HO485.out))) (below_size (b1 GE482.out))); replace HO485 := Aside0.mk (Kd.S_elder' (mv HO485.out) (Kd.S_base ho0) hb); replace BK482 := Aside0.mk (blk_below (g := gb482) (o := .cells #[.slice none 0 0, .slice none 0 0] 33 (0, 0)) (mb BK482.out) hb); replace HB := Aside0.mk (below_step (b1 GE482.out) hb); (try clear hb); (try clear hb2); (try clear hk); (try clear hi); (try clear ho0); have hcz42_0 : w41.cell? ⟨gb482, 0, none⟩ = some (.slice none 0 0) := (blk_cell BK482.out 0).trans rfl; have hcz42_1 : w41.cell? ⟨gb482, 1, none⟩ = some (.slice none 0 0) := (blk_cell BK482.out 1).trans rfl; have hfz42_0 := blk_frozen BK482.out 0; have hfz42_1 := blk_frozen BK482.out 1))
  refine bodyPost_ret (results_ct rfl _ _ gb482 33 #[.slice none 0 0, .slice none 0 0] (0, 0) _ rfl (by (with_reducible repeat (first | refine blk_drewN ?_ _ | refine blk_drew ?_ | refine blk_alloc ?_ _)); refine blk_put (cs := #[.slice none 0 0, .slice none 0 0]) ?_ 1 _ rfl; (with_reducible repeat (first | refine blk_drewN ?_ _ | refine blk_drew ?_ | refine blk_alloc ?_ _)); refine blk_put (cs := #[.slice none 0 0, .slice none 0 0]) ?_ 0 _ rfl; (with_reducible repeat (first | refine blk_drewN ?_ _ | refine blk_drew ?_ | refine blk_alloc ?_ _)); exact BK482.out) Try.underlying33 rfl (by kernel_rfl)) rfl ?_
  exact ⟨_, _, by first | rfl | (simp [errW_none, errW_some] <;> rfl) | (simp [*, errW_none, errW_some] <;> rfl), by first | exact Kd.R_nil _ _ _ _ _ | exact Kd.N_nil _ _ _ _ _ | exact Kd.V_nil _ _ _ _ _ | exact Kd.Q_nil _ _ _ _ _ | exact Kd.S_nil _ _ _ _ _, by first | exact Kd.R_nil _ _ _ _ _ | exact Kd.N_nil _ _ _ _ _ | exact Kd.V_nil _ _ _ _ _ | exact Kd.Q_nil _ _ _ _ _ | exact Kd.S_nil _ _ _ _ _, b1 GE482.out⟩

/-! ### impl_path: function 58 -/
def impl_path.l0 : Nat → Int → List Int → List (List Int) → Int → Int → Option (List Int)
 | 0, _, _, _, _, _ => none
 | k + 1, x2, x7, x13, x14, x15 => if x15 < x14 then (if 0 ≤ x15 then (if x15 < (x13.length : Int) then (if (Go.bits .xor .i64 x2 1) < ((rd_L3 x13 x15).length : Int) then (if 0 ≤ (Go.bits .xor .i64 x2 1) then (if x7.length < 17592186044416 then (impl_path.l0 k (wrap64 (Int.tdiv x2 2)) (x7 ++ [rd (rd_L3 x13 x15) (Go.bits .xor .i64 x2 1)]) x13 x14 (wrap64 (x15 + 1))) else (none)) else (none)) else (impl_path.l0 k (wrap64 (Int.tdiv x2 2)) x7 x13 x14 (wrap64 (x15 + 1)))) else (none)) else (none)) else (some x7)
def impl_path.f (k : Nat) (a0 : Int) (l1 : List (List Int)) (a2 : Int) : Option (List Int) := (impl_levels.f k a0 l1).bind fun t503 => (impl_path.l0 k a2 (([] : List Int)) t503 (t503.length : Int) 0)
set_option maxHeartbeats 8000000 in
set_option maxRecDepth 100000 in
theorem impl_path.calls (k : Nat) (a0 : Int) (A1 : Option Addr) (c1 : Nat) (l1 : List (List Int)) (a2 : Int) (r : List Int) (w : World) (hr1 : Kd.C (Kd.slice 5 (Kd.int .u8)) w A1 l1.length l1) (hc1 : l1.length ≤ c1) (h : impl_path.f k a0 l1 a2 = some r) :
  Calls Try.prog 58 #[.int .i64 a0, .slice A1 l1.length c1, .int .i64 a2] w fun e w' => ∃ v0_ : Value, e = .returned (v0_) ∧ Kd.R (Kd.int .i64) 3 w' w.heap.size (fun _ => True) v0_ r ∧ Below w.heap.size w w' := by
 have HR1 := Aside0.mk hr1
 have HC1 := Aside0.mk hc1
 clear hr1 hc1
 have HB := Aside0.mk (Below.refl w.heap.size w)
 have H : ((impl_levels.f k a0 l1).bind fun t503 => (impl_path.l0 k a2 (([] : List Int)) t503 (t503.length : Int) 0)) = some r := h
 clear h
 obtain ⟨y500, hy500⟩ : ∃ y_ : List Int, y_ = (([] : List Int)) := ⟨_, rfl⟩
 replace H : ((impl_levels.f k a0 l1).bind fun t503 => (impl_path.l0 k a2 y500 t503 (t503.length : Int) 0)) = some r := by first | (rw [hy500]; exact H) | exact H
 have Ny500 := Aside0.mk hy500
 clear hy500
 replace H := Option.bind_eq_some_iff.mp H
 obtain ⟨t503, A40, H⟩ := H
 (try dsimp -simprocs only at H)
 have A4 := Aside0.mk A40
 clear A40
 have H' := Aside0.mk H
 clear H
 go_enter Try.func58, Try.ntmps58
 go_wp2_with (first | ((with_reducible refine gate_dst (N := 10) rfl ?_); refine Kd.R_lit (Kd.int .i64) _ 3 ?hg (N := 10) ?hd (xs := ([] : List Int)) (inner := []) (ok := fun _ => True) (okp := fun _ => True) ?hr ?hp (fun _ hk => hk) trivial (Below.refl _ _) (Nat.le_refl _) (by simp) ?_; (case hd => rfl); (case hg => rfl); (case hr => first | (go_simp; done) | (go_simp; rfl)); (case hp => exact (Reps.none _ _)); intro v501 w5 ho6 hb hg_ hnew_; clear hg_ hnew_; (first | rw [← Ny500.out] at ho6 | (simp only [Int.reduceToNat] at ho6; rw [← Ny500.out] at ho6)); have HO502 := Aside0.mk (Kd.R_lower ho6 (below_size (bt))); replace HB := Aside0.mk (below_step (bt) hb); clear hb ho6) | ((with_reducible refine gate_callee (f := 90) rfl ?_); refine goesL_ (some 13) rfl rfl Try.func90 (by kernel_rfl) rfl #[.int .i64 a0, .slice A1 l1.length c1] rfl av ?_; (with_reducible refine (impl_levels.calls k a0 _ _ l1 t503 _ ?side1 ?side2 A4.out).mono ?_); (case side1 => exact cv ((Kd.C_below HR1.out HB.out))); (case side2 => exact HC1.out); rintro e w7 ⟨v504, rfl, ho0, hb⟩; refine ⟨_, rfl, ?_⟩; have HO505 := Aside0.mk (Kd.S_lower (Kd.S_new' ho0 (Kd.R_lt (mv HO502.out))) (below_size (bt))); replace HO502 := Aside0.mk (Kd.R_below (mv HO502.out) hb); replace HB := Aside0.mk (below_step (bt) hb); (try clear hb); (try clear hb2); (try clear hk); (try clear hi); (try clear ho0); obtain ⟨Ao8, co8, eo8⟩ := Kd.S_slice HO505.out; subst eo8))
 go_loopg [2, 7, 15] k (fun kq v2 v7 v15 w' => ∃ (x2_1 : Int) (x7_1 : List Int) (x15_1 : Int), v2 = .int .i64 x2_1 ∧ v15 = .int .i64 x15_1 ∧ Aside0 (impl_path.l0 kq x2_1 x7_1 t503 (t503.length : Int) x15_1 = some r) ∧ Aside0 (kq ≤ k) ∧ Aside0 (Kd.R (Kd.int .i64) 3 w' w.heap.size (fun _ => True) v7 x7_1) ∧ Aside0 (Kd.S (Kd.slice 3 (Kd.int .i64)) 29 w' w.heap.size (fun k_ => some k_ ≠ (v7 : Value).ownBlock) (.slice Ao8 t503.length co8) t503) ∧ Aside0 (Below w.heap.size w w'))
 case atStart => exact ⟨(a2), (y500), (0), (by first | rfl | (simp; done) | (simp [*]; done)), (by first | rfl | (simp; done) | (simp [*]; done)), H', ⟨Nat.le_refl _⟩, ⟨mv HO502.out⟩, ⟨by (with_reducible repeat (first | apply Kd.S_alloc | apply Kd.S_drewN | apply Kd.S_drew)); exact Kd.S_mono HO505.out (fun _ hk => hk.2)⟩, ⟨bt⟩⟩
 case round =>
  clear H'
  try clear c1
  try clear p2
  try clear c5
  obtain ⟨x2_1, x7_1, x15_1, rfl, rfl, HA, HK1, HO_7, HO_13, HB⟩ := hrel
  cases gk with
  | zero => exact absurd HA.out (by simp [impl_path.l0])
  | succ k1 =>
   have H := HA.out
   clear HA
   simp only [impl_path.l0] at H
   by_cases c9 : x15_1 < (t503.length : Int)
   ·rw [if_pos c9] at H
    have c9b0 : decide (x15_1 < (t503.length : Int)) = true := decide_eq_true c9
    clear c9
    by_cases c10 : 0 ≤ x15_1
    ·rw [if_pos c10] at H
     have c10b0 : decide (0 ≤ x15_1) = true := decide_eq_true c10
     clear c10
     by_cases c11 : x15_1 < (t503.length : Int)
     ·rw [if_pos c11] at H
      have c11b0 : decide (x15_1 < (t503.length : Int)) = true := decide_eq_true c11
      clear c11
      by_cases c12 : (Go.bits .xor .i64 x2_1 1) < ((rd_L3 t503 x15_1).length : Int)
      ·rw [if_pos c12] at H
       have c12b0 : decide ((Go.bits .xor .i64 x2_1 1) < ((rd_L3 t503 x15_1).length : Int)) = true := decide_eq_true c12
       clear c12
       by_cases c13 : 0 ≤ (Go.bits .xor .i64 x2_1 1)
       ·rw [if_pos c13] at H
        have c13b0 : decide (0 ≤ (Go.bits .xor .i64 x2_1 1)) = true := decide_eq_true c13
        clear c13
        by_cases c14 : x7_1.length < 17592186044416
        ·rw [if_pos c14] at H
         have LMc14 := Aside0.mk c14
         clear c14
         obtain ⟨y508, hy508⟩ : ∃ y_ : List Int, y_ = (x7_1 ++ [rd (rd_L3 t503 x15_1) (Go.bits .xor .i64 x2_1 1)]) := ⟨_, rfl⟩
         replace H : (impl_path.l0 k1 (wrap64 (Int.tdiv x2_1 2)) y508 t503 (t503.length : Int) (wrap64 (x15_1 + 1))) = some r := by first | (rw [hy508]; exact H) | exact H
         have Ny508 := Aside0.mk hy508
         clear hy508
         have H' := Aside0.mk H
         clear H
         have p506 : 0 ≤ (x15_1 : Int) := of_decide_eq_true asm
         have q506 : x15_1 < (t503.length : Int) := of_decide_eq_true asm
         obtain ⟨ad506, A506_0, c506_0, e506, hx506_0, hl506_0, hi506_0⟩ := at_L3 (Kd.S_reads' HO_13.out).2.2 x15_1 p506 q506
         cases e506
         obtain ⟨ce506, hce506, hMe506, hcc506⟩ := Kd.S_get HO_13.out [] x15_1 p506 (by first | exact q506 | exact of_decide_eq_true asm | (have e_ := (Kd.S_reads' HO_13.out).1; omega))
         obtain ⟨ve506_0, rfl, ge506_0⟩ := hMe506
         have hv506_0 := hcc506 0 _ rfl
         rw [Nat.add_zero, show ((Kd.slice 3 (Kd.int .i64))).sz = 1 from rfl, Nat.mul_one] at hv506_0
         replace hv506_0 := Option.some.inj (hv506_0.symm.trans hx506_0)
         rw [hv506_0] at ge506_0
         have HL506_0 := Aside0.mk (show Kd.R (Kd.int .i64) 3 _ _ _ _ (rd_L3 t503 x15_1) from ge506_0)
         clear hv506_0 ge506_0
         clear hcc506 hce506
         have HR506_0 := Aside0.mk hi506_0
         have HC506_0 := Aside0.mk hl506_0
         clear hi506_0 hl506_0
         replace p506 := eq_true p506
         replace q506 := eq_true q506
         have p507 : 0 ≤ ((Go.bits .xor .i64 x2_1 1) : Int) := of_decide_eq_true asm
         have q507 : (Go.bits .xor .i64 x2_1 1) < ((rd_L3 t503 x15_1).length : Int) := of_decide_eq_true asm
         obtain ⟨ad507, e507, hx507_0⟩ := Kd.at_int (by repeat (first | (with_reducible exact HR506_0.out) | (with_reducible refine Kd.C_alloc ?_ _) | (with_reducible refine Kd.C_drewN ?_ _) | (with_reducible refine Kd.C_drew ?_) | exact HR506_0.out)) (Go.bits .xor .i64 x2_1 1) p507 q507
         cases e507
         replace p507 := eq_true p507
         replace q507 := eq_true q507
         go_wp2_with (first | ((with_reducible refine gate_builtin (b := .append) (xs := #[.tmp 24, .tmp 30]) rfl ?_); at_builtin; refine Kd.R_append (Kd.int .i64) (w0 := w) w.heap.size rfl (.tmp 24) (.tmp 30) 29 3 (.int .i64 0) 8 rfl Try.underlying29 info3 rfl (by decide) (by omega) u7 x7_1 (rd (rd_L3 t503 x15_1) (Go.bits .xor .i64 x2_1 1)) [.int .i64 (rd (rd_L3 t503 x15_1) (Go.bits .xor .i64 x2_1 1))] (fun _ => True) (fun _ => False) rfl rfl ?aP (fun _ hk => hk.elim) ?aF ?aO ?aB ?aS ?aL ?_; (case aP => exact rfl); (case aB => exact (bt)); (case aF => exact (fun _ _ => trivial)); (case aO => exact (mv HO_7.out)); (case aS => exact (below_size (bt))); (case aL => have := LMc14.out; omega); intro v509 w15 ho hb hg hat; rw [← Ny508.out] at ho; replace HO_13 := Aside0.mk (Kd.S_after (ok := (fun _ => True)) (by (with_reducible repeat (first | apply Kd.S_alloc | apply Kd.S_drewN | apply Kd.S_drew)); exact Kd.S_mono HO_13.out (fun _ hk => ⟨trivial, hk⟩)) hg hat); replace HL506_0 := Aside0.mk (Kd.R_after (ok := (fun k_ => some k_ ≠ (.slice (some ad506) t503.length co8 : Value).ownBlock)) (by (with_reducible repeat (first | apply Kd.R_alloc | apply Kd.R_drewN | apply Kd.R_drew)); exact Kd.R_mono HL506_0.out (fun _ hk => ⟨hk.2, hk.1⟩)) hg hat); replace HB := Aside0.mk (hb); have HO510 := Aside0.mk (ho); clear HO_7; clear ho hb hg hat))
         go_roundg k1
         case measure => have := HK1.out; omega
         case rel => exact ⟨(wrap64 (Int.tdiv x2_1 2)), (y508), (wrap64 (x15_1 + 1)), (by first | rfl | (simp; done) | (simp [*]; done)), (by first | rfl | (simp; done) | (simp [*]; done)), H', ⟨by have := HK1.out; omega⟩, ⟨mv HO510.out⟩, ⟨by (with_reducible repeat (first | apply Kd.S_alloc | apply Kd.S_drewN | apply Kd.S_drew)); exact Kd.S_mono HO_13.out (fun _ hk => hk.2)⟩, ⟨bt⟩⟩
        ·rw [if_neg c14] at H
         exact absurd H (by simp)
       ·rw [if_neg c13] at H
        exact absurd H (by simp)
      ·rw [if_neg c12] at H
       have c12b0 : decide ((Go.bits .xor .i64 x2_1 1) < ((rd_L3 t503 x15_1).length : Int)) = false := decide_eq_false c12
       clear c12
       have H' := Aside0.mk H
       clear H
       have p506 : 0 ≤ (x15_1 : Int) := of_decide_eq_true asm
       have q506 : x15_1 < (t503.length : Int) := of_decide_eq_true asm
       obtain ⟨ad506, A506_0, c506_0, e506, hx506_0, hl506_0, hi506_0⟩ := at_L3 (Kd.S_reads' HO_13.out).2.2 x15_1 p506 q506
       cases e506
       obtain ⟨ce506, hce506, hMe506, hcc506⟩ := Kd.S_get HO_13.out [] x15_1 p506 (by first | exact q506 | exact of_decide_eq_true asm | (have e_ := (Kd.S_reads' HO_13.out).1; omega))
       obtain ⟨ve506_0, rfl, ge506_0⟩ := hMe506
       have hv506_0 := hcc506 0 _ rfl
       rw [Nat.add_zero, show ((Kd.slice 3 (Kd.int .i64))).sz = 1 from rfl, Nat.mul_one] at hv506_0
       replace hv506_0 := Option.some.inj (hv506_0.symm.trans hx506_0)
       rw [hv506_0] at ge506_0
       have HL506_0 := Aside0.mk (show Kd.R (Kd.int .i64) 3 _ _ _ _ (rd_L3 t503 x15_1) from ge506_0)
       clear hv506_0 ge506_0
       clear hcc506 hce506
       have HR506_0 := Aside0.mk hi506_0
       have HC506_0 := Aside0.mk hl506_0
       clear hi506_0 hl506_0
       replace p506 := eq_true p506
       replace q506 := eq_true q506
       go_wp2
       go_roundg k1
       case measure => have := HK1.out; omega
       case rel => exact ⟨(wrap64 (Int.tdiv x2_1 2)), (x7_1), (wrap64 (x15_1 + 1)), (by first | rfl | (simp; done) | (simp [*]; done)), (by first | rfl | (simp; done) | (simp [*]; done)), H', ⟨by have := HK1.out; omega⟩, ⟨mv HO_7.out⟩, ⟨mv HO_13.out⟩, ⟨bt⟩⟩
     ·rw [if_neg c11] at H
      exact absurd H (by simp)
    ·rw [if_neg c10] at H
     exact absurd H (by simp)
   ·rw [if_neg c9] at H
    have c9b0 : decide (x15_1 < (t503.length : Int)) = false := decide_eq_false c9
    clear c9
    obtain rfl := Option.some.inj H
    go_wp2
    go_ret
    exact ⟨_, by first | rfl | (simp [errW_none, errW_some] <;> rfl) | (simp [*, errW_none, errW_some] <;> rfl), by (with_reducible repeat (first | apply Kd.R_alloc | apply Kd.R_drewN | apply Kd.R_drew)); exact HO_7.out, bt⟩

end Go.Proofs.Ytchjajbkaiefdaa.PFnExactLiar
