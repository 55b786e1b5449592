-- Written by a program of this workplace (wip/mp.py) out of the translation.
import Derived.Test.YtchjajbkaiefdaaPFnForgeryx0
import Derived.Test.YtchjajbkaiefdaaPFnForgeryx4
namespace Go.Proofs.Ytchjajbkaiefdaa.PFnForgery
open Go.RowKit Go.Proofs.YtchjajbkaiefdaaW.PrintWords Go.Proofs.YtchjajbkaiefdaaW.PrintLast Go.Proofs.YtchjajbkaiefdaaW.PrintMore Go.Proofs.Ytchjajbkaiefdaa.Slim
attribute [local go_sem] max2_int min2_int max_two min_two max_three min_three max_four min_four   -- for this text's walks alone
set_option linter.unusedVariables false
set_option linter.unusedSimpArgs false

/-! ### spec_l2Leaves: function 110 -/
def spec_l2Leaves.l0 : Nat → Int → List (List Int) → Int → Option (Bool)
 | 0, _, _, _ => none
 | k + 1, x0, x1, x5 => if x5 < (x1.length : Int) then (if 0 ≤ x5 then (if ((rd_L1 x1 x5).length : Int) ≥ 4000 then (some false) else (spec_l2Leaves.l0 k x0 x1 (wrap64 (x5 + 1)))) else (none)) else ((spec_l1In.f x0 2 60).bind fun t277 => (if t277 = true then ((spec_l1In.f (x1.length : Int) 1 16).bind fun t278 => (some t278)) else (some false)))
def spec_l2Leaves.f (k : Nat) (a0 : Int) (l1 : List (List Int)) : Option (Bool) := spec_l2Leaves.l0 k a0 l1 0
set_option maxHeartbeats 8000000 in
set_option maxRecDepth 100000 in
theorem spec_l2Leaves.calls (k : Nat) (a0 : Int) (A1 : Option Addr) (c1 : Nat) (l1 : List (List Int)) (r : Bool) (w : World) (hr1 : Kd.C (Kd.slice 5 (Kd.int .u8)) w A1 l1.length l1) (hc1 : l1.length ≤ c1) (h : spec_l2Leaves.f k a0 l1 = some r) :
  Calls Try.prog 110 #[.int .i64 a0, .slice A1 l1.length c1] w fun e w' => e = .returned (.bool r) ∧ Drawn0 w w' := by
 have HR1 := am hr1
 have HC1 := am hc1
 clear hr1 hc1
 have H : (spec_l2Leaves.l0 k a0 l1 0) = some r := h
 clear h
 have H' := am H
 clear H
 go_enter Try.func110, Try.ntmps110
 go_wp2
 go_loopg [5] k (fun kq v5 w' => ∃ (x5_1 : Int), v5 = .int .i64 x5_1 ∧ Aside0 (spec_l2Leaves.l0 kq a0 l1 x5_1 = some r) ∧ Aside0 (kq ≤ k) ∧ Drawn0 w w')
 case atStart => exact ⟨(0), (by first | rfl | (simp; done) | (simp [*]; done)), H', ⟨Nat.le_refl _⟩, by repeat (first | exact Drawn0.refl _ | apply Drawn0.step)⟩
 case round =>
  clear H'
  try clear c1
  try clear p2
  obtain ⟨x5_1, rfl, HA, HK1, ⟨m1, rfl⟩⟩ := hrel
  cases gk with
  | zero => exact absurd HA.out (by simp [spec_l2Leaves.l0])
  | succ k1 =>
   have H := HA.out
   clear HA
   simp only [spec_l2Leaves.l0] at H
   by_cases c3 : x5_1 < (l1.length : Int)
   ·rw [if_pos c3] at H
    have c3b0 : decide (x5_1 < (l1.length : Int)) = true := decide_eq_true c3
    clear c3
    by_cases c4 : 0 ≤ x5_1
    ·rw [if_pos c4] at H
     have c4b0 : decide (0 ≤ x5_1) = true := decide_eq_true c4
     clear c4
     by_cases c5 : ((rd_L1 l1 x5_1).length : Int) ≥ 4000
     ·rw [if_pos c5] at H
      have c5b0 : decide (4000 ≤ ((rd_L1 l1 x5_1).length : Int)) = true := decide_eq_true c5
      have c5b1 : decide (4000 ≤ (rd_L1 l1 x5_1).length) = true := decide_eq_true (by omega)
      clear c5
      obtain rfl := Option.some.inj H
      have p276 : 0 ≤ (x5_1 : Int) := of_decide_eq_true asm
      have q276 : x5_1 < (l1.length : Int) := of_decide_eq_true asm
      obtain ⟨ad276, A276_0, c276_0, e276, hx276_0, hl276_0, hi276_0⟩ := at_L1 HR1.out x5_1 p276 q276
      cases e276
      have HR276_0 := am hi276_0
      have HC276_0 := am hl276_0
      clear hi276_0 hl276_0
      replace p276 := eq_true p276
      replace q276 := eq_true q276
      go_wp2
      go_ret
      exact ⟨by first | rfl | (simp; done) | (simp [*]; done), by repeat (first | exact Drawn0.refl _ | apply Drawn0.step)⟩
     ·rw [if_neg c5] at H
      have c5b0 : decide (4000 ≤ ((rd_L1 l1 x5_1).length : Int)) = false := decide_eq_false c5
      have c5b1 : decide (4000 ≤ (rd_L1 l1 x5_1).length) = false := decide_eq_false (by omega)
      clear c5
      have H' := am H
      clear H
      have p276 : 0 ≤ (x5_1 : Int) := of_decide_eq_true asm
      have q276 : x5_1 < (l1.length : Int) := of_decide_eq_true asm
      obtain ⟨ad276, A276_0, c276_0, e276, hx276_0, hl276_0, hi276_0⟩ := at_L1 HR1.out x5_1 p276 q276
      cases e276
      have HR276_0 := am hi276_0
      have HC276_0 := am hl276_0
      clear hi276_0 hl276_0
      replace p276 := eq_true p276
      replace q276 := eq_true q276
      go_wp2
      go_roundg k1
      case measure => have := HK1.out; omega
      case rel => exact ⟨(wrap64 (x5_1 + 1)), (by first | rfl | (simp; done) | (simp [*]; done)), H', ⟨by have := HK1.out; omega⟩, by repeat (first | exact Drawn0.refl _ | apply Drawn0.step)⟩
    ·rw [if_neg c4] at H
     exact absurd H (by simp)
   ·rw [if_neg c3] at H
    have c3b0 : decide (x5_1 < (l1.length : Int)) = false := decide_eq_false c3
    clear c3
    replace H := Option.bind_eq_some_iff.mp H
    obtain ⟨t277, A60, H⟩ := H
    (try dsimp -simprocs only at H)
    have A6 := am A60
    clear A60
    by_cases c7 : t277 = true
    ·subst c7
     rw [if_pos rfl] at H
     replace H := Option.bind_eq_some_iff.mp H
     obtain ⟨t278, A80, H⟩ := H
     (try dsimp -simprocs only at H)
     have A8 := am A80
     clear A80
     obtain rfl := Option.some.inj H
     go_wp2_with (first | ((with_reducible refine gate_callee (f := 97) rfl ?_); refine goesL_ (some 19) rfl rfl Try.func97 (by kernel_rfl) rfl #[.int .i64 a0, .int .i64 2, .int .i64 60] rfl av ?_; (with_reducible refine (spec_l1In.calls a0 2 60 true _ A6.out).mono ?_); rintro e w' ⟨rfl, ⟨nd, rfl⟩⟩; refine ⟨_, rfl, ?_⟩) | (go_at_call 97; (with_reducible refine (spec_l1In.calls (l1.length : Int) 1 16 t278 _ A8.out).mono ?_); rintro e w' ⟨rfl, ⟨nd, rfl⟩⟩))
     go_ret
     exact ⟨by first | rfl | (simp; done) | (simp [*]; done), by repeat (first | exact Drawn0.refl _ | apply Drawn0.step)⟩
    ·replace c7 := Bool.eq_false_iff.mpr c7
     subst c7
     rw [if_neg (show ¬ (false = true) by decide)] at H
     obtain rfl := Option.some.inj H
     go_wp2_with (first | ((with_reducible refine gate_callee (f := 97) rfl ?_); refine goesL_ (some 19) rfl rfl Try.func97 (by kernel_rfl) rfl #[.int .i64 a0, .int .i64 2, .int .i64 60] rfl av ?_; (with_reducible refine (spec_l1In.calls a0 2 60 false _ A6.out).mono ?_); rintro e w' ⟨rfl, ⟨nd, rfl⟩⟩; refine ⟨_, rfl, ?_⟩))
     go_ret
     exact ⟨by first | rfl | (simp; done) | (simp [*]; done), by repeat (first | exact Drawn0.refl _ | apply Drawn0.step)⟩

/-! ### spec_l1Turn: function 145 -/
def spec_l1Turn.f (a0 : Int) (a1 : Int) : Option (Int) := if 0 ≤ a1 then (if 0 ≤ (wrap64 (64 - a1)) then (some (Go.bits .or .u64 (shl .u64 a0 a1) (shr .u64 a0 (wrap64 (64 - a1))))) else (none)) else (none)
set_option maxHeartbeats 8000000 in
set_option maxRecDepth 100000 in
theorem spec_l1Turn.calls (a0 : Int) (a1 : Int) (r : Int) (w : World) (h : spec_l1Turn.f a0 a1 = some r) :
  Calls Try.prog 145 #[.int .u64 a0, .int .i64 a1] w fun e w' => e = .returned (.int .u64 r) ∧ Drawn0 w w' := by
 have H : (if 0 ≤ a1 then (if 0 ≤ (wrap64 (64 - a1)) then (some (Go.bits .or .u64 (shl .u64 a0 a1) (shr .u64 a0 (wrap64 (64 - a1))))) else (none)) else (none)) = some r := h
 clear h
 by_cases c3 : 0 ≤ a1
 ·rw [if_pos c3] at H
  have c3b0 := eq_true c3
  have c3b1 : decide (0 ≤ a1) = true := decide_eq_true c3
  clear c3
  obtain ⟨ji4, hji4⟩ : ∃ j_ : Int, (shl .u64 a0 a1) = j_ := ⟨_, rfl⟩
  replace H : (if 0 ≤ (wrap64 (64 - a1)) then (some (Go.bits .or .u64 (ji4) (shr .u64 a0 (wrap64 (64 - a1))))) else (none)) = some r := by first | (rw [hji4] at H; exact H) | (simp only [hji4] at H ⊢; exact H)
  have hji4_ : (IntKind.u64.wrap (a0 * 2 ^ min a1.toNat 64)) = ji4 := hji4
  have hji4z : a1 ≤ 64 → (IntKind.u64.wrap (a0 * 2 ^ a1.toNat)) = ji4 := shl_small hji4
  obtain ⟨ji5, hji5⟩ : ∃ j_ : Int, (wrap64 (64 - a1)) = j_ := ⟨_, rfl⟩
  replace H : (if 0 ≤ (ji5) then (some (Go.bits .or .u64 (ji4) (shr .u64 a0 (ji5)))) else (none)) = some r := by first | (rw [hji5] at H; exact H) | (simp only [hji5] at H ⊢; exact H)
  have hji5w : (IntKind.i64.wrap (64 - a1)) = ji5 := (i64_w _).trans hji5
  by_cases c6 : 0 ≤ (ji5)
  ·rw [if_pos c6] at H
   have c6b0 := eq_true c6
   have c6b1 : decide (0 ≤ (ji5)) = true := decide_eq_true c6
   clear c6
   obtain ⟨ji7, hji7⟩ : ∃ j_ : Int, (shr .u64 a0 (ji5)) = j_ := ⟨_, rfl⟩
   replace H : (some (Go.bits .or .u64 (ji4) (ji7))) = some r := by first | (rw [hji7] at H; exact H) | (simp only [hji7] at H ⊢; exact H)
   have hji7_ : (a0 / 2 ^ min (ji5).toNat 64) = ji7 := hji7
   have hji7z : (ji5) ≤ 64 → (a0 / 2 ^ (ji5).toNat) = ji7 := shr_small hji7
   obtain rfl := Option.some.inj H
   go_enter Try.func145, Try.ntmps145
   go_wp2
   repeat (go_quiet (fail); try go_wp2)
   go_ret
   exact ⟨by first | rfl | (simp; done) | (simp only [← hji4, ← hji5, ← hji7] <;> (first | rfl | simp)) | (simp [*]; done), by repeat (first | exact Drawn0.refl _ | apply Drawn0.step)⟩
  ·rw [if_neg c6] at H
   exact absurd H (by simp)
 ·rw [if_neg c3] at H
  exact absurd H (by simp)

/-! ### spec_l1Round: function 136 -/
def spec_l1Round.f (a0_0 : Int) (a0_1 : Int) (a0_2 : Int) : Option (Int × Int × Int) := (spec_l1Turn.f a0_1 13).bind fun t281 => ((spec_l1Turn.f a0_2 29).bind fun t282 => ((spec_l1Turn.f (IntKind.u64.wrap ((IntKind.u64.wrap (a0_0 + t281)) + 2654435761)) 41).bind fun t283 => (some (IntKind.u64.wrap ((IntKind.u64.wrap (a0_0 + t281)) + 2654435761), Go.bits .xor .u64 (Go.bits .xor .u64 a0_1 t282) (IntKind.u64.wrap ((IntKind.u64.wrap (a0_0 + t281)) + 2654435761)), IntKind.u64.wrap ((IntKind.u64.wrap (a0_2 + t283)) + (Go.bits .xor .u64 (Go.bits .xor .u64 (Go.bits .xor .u64 a0_1 t282) (IntKind.u64.wrap ((IntKind.u64.wrap (a0_0 + t281)) + 2654435761))) 40503))))))
def spec_l1Round.T1 : Bool × List (List Nat × List Nat) := (true, [([], []), ([0], [0]), ([], []), ([2], [2]), ([3], [3]), ([1, 4], [1, 4]), ([5], [5]), ([0, 1, 2, 3, 4, 5, 6], []), ([7, 6, 4, 0, 1, 2, 3, 4, 5, 6], [6, 7])])
def spec_l1Round.B1 : List Nat := [0, 1, 0, 4, 12, 31, 63, 127, 255]
theorem spec_l1Round.tab1 : rtab .any (opsOf Try.f136 1) = spec_l1Round.T1 := by kernel_rfl
theorem spec_l1Round.bits1 : waitsOk spec_l1Round.T1.2 spec_l1Round.B1 = true := by kernel_rfl
def spec_l1Round.T2 : Bool × List (List Nat × List Nat) := (true, [([], []), ([0], [0]), ([], []), ([2], [2]), ([3], [3]), ([1, 4], [1, 4]), ([], []), ([6], [6]), ([5, 7], [5, 7]), ([0, 1, 2, 3, 4, 5, 6, 7, 8], []), ([9, 8, 4, 0, 1, 2, 3, 4, 5, 6, 7, 8], [8, 9])])
def spec_l1Round.B2 : List Nat := [0, 1, 0, 4, 12, 31, 0, 64, 255, 511, 1023]
theorem spec_l1Round.tab2 : rtab .any (opsOf Try.f136 2) = spec_l1Round.T2 := by kernel_rfl
theorem spec_l1Round.bits2 : waitsOk spec_l1Round.T2.2 spec_l1Round.B2 = true := by kernel_rfl
def spec_l1Round.T3 : Bool × List (List Nat × List Nat) := (true, [([], []), ([0], [0]), ([], []), ([2], [2]), ([3], [3]), ([1, 4], [1, 4]), ([], []), ([6], [6]), ([7], [7]), ([5, 8], [5, 8]), ([0, 1, 2, 3, 4, 5, 6, 7, 8, 9], []), ([10, 9, 4, 0, 1, 2, 3, 4, 5, 6, 7, 8, 9], [9, 10])])
def spec_l1Round.B3 : List Nat := [0, 1, 0, 4, 12, 31, 0, 64, 192, 511, 1023, 2047]
theorem spec_l1Round.tab3 : rtab .any (opsOf Try.f136 3) = spec_l1Round.T3 := by kernel_rfl
theorem spec_l1Round.bits3 : waitsOk spec_l1Round.T3.2 spec_l1Round.B3 = true := by kernel_rfl
set_option maxHeartbeats 8000000 in
set_option maxRecDepth 100000 in
theorem spec_l1Round.calls (a0_0 : Int) (a0_1 : Int) (a0_2 : Int) (r1 : Int) (r2 : Int) (r3 : Int) (w : World) (h : spec_l1Round.f a0_0 a0_1 a0_2 = some (r1, r2, r3)) :
  Calls Try.prog 136 #[.agg #[.int .u64 a0_0, .int .u64 a0_1, .int .u64 a0_2]] w fun e w' => e = .returned (.agg #[.int .u64 r1, .int .u64 r2, .int .u64 r3]) ∧ Below w.heap.size w w' := by
 have hu136 := Try.underlying136
 have HB := am (Below.refl w.heap.size w)
 have H : ((spec_l1Turn.f a0_1 13).bind fun t281 => ((spec_l1Turn.f a0_2 29).bind fun t282 => ((spec_l1Turn.f (IntKind.u64.wrap ((IntKind.u64.wrap (a0_0 + t281)) + 2654435761)) 41).bind fun t283 => (some (IntKind.u64.wrap ((IntKind.u64.wrap (a0_0 + t281)) + 2654435761), Go.bits .xor .u64 (Go.bits .xor .u64 a0_1 t282) (IntKind.u64.wrap ((IntKind.u64.wrap (a0_0 + t281)) + 2654435761)), IntKind.u64.wrap ((IntKind.u64.wrap (a0_2 + t283)) + (Go.bits .xor .u64 (Go.bits .xor .u64 (Go.bits .xor .u64 a0_1 t282) (IntKind.u64.wrap ((IntKind.u64.wrap (a0_0 + t281)) + 2654435761))) 40503))))))) = some (r1, r2, r3) := h
 clear h
 replace H := Option.bind_eq_some_iff.mp H
 obtain ⟨t281, A20, H⟩ := H
 (try dsimp -simprocs only at H)
 have A2 := am A20
 clear A20
 replace H := Option.bind_eq_some_iff.mp H
 obtain ⟨t282, A30, H⟩ := H
 (try dsimp -simprocs only at H)
 have A3 := am A30
 clear A30
 replace H := Option.bind_eq_some_iff.mp H
 obtain ⟨t283, A40, H⟩ := H
 (try dsimp -simprocs only at H)
 have A4 := am A40
 clear A40
 simp only [Option.some.injEq, Prod.mk.injEq] at H
 obtain ⟨rfl, rfl, rfl⟩ := H
 go_enter Try.func136, Try.ntmps136
 try go_wp2_with (first | ((with_reducible refine gate_dst (N := 1) rfl ?_); refine box_event ?hg (N := 1) ?hd (cs := #[.int .u64 a0_0, .int .u64 a0_1, .int .u64 a0_2]) (t := 136) ?hr ?_; (case hd => rfl); (case hg => rfl); (case hr => first | (go_simp; done) | (go_simp; rfl)); intro gb279 hg w5 hbox hb; have BK279 := am (hbox); have GW279 := am ((by rw [hg]; exact (below_size (bt)) : w.heap.size ≤ gb279)); have GE279 := am ((by rw [hg]; exact (below_size (bt)) : w.heap.size ≤ gb279)); replace HB := am (below_step (bt) hb); clear hb hbox hg) | ((with_reducible refine gate_dst (N := 2) rfl ?_); refine box_event ?hg (N := 2) ?hd (cs := #[.int .u64 0, .int .u64 0, .int .u64 0]) (t := 136) ?hr ?_; (case hd => rfl); (case hg => rfl); (case hr => first | (go_simp; done) | (go_simp; rfl)); intro gb280 hg w6 hbox hb; have BK280 := am (hbox); have GW280 := am ((by rw [hg]; exact (below_size (b1 GE279.out)) : w.heap.size ≤ gb280)); have GE280 := am ((by rw [hg]; exact (below_size (b1 GE279.out)) : w.heap.size ≤ gb280)); replace HB := am (below_step (b1 GE279.out) hb); have NB279_280 := am ((by rw [hg]; exact Nat.ne_of_lt (blk_lt (g := gb279) (o := .cells #[.int .u64 a0_0, .int .u64 a0_1, .int .u64 a0_2] 136 (0, 0)) (mb BK279.out)) : gb279 ≠ gb280)); have NB280_279 := am ((by rw [hg]; exact Nat.ne_of_gt (blk_lt (g := gb279) (o := .cells #[.int .u64 a0_0, .int .u64 a0_1, .int .u64 a0_2] 136 (0, 0)) (mb BK279.out)) : gb280 ≠ gb279)); replace BK279 := am (blk_below (g := gb279) (o := .cells #[.int .u64 a0_0, .int .u64 a0_1, .int .u64 a0_2] 136 (0, 0)) (mb BK279.out) hb); clear hb hbox hg))
 have n0_ := am (blk_drew BK279.out)
 have n1_ := am (blk_drew BK280.out)
 have n2_ := am (below_drew1 HB.out)
 clear BK279
 clear BK280
 clear HB
 have BK279 := n0_
 have BK280 := n1_
 have HB := n2_
 clear n0_ n1_ n2_
 refine start_ (n := 9) (S := fun w' => w'.cell? ⟨gb279, 0, none⟩ = some (.int .u64 a0_0) ∧ w'.cell? ⟨gb279, 1, none⟩ = some (.int .u64 a0_1) ∧ w'.cell? ⟨gb279, 2, none⟩ = some (.int .u64 a0_2)) (ds := [8]) #[false, false, false, false, false, false, false, false, false] (by kernel_rfl) rfl rfl ⟨(blk_cell BK279.out 0).trans rfl, (blk_cell BK279.out 1).trans rfl, (blk_cell BK279.out 2).trans rfl⟩ (fun hHeld => ?_); refine with_tabW spec_l1Round.tab1 spec_l1Round.bits1 (fun HT_ HW_ => ?_)
 generalize w6.drew = w7 at BK279 BK280 HB hHeld ⊢
 refine pz (i := 0) (N := some 3) #[true, false, false, false, false, false, false, false, false] rfl rfl HT_.out ?_
 refine pz (i := 2) (N := some 5) #[true, false, true, false, false, false, false, false, false] rfl rfl HT_.out ?_
 refine tz (i := 1) (N := some 4) #[true, true, true, false, false, false, false, false, false] rfl rfl HT_.out HW_.out hHeld (Or.inl ⟨by rfl, by rintro w' ⟨s0, s1, s2⟩; go_simp; with_reducible rfl⟩) ?_
 refine tz (i := 3) (N := some 6) #[true, true, true, true, false, false, false, false, false] rfl rfl HT_.out HW_.out hHeld (Or.inl ⟨by rfl, by rintro w' ⟨s0, s1, s2⟩; go_simp; with_reducible rfl⟩) ?_
 refine one_ (i := 4) (N := some 7) #[true, true, true, true, true, false, false, false, false] rfl rfl (one_of HT_.out (by kernel_rfl)) (by decide) (fun K hK => ?_)
 refine goes_ Try.func145 (by kernel_rfl) rfl #[.int .u64 a0_1, .int .i64 13] (by rfl) rfl rfl av ?_
 with_reducible refine (spec_l1Turn.calls a0_1 13 t281 _ A2.out).mono ?_
 rintro e w' ⟨rfl, ⟨nd, rfl⟩⟩
 refine ⟨_, rfl, ?_⟩
 refine hK.out _ _ ⟨(blk_cell BK279.out 0).trans rfl, (blk_cell BK279.out 1).trans rfl, (blk_cell BK279.out 2).trans rfl⟩ (fun hHeld => ?_)
 clear hK K
 refine nz (N := some 7) ?_
 refine pz (i := 5) (N := some 8) #[true, true, true, true, true, true, false, false, false] rfl rfl HT_.out ?_
 refine pz (i := 6) (N := some 9) #[true, true, true, true, true, true, true, false, false] rfl rfl HT_.out ?_
 refine pz (i := 7) (N := some 10) #[true, true, true, true, true, true, true, true, false] rfl rfl HT_.out ?_
 refine last_ (i := 8) (N := none) #[true, true, true, true, true, true, true, true, true] rfl rfl (one_of HT_.out (by kernel_rfl)) (by decide) (fun K hK => ?_)
 have hs8 : w7.cell? ⟨gb279, 0, none⟩ = some (.int .u64 a0_0) := (blk_cell BK279.out 0).trans rfl
 have hfs8 := blk_frozen BK279.out 0
 have hns8_1 := NB280_279.out
 have hms8_1 := NB279_280.out
 refine skip_ (w1 := ?_) (by rfl) rfl ?_ ?_
 rotate_left
 ·go_simp
  rfl
 refine hK.out _ _ ?_
 clear hK K
 refine done_ (done_of HT_.out (by kernel_rfl)) ?_
 (try simp only [Dig.setCell_drewN])
 try go_wp2
 have n0_ : Aside0 ((w7.setCell ⟨gb279, 0, none⟩ (.int .u64 (IntKind.u64.wrap ((IntKind.u64.wrap (a0_0 + t281)) + 2654435761)))).heap[gb279]? = some (.cells #[.int .u64 (IntKind.u64.wrap ((IntKind.u64.wrap (a0_0 + t281)) + 2654435761)), .int .u64 a0_1, .int .u64 a0_2] 136 (0, 0))) := ⟨by (with_reducible repeat (first | refine blk_drewN ?_ _ | refine blk_drew ?_ | refine blk_alloc ?_ _)); refine blk_put (cs := #[.int .u64 a0_0, .int .u64 a0_1, .int .u64 a0_2]) ?_ 0 _ rfl; (with_reducible repeat (first | refine blk_drewN ?_ _ | refine blk_drew ?_ | refine blk_alloc ?_ _)); exact BK279.out⟩
 have n1_ : Aside0 ((w7.setCell ⟨gb279, 0, none⟩ (.int .u64 (IntKind.u64.wrap ((IntKind.u64.wrap (a0_0 + t281)) + 2654435761)))).heap[gb280]? = some (.cells #[.int .u64 0, .int .u64 0, .int .u64 0] 136 (0, 0))) := ⟨by (with_reducible repeat (first | refine blk_drewN ?_ _ | refine blk_drew ?_ | refine blk_alloc ?_ _)); refine blk_far ?_ NB280_279.out _; (with_reducible repeat (first | refine blk_drewN ?_ _ | refine blk_drew ?_ | refine blk_alloc ?_ _)); exact BK280.out⟩
 have n2_ : Aside0 (Below w.heap.size w (w7.setCell ⟨gb279, 0, none⟩ (.int .u64 (IntKind.u64.wrap ((IntKind.u64.wrap (a0_0 + t281)) + 2654435761))))) := ⟨b2 GE279.out GE280.out⟩
 (try clear BK279)
 (try clear BK280)
 (try clear HB)
 generalize (w7.setCell ⟨gb279, 0, none⟩ (.int .u64 (IntKind.u64.wrap ((IntKind.u64.wrap (a0_0 + t281)) + 2654435761)))) = w9 at n0_ n1_ n2_ ⊢
 have BK279 := n0_
 have BK280 := n1_
 have HB := n2_
 clear n0_ n1_ n2_
 (try (rw [drewN_self w9]; generalize hq_ : World.drewN w9 _ = w9; have n0_ : Aside0 (w9.heap[gb279]? = some (.cells #[.int .u64 (IntKind.u64.wrap ((IntKind.u64.wrap (a0_0 + t281)) + 2654435761)), .int .u64 a0_1, .int .u64 a0_2] 136 (0, 0))) := ⟨by rw [← hq_]; exact (mb BK279.out)⟩; have n1_ : Aside0 (w9.heap[gb280]? = some (.cells #[.int .u64 0, .int .u64 0, .int .u64 0] 136 (0, 0))) := ⟨by rw [← hq_]; exact (mb BK280.out)⟩; have n2_ : Aside0 (Below w.heap.size w w9) := ⟨by rw [← hq_]; exact (b2 GE279.out GE280.out)⟩; clear BK279 BK280 HB hq_; have BK279 := n0_; have BK280 := n1_; have HB := n2_; clear n0_ n1_ n2_))
 have n0_ := am (blk_drew BK279.out)
 have n1_ := am (blk_drew BK280.out)
 have n2_ := am (below_drew1 HB.out)
 clear BK279
 clear BK280
 clear HB
 have BK279 := n0_
 have BK280 := n1_
 have HB := n2_
 clear n0_ n1_ n2_
 refine start_ (n := 11) (S := fun w' => w'.cell? ⟨gb279, 0, none⟩ = some (.int .u64 (IntKind.u64.wrap ((IntKind.u64.wrap (a0_0 + t281)) + 2654435761))) ∧ w'.cell? ⟨gb279, 1, none⟩ = some (.int .u64 a0_1) ∧ w'.cell? ⟨gb279, 2, none⟩ = some (.int .u64 a0_2)) (ds := [10]) #[false, false, false, false, false, false, false, false, false, false, false] (by kernel_rfl) rfl rfl ⟨(blk_cell BK279.out 0).trans rfl, (blk_cell BK279.out 1).trans rfl, (blk_cell BK279.out 2).trans rfl⟩ (fun hHeld => ?_); refine with_tabW spec_l1Round.tab2 spec_l1Round.bits2 (fun HT_ HW_ => ?_)
 generalize w9.drew = w10 at BK279 BK280 HB hHeld ⊢
 refine pz (i := 0) (N := some 11) #[true, false, false, false, false, false, false, false, false, false, false] rfl rfl HT_.out ?_
 refine pz (i := 2) (N := some 13) #[true, false, true, false, false, false, false, false, false, false, false] rfl rfl HT_.out ?_
 refine pz (i := 6) (N := some 17) #[true, false, true, false, false, false, true, false, false, false, false] rfl rfl HT_.out ?_
 refine tz (i := 1) (N := some 12) #[true, true, true, false, false, false, true, false, false, false, false] rfl rfl HT_.out HW_.out hHeld (Or.inl ⟨by rfl, by rintro w' ⟨s0, s1, s2⟩; go_simp; with_reducible rfl⟩) ?_
 refine tz (i := 3) (N := some 14) #[true, true, true, true, false, false, true, false, false, false, false] rfl rfl HT_.out HW_.out hHeld (Or.inl ⟨by rfl, by rintro w' ⟨s0, s1, s2⟩; go_simp; with_reducible rfl⟩) ?_
 refine tz (i := 7) (N := some 18) #[true, true, true, true, false, false, true, true, false, false, false] rfl rfl HT_.out HW_.out hHeld (Or.inl ⟨by rfl, by rintro w' ⟨s0, s1, s2⟩; go_simp; with_reducible rfl⟩) ?_
 refine one_ (i := 4) (N := some 15) #[true, true, true, true, true, false, true, true, false, false, false] rfl rfl (one_of HT_.out (by kernel_rfl)) (by decide) (fun K hK => ?_)
 refine goes_ Try.func145 (by kernel_rfl) rfl #[.int .u64 a0_2, .int .i64 29] (by rfl) rfl rfl av ?_
 with_reducible refine (spec_l1Turn.calls a0_2 29 t282 _ A3.out).mono ?_
 rintro e w' ⟨rfl, ⟨nd, rfl⟩⟩
 refine ⟨_, rfl, ?_⟩
 refine hK.out _ _ ⟨(blk_cell BK279.out 0).trans rfl, (blk_cell BK279.out 1).trans rfl, (blk_cell BK279.out 2).trans rfl⟩ (fun hHeld => ?_)
 clear hK K
 refine nz (N := some 15) ?_
 refine pz (i := 5) (N := some 16) #[true, true, true, true, true, true, true, true, false, false, false] rfl rfl HT_.out ?_
 refine pz (i := 8) (N := some 19) #[true, true, true, true, true, true, true, true, true, false, false] rfl rfl HT_.out ?_
 refine pz (i := 9) (N := some 20) #[true, true, true, true, true, true, true, true, true, true, false] rfl rfl HT_.out ?_
 refine last_ (i := 10) (N := none) #[true, true, true, true, true, true, true, true, true, true, true] rfl rfl (one_of HT_.out (by kernel_rfl)) (by decide) (fun K hK => ?_)
 have hs11 : w10.cell? ⟨gb279, 1, none⟩ = some (.int .u64 a0_1) := (blk_cell BK279.out 1).trans rfl
 have hfs11 := blk_frozen BK279.out 1
 have hns11_1 := NB280_279.out
 have hms11_1 := NB279_280.out
 refine skip_ (w1 := ?_) (by rfl) rfl ?_ ?_
 rotate_left
 ·go_simp
  rfl
 refine hK.out _ _ ?_
 clear hK K
 refine done_ (done_of HT_.out (by kernel_rfl)) ?_
 (try simp only [Dig.setCell_drewN])
 try go_wp2
 have n0_ : Aside0 ((w10.setCell ⟨gb279, 1, none⟩ (.int .u64 (Go.bits .xor .u64 (Go.bits .xor .u64 a0_1 t282) (IntKind.u64.wrap ((IntKind.u64.wrap (a0_0 + t281)) + 2654435761))))).heap[gb279]? = some (.cells #[.int .u64 (IntKind.u64.wrap ((IntKind.u64.wrap (a0_0 + t281)) + 2654435761)), .int .u64 (Go.bits .xor .u64 (Go.bits .xor .u64 a0_1 t282) (IntKind.u64.wrap ((IntKind.u64.wrap (a0_0 + t281)) + 2654435761))), .int .u64 a0_2] 136 (0, 0))) := ⟨by (with_reducible repeat (first | refine blk_drewN ?_ _ | refine blk_drew ?_ | refine blk_alloc ?_ _)); refine blk_put (cs := #[.int .u64 (IntKind.u64.wrap ((IntKind.u64.wrap (a0_0 + t281)) + 2654435761)), .int .u64 a0_1, .int .u64 a0_2]) ?_ 1 _ rfl; (with_reducible repeat (first | refine blk_drewN ?_ _ | refine blk_drew ?_ | refine blk_alloc ?_ _)); exact BK279.out⟩
 have n1_ : Aside0 ((w10.setCell ⟨gb279, 1, none⟩ (.int .u64 (Go.bits .xor .u64 (Go.bits .xor .u64 a0_1 t282) (IntKind.u64.wrap ((IntKind.u64.wrap (a0_0 + t281)) + 2654435761))))).heap[gb280]? = some (.cells #[.int .u64 0, .int .u64 0, .int .u64 0] 136 (0, 0))) := ⟨by (with_reducible repeat (first | refine blk_drewN ?_ _ | refine blk_drew ?_ | refine blk_alloc ?_ _)); refine blk_far ?_ NB280_279.out _; (with_reducible repeat (first | refine blk_drewN ?_ _ | refine blk_drew ?_ | refine blk_alloc ?_ _)); exact BK280.out⟩
 have n2_ : Aside0 (Below w.heap.size w (w10.setCell ⟨gb279, 1, none⟩ (.int .u64 (Go.bits .xor .u64 (Go.bits .xor .u64 a0_1 t282) (IntKind.u64.wrap ((IntKind.u64.wrap (a0_0 + t281)) + 2654435761)))))) := ⟨b2 GE279.out GE280.out⟩
 (try clear BK279)
 (try clear BK280)
 (try clear HB)
 generalize (w10.setCell ⟨gb279, 1, none⟩ (.int .u64 (Go.bits .xor .u64 (Go.bits .xor .u64 a0_1 t282) (IntKind.u64.wrap ((IntKind.u64.wrap (a0_0 + t281)) + 2654435761))))) = w12 at n0_ n1_ n2_ ⊢
 have BK279 := n0_
 have BK280 := n1_
 have HB := n2_
 clear n0_ n1_ n2_
 (try (rw [drewN_self w12]; generalize hq_ : World.drewN w12 _ = w12; have n0_ : Aside0 (w12.heap[gb279]? = some (.cells #[.int .u64 (IntKind.u64.wrap ((IntKind.u64.wrap (a0_0 + t281)) + 2654435761)), .int .u64 (Go.bits .xor .u64 (Go.bits .xor .u64 a0_1 t282) (IntKind.u64.wrap ((IntKind.u64.wrap (a0_0 + t281)) + 2654435761))), .int .u64 a0_2] 136 (0, 0))) := ⟨by rw [← hq_]; exact (mb BK279.out)⟩; have n1_ : Aside0 (w12.heap[gb280]? = some (.cells #[.int .u64 0, .int .u64 0, .int .u64 0] 136 (0, 0))) := ⟨by rw [← hq_]; exact (mb BK280.out)⟩; have n2_ : Aside0 (Below w.heap.size w w12) := ⟨by rw [← hq_]; exact (b2 GE279.out GE280.out)⟩; clear BK279 BK280 HB hq_; have BK279 := n0_; have BK280 := n1_; have HB := n2_; clear n0_ n1_ n2_))
 have n0_ := am (blk_drew BK279.out)
 have n1_ := am (blk_drew BK280.out)
 have n2_ := am (below_drew1 HB.out)
 clear BK279
 clear BK280
 clear HB
 have BK279 := n0_
 have BK280 := n1_
 have HB := n2_
 clear n0_ n1_ n2_
 refine start_ (n := 12) (S := fun w' => w'.cell? ⟨gb279, 0, none⟩ = some (.int .u64 (IntKind.u64.wrap ((IntKind.u64.wrap (a0_0 + t281)) + 2654435761))) ∧ w'.cell? ⟨gb279, 1, none⟩ = some (.int .u64 (Go.bits .xor .u64 (Go.bits .xor .u64 a0_1 t282) (IntKind.u64.wrap ((IntKind.u64.wrap (a0_0 + t281)) + 2654435761)))) ∧ w'.cell? ⟨gb279, 2, none⟩ = some (.int .u64 a0_2)) (ds := [11]) #[false, false, false, false, false, false, false, false, false, false, false, false] (by kernel_rfl) rfl rfl ⟨(blk_cell BK279.out 0).trans rfl, (blk_cell BK279.out 1).trans rfl, (blk_cell BK279.out 2).trans rfl⟩ (fun hHeld => ?_); refine with_tabW spec_l1Round.tab3 spec_l1Round.bits3 (fun HT_ HW_ => ?_)
 generalize w12.drew = w13 at BK279 BK280 HB hHeld ⊢
 refine pz (i := 0) (N := some 21) #[true, false, false, false, false, false, false, false, false, false, false, false] rfl rfl HT_.out ?_
 refine pz (i := 2) (N := some 23) #[true, false, true, false, false, false, false, false, false, false, false, false] rfl rfl HT_.out ?_
 refine pz (i := 6) (N := some 27) #[true, false, true, false, false, false, true, false, false, false, false, false] rfl rfl HT_.out ?_
 refine tz (i := 1) (N := some 22) #[true, true, true, false, false, false, true, false, false, false, false, false] rfl rfl HT_.out HW_.out hHeld (Or.inl ⟨by rfl, by rintro w' ⟨s0, s1, s2⟩; go_simp; with_reducible rfl⟩) ?_
 refine tz (i := 3) (N := some 24) #[true, true, true, true, false, false, true, false, false, false, false, false] rfl rfl HT_.out HW_.out hHeld (Or.inl ⟨by rfl, by rintro w' ⟨s0, s1, s2⟩; go_simp; with_reducible rfl⟩) ?_
 refine tz (i := 7) (N := some 28) #[true, true, true, true, false, false, true, true, false, false, false, false] rfl rfl HT_.out HW_.out hHeld (Or.inl ⟨by rfl, by rintro w' ⟨s0, s1, s2⟩; go_simp; with_reducible rfl⟩) ?_
 refine pz (i := 8) (N := some 29) #[true, true, true, true, false, false, true, true, true, false, false, false] rfl rfl HT_.out ?_
 refine one_ (i := 4) (N := some 25) #[true, true, true, true, true, false, true, true, true, false, false, false] rfl rfl (one_of HT_.out (by kernel_rfl)) (by decide) (fun K hK => ?_)
 refine goes_ Try.func145 (by kernel_rfl) rfl #[.int .u64 (IntKind.u64.wrap ((IntKind.u64.wrap (a0_0 + t281)) + 2654435761)), .int .i64 41] (by rfl) rfl rfl av ?_
 with_reducible refine (spec_l1Turn.calls (IntKind.u64.wrap ((IntKind.u64.wrap (a0_0 + t281)) + 2654435761)) 41 t283 _ A4.out).mono ?_
 rintro e w' ⟨rfl, ⟨nd, rfl⟩⟩
 refine ⟨_, rfl, ?_⟩
 refine hK.out _ _ ⟨(blk_cell BK279.out 0).trans rfl, (blk_cell BK279.out 1).trans rfl, (blk_cell BK279.out 2).trans rfl⟩ (fun hHeld => ?_)
 clear hK K
 refine nz (N := some 25) ?_
 refine pz (i := 5) (N := some 26) #[true, true, true, true, true, true, true, true, true, false, false, false] rfl rfl HT_.out ?_
 refine pz (i := 9) (N := some 30) #[true, true, true, true, true, true, true, true, true, true, false, false] rfl rfl HT_.out ?_
 refine pz (i := 10) (N := some 31) #[true, true, true, true, true, true, true, true, true, true, true, false] rfl rfl HT_.out ?_
 refine last_ (i := 11) (N := none) #[true, true, true, true, true, true, true, true, true, true, true, true] rfl rfl (one_of HT_.out (by kernel_rfl)) (by decide) (fun K hK => ?_)
 have hs14 : w13.cell? ⟨gb279, 2, none⟩ = some (.int .u64 a0_2) := (blk_cell BK279.out 2).trans rfl
 have hfs14 := blk_frozen BK279.out 2
 have hns14_1 := NB280_279.out
 have hms14_1 := NB279_280.out
 refine skip_ (w1 := ?_) (by rfl) rfl ?_ ?_
 rotate_left
 ·go_simp
  rfl
 refine hK.out _ _ ?_
 clear hK K
 refine done_ (done_of HT_.out (by kernel_rfl)) ?_
 have hnb15 := NB279_280.out
 have hnc15 := NB280_279.out
 have hcz16_0 : w13.cell? ⟨gb279, 0, none⟩ = some (.int .u64 (IntKind.u64.wrap ((IntKind.u64.wrap (a0_0 + t281)) + 2654435761))) := (blk_cell BK279.out 0).trans rfl
 have hcz16_1 : w13.cell? ⟨gb279, 1, none⟩ = some (.int .u64 (Go.bits .xor .u64 (Go.bits .xor .u64 a0_1 t282) (IntKind.u64.wrap ((IntKind.u64.wrap (a0_0 + t281)) + 2654435761)))) := (blk_cell BK279.out 1).trans rfl
 have hcz16_2 : w13.cell? ⟨gb279, 2, none⟩ = some (.int .u64 a0_2) := (blk_cell BK279.out 2).trans rfl
 have hfz16_0 := blk_frozen BK279.out 0
 have hfz16_1 := blk_frozen BK279.out 1
 have hfz16_2 := blk_frozen BK279.out 2
 have hcz17_0 : w13.cell? ⟨gb280, 0, none⟩ = some (.int .u64 0) := (blk_cell BK280.out 0).trans rfl
 have hcz17_1 : w13.cell? ⟨gb280, 1, none⟩ = some (.int .u64 0) := (blk_cell BK280.out 1).trans rfl
 have hcz17_2 : w13.cell? ⟨gb280, 2, none⟩ = some (.int .u64 0) := (blk_cell BK280.out 2).trans rfl
 have hfz17_0 := blk_frozen BK280.out 0
 have hfz17_1 := blk_frozen BK280.out 1
 have hfz17_2 := blk_frozen BK280.out 2
 try go_wp2
 refine bodyPost_ret (results_cell_row rfl _ _ gb280 136 #[.int .u64 (IntKind.u64.wrap ((IntKind.u64.wrap (a0_0 + t281)) + 2654435761)), .int .u64 (Go.bits .xor .u64 (Go.bits .xor .u64 a0_1 t282) (IntKind.u64.wrap ((IntKind.u64.wrap (a0_0 + t281)) + 2654435761))), .int .u64 (IntKind.u64.wrap ((IntKind.u64.wrap (a0_2 + t283)) + (Go.bits .xor .u64 (Go.bits .xor .u64 (Go.bits .xor .u64 a0_1 t282) (IntKind.u64.wrap ((IntKind.u64.wrap (a0_0 + t281)) + 2654435761))) 40503)))] (0, 0) _ rfl (by (with_reducible repeat (first | refine blk_drewN ?_ _ | refine blk_drew ?_ | refine blk_alloc ?_ _)); refine blk_put (cs := #[.int .u64 (IntKind.u64.wrap ((IntKind.u64.wrap (a0_0 + t281)) + 2654435761)), .int .u64 (Go.bits .xor .u64 (Go.bits .xor .u64 a0_1 t282) (IntKind.u64.wrap ((IntKind.u64.wrap (a0_0 + t281)) + 2654435761))), .int .u64 0]) ?_ 2 _ rfl; (with_reducible repeat (first | refine blk_drewN ?_ _ | refine blk_drew ?_ | refine blk_alloc ?_ _)); refine blk_put (cs := #[.int .u64 (IntKind.u64.wrap ((IntKind.u64.wrap (a0_0 + t281)) + 2654435761)), .int .u64 0, .int .u64 0]) ?_ 1 _ rfl; (with_reducible repeat (first | refine blk_drewN ?_ _ | refine blk_drew ?_ | refine blk_alloc ?_ _)); refine blk_put (cs := #[.int .u64 0, .int .u64 0, .int .u64 0]) ?_ 0 _ rfl; (with_reducible repeat (first | refine blk_drewN ?_ _ | refine blk_drew ?_ | refine blk_alloc ?_ _)); refine blk_far ?_ NB280_279.out _; (with_reducible repeat (first | refine blk_drewN ?_ _ | refine blk_drew ?_ | refine blk_alloc ?_ _)); exact BK280.out) Try.underlying136 rfl (by kernel_rfl)) rfl ?_
 exact ⟨by first | rfl | (simp [errW_none, errW_some] <;> rfl) | (simp [*, errW_none, errW_some] <;> rfl), b2 GE279.out GE280.out⟩

/-! ### spec_l1Out: function 137 -/
def spec_l1Out.l0 : Nat → Int → Int → Int → Int → Int → Int → Option (Int)
 | 0, _, _, _, _, _, _ => none
 | k + 1, x0, x2, x7, x285000, x285001, x285002 => if x7 < x2 then ((spec_l1Round.f x285000 x285001 x285002).bind fun bt285 => (spec_l1Out.l0 k x0 x2 (wrap64 (x7 + 1)) bt285.1 bt285.2.1 bt285.2.2)) else (if 0 ≤ x0 then (some (wrap64 (Go.bits .and .u64 (Go.bits .xor .u64 (Go.bits .xor .u64 x285000 x285001) x285002) (IntKind.u64.wrap ((shl .u64 1 x0) - 1))))) else (none))
def spec_l1Out.f (k : Nat) (a0 : Int) (a1_0 : Int) (a1_1 : Int) (a1_2 : Int) (a2 : Int) : Option (Int) := spec_l1Out.l0 k a0 a2 0 a1_0 a1_1 a1_2
set_option maxHeartbeats 8000000 in
set_option maxRecDepth 100000 in
theorem spec_l1Out.calls (k : Nat) (a0 : Int) (a1_0 : Int) (a1_1 : Int) (a1_2 : Int) (a2 : Int) (r : Int) (w : World) (h : spec_l1Out.f k a0 a1_0 a1_1 a1_2 a2 = some r) :
  Calls Try.prog 137 #[.int .i64 a0, .agg #[.int .u64 a1_0, .int .u64 a1_1, .int .u64 a1_2], .int .i64 a2] w fun e w' => e = .returned (.int .i64 r) ∧ Below w.heap.size w w' := by
 have hu136 := Try.underlying136
 have HB := am (Below.refl w.heap.size w)
 have H : (spec_l1Out.l0 k a0 a2 0 a1_0 a1_1 a1_2) = some r := h
 clear h
 have H' := am H
 clear H
 go_enter Try.func137, Try.ntmps137
 go_wp2_with (first | ((with_reducible refine gate_dst (N := 4) rfl ?_); refine box_event ?hg (N := 4) ?hd (cs := #[.int .u64 a1_0, .int .u64 a1_1, .int .u64 a1_2]) (t := 136) ?hr ?_; (case hd => rfl); (case hg => rfl); (case hr => first | (go_simp; done) | (go_simp; rfl)); intro gb284 hg w4 hbox hb; have BK284 := am (hbox); have GW284 := am ((by rw [hg]; exact (below_size (bt)) : w.heap.size ≤ gb284)); have GE284 := am ((by rw [hg]; exact (below_size (bt)) : w.heap.size ≤ gb284)); replace HB := am (below_step (bt) hb); clear hb hbox hg))
 go_loopg [7] k (fun kq v7 w' => ∃ (x7_1 : Int) (x285000_1 : Int) (x285001_1 : Int) (x285002_1 : Int), v7 = .int .i64 x7_1 ∧ Aside0 (spec_l1Out.l0 kq a0 a2 x7_1 x285000_1 x285001_1 x285002_1 = some r) ∧ Aside0 (kq ≤ k) ∧ Aside0 (w'.heap[gb284]? = some (.cells #[.int .u64 x285000_1, .int .u64 x285001_1, .int .u64 x285002_1] 136 (0, 0))) ∧ Aside0 (Below w.heap.size w w'))
 case atStart => exact ⟨(0), (a1_0), (a1_1), (a1_2), (by first | rfl | (simp; done) | (simp [*]; done)), H', ⟨Nat.le_refl _⟩, ⟨mb BK284.out⟩, ⟨b1 GE284.out⟩⟩
 case round =>
  clear H'
  try clear c1
  try clear p2
  obtain ⟨x7_1, x285000_1, x285001_1, x285002_1, rfl, HA, HK1, BK284, HB⟩ := hrel
  cases gk with
  | zero => exact absurd HA.out (by simp [spec_l1Out.l0])
  | succ k1 =>
   have H := HA.out
   clear HA
   simp only [spec_l1Out.l0] at H
   by_cases c5 : x7_1 < a2
   ·rw [if_pos c5] at H
    have c5b0 : decide (x7_1 < a2) = true := decide_eq_true c5
    clear c5
    replace H := Option.bind_eq_some_iff.mp H
    obtain ⟨⟨t285, t286, t287⟩, A60, H⟩ := H
    (try dsimp -simprocs only at H)
    have A6 := am A60
    clear A60
    have H' := am H
    clear H
    have hcz7_0 : wr.cell? ⟨gb284, 0, none⟩ = some (.int .u64 x285000_1) := (blk_cell BK284.out 0).trans rfl
    have hcz7_1 : wr.cell? ⟨gb284, 1, none⟩ = some (.int .u64 x285001_1) := (blk_cell BK284.out 1).trans rfl
    have hcz7_2 : wr.cell? ⟨gb284, 2, none⟩ = some (.int .u64 x285002_1) := (blk_cell BK284.out 2).trans rfl
    have hfz7_0 := blk_frozen BK284.out 0
    have hfz7_1 := blk_frozen BK284.out 1
    have hfz7_2 := blk_frozen BK284.out 2
    go_wp2_with (first | (go_at_call 136; (with_reducible refine (spec_l1Round.calls x285000_1 x285001_1 x285002_1 t285 t286 t287 _ A6.out).mono ?_); rintro e w8 ⟨rfl, hb⟩; replace BK284 := am (blk_below (g := gb284) (o := .cells #[.int .u64 x285000_1, .int .u64 x285001_1, .int .u64 x285002_1] 136 (0, 0)) (mb BK284.out) hb); replace HB := am (below_step (b1 GE284.out) hb); (try clear hb); (try clear hb2); (try clear hk); (try clear hi); have hcz9_0 : w8.cell? ⟨gb284, 0, none⟩ = some (.int .u64 x285000_1) := (blk_cell BK284.out 0).trans rfl; have hcz9_1 : w8.cell? ⟨gb284, 1, none⟩ = some (.int .u64 x285001_1) := (blk_cell BK284.out 1).trans rfl; have hcz9_2 : w8.cell? ⟨gb284, 2, none⟩ = some (.int .u64 x285002_1) := (blk_cell BK284.out 2).trans rfl; have hfz9_0 := blk_frozen BK284.out 0; have hfz9_1 := blk_frozen BK284.out 1; have hfz9_2 := blk_frozen BK284.out 2))
    go_roundg k1
    case measure => have := HK1.out; omega
    case rel => exact ⟨(wrap64 (x7_1 + 1)), (t285), (t286), (t287), (by first | rfl | (simp; done) | (simp [*]; done)), H', ⟨by have := HK1.out; omega⟩, ⟨by (with_reducible repeat (first | refine blk_drewN ?_ _ | refine blk_drew ?_ | refine blk_alloc ?_ _)); refine blk_put (cs := #[.int .u64 t285, .int .u64 t286, .int .u64 x285002_1]) ?_ 2 _ rfl; (with_reducible repeat (first | refine blk_drewN ?_ _ | refine blk_drew ?_ | refine blk_alloc ?_ _)); refine blk_put (cs := #[.int .u64 t285, .int .u64 x285001_1, .int .u64 x285002_1]) ?_ 1 _ rfl; (with_reducible repeat (first | refine blk_drewN ?_ _ | refine blk_drew ?_ | refine blk_alloc ?_ _)); refine blk_put (cs := #[.int .u64 x285000_1, .int .u64 x285001_1, .int .u64 x285002_1]) ?_ 0 _ rfl; (with_reducible repeat (first | refine blk_drewN ?_ _ | refine blk_drew ?_ | refine blk_alloc ?_ _)); exact BK284.out⟩, ⟨b1 GE284.out⟩⟩
   ·rw [if_neg c5] at H
    have c5b0 : decide (x7_1 < a2) = false := decide_eq_false c5
    clear c5
    by_cases c10 : 0 ≤ a0
    ·rw [if_pos c10] at H
     have c10b0 := eq_true c10
     have c10b1 : decide (0 ≤ a0) = true := decide_eq_true c10
     clear c10
     obtain ⟨ji11, hji11⟩ : ∃ j_ : Int, (shl .u64 1 a0) = j_ := ⟨_, rfl⟩
     replace H : (some (wrap64 (Go.bits .and .u64 (Go.bits .xor .u64 (Go.bits .xor .u64 x285000_1 x285001_1) x285002_1) (IntKind.u64.wrap ((ji11) - 1))))) = some r := by first | (rw [hji11] at H; exact H) | (simp only [hji11] at H ⊢; exact H)
     have hji11_ : (IntKind.u64.wrap (1 * 2 ^ min a0.toNat 64)) = ji11 := hji11
     have hji11z : a0 ≤ 64 → (IntKind.u64.wrap (1 * 2 ^ a0.toNat)) = ji11 := shl_small hji11
     have hji11u : (IntKind.u64.wrap (2 ^ min a0.toNat 64)) = ji11 := by have h_ := hji11_; rw [Int.one_mul] at h_; exact h_
     have hji11v : a0 ≤ 64 → (IntKind.u64.wrap (2 ^ a0.toNat)) = ji11 := fun hle_ => by have h_ := hji11z hle_; rw [Int.one_mul] at h_; exact h_
     obtain rfl := Option.some.inj H
     have hcz12_0 : wr.cell? ⟨gb284, 0, none⟩ = some (.int .u64 x285000_1) := (blk_cell BK284.out 0).trans rfl
     have hcz12_1 : wr.cell? ⟨gb284, 1, none⟩ = some (.int .u64 x285001_1) := (blk_cell BK284.out 1).trans rfl
     have hcz12_2 : wr.cell? ⟨gb284, 2, none⟩ = some (.int .u64 x285002_1) := (blk_cell BK284.out 2).trans rfl
     have hfz12_0 := blk_frozen BK284.out 0
     have hfz12_1 := blk_frozen BK284.out 1
     have hfz12_2 := blk_frozen BK284.out 2
     go_wp2
     repeat (go_quiet (fail); try go_wp2)
     go_ret
     exact ⟨by first | rfl | (simp [errW_none, errW_some] <;> rfl) | (simp only [← hji11]; first | rfl | (simp [errW_none, errW_some] <;> rfl)) | (simp [*, errW_none, errW_some] <;> rfl), b1 GE284.out⟩
    ·rw [if_neg c10] at H
     exact absurd H (by simp)

end Go.Proofs.Ytchjajbkaiefdaa.PFnForgery
