-- Written by a program of this workplace (wip/mp.py) out of the translation.
import Derived.Test.YtaacidhgnappdaaPFnExactFromManyx0
import Derived.Test.YtaacidhgnappdaaPFnExactFromManyx4
import Derived.Test.YtaacidhgnappdaaPFnExactFromManyx5
namespace Go.Proofs.Ytaacidhgnappdaa.PFnExactFromMany
open Go.RowKit Go.Proofs.YtaacidhgnappdaaW.PrintWords Go.Proofs.YtaacidhgnappdaaW.PrintLast Go.Proofs.YtaacidhgnappdaaW.PrintMore Go.Proofs.Ytaacidhgnappdaa.Slim
attribute [local go_sem] max2_int min2_int max_two min_two max_three min_three max_four min_four   -- for this text's walks alone
set_option linter.unusedVariables false
set_option linter.unusedSimpArgs false

/-! ### spec_FromMany: function 56 -/
mutual
def spec_FromMany.j0 : Nat → Int → Int → List Int → List (List Int) → List (List Int) → List Int → Bool → Option (List Int × List Int × Bool)
 | 0, _, _, _, _, _, _, _ => none
 | k + 1, x0, x1, x2, x3, x4, x5, x35 => if x35 = true then (some (([] : List Int), ([] : List Int), false)) else ((spec_l3Many.f k x0 x1 x2 x3 x5).bind fun t313 => ((spec_l3Many.f k x0 x1 x2 x4 x5).bind fun t316 => (spec_FromMany.l0 k t313 t316 (wrap64 ((t313.length : Int) - 1)))))
def spec_FromMany.l0 : Nat → List (List Int) → List (List Int) → Int → Option (List Int × List Int × Bool)
 | 0, _, _, _ => none
 | k + 1, x15, x16, x17 => if x17 ≥ 0 then (if 0 ≤ x17 then (if x17 < (x15.length : Int) then (if x17 < (x16.length : Int) then ((spec_l1Same.f (rd_L2 x15 x17) (rd_L2 x16 x17)).bind fun t321 => (if t321 = true then (spec_FromMany.l0 k x15 x16 (wrap64 (x17 - 1))) else (some (rd_L2 x15 x17, rd_L2 x16 x17, true)))) else (none)) else (none)) else (none)) else (some (([] : List Int), ([] : List Int), false))
end
def spec_FromMany.f (k : Nat) (a0 : Int) (a1 : Int) (l2 : List Int) (l3 : List (List Int)) (l4 : List (List Int)) (l5 : List Int) : Option (List Int × List Int × Bool) := (spec_ManyFrom.f k a0 a1 l2 l3 l5).bind fun t311 => (if t311 < 0 then (spec_FromMany.j0 k a0 a1 l2 l3 l4 l5 true) else ((spec_ManyFrom.f k a0 a1 l2 l4 l5).bind fun t312 => (spec_FromMany.j0 k a0 a1 l2 l3 l4 l5 (t311 != t312))))
def spec_FromMany.T8 : Bool × List (List Nat × List Nat) := (true, [([], []), ([], []), ([0, 1], [0, 1]), ([2], [2]), ([], []), ([], []), ([4, 5], [4, 5]), ([6], [6]), ([3, 7], [3, 7]), ([8], [8])])
def spec_FromMany.B8 : List Nat := [0, 0, 3, 7, 0, 0, 48, 112, 255, 511]
theorem spec_FromMany.tab8 : rtab .any (opsOf Try.f56 8) = spec_FromMany.T8 := by kernel_rfl
theorem spec_FromMany.bits8 : waitsOk spec_FromMany.T8.2 spec_FromMany.B8 = true := by kernel_rfl
def spec_FromMany.T9 : Bool × List (List Nat × List Nat) := (true, [([], []), ([], []), ([0, 1], [0, 1]), ([2], [2]), ([], []), ([], []), ([4, 5], [4, 5]), ([6], [6]), ([3, 7], [3, 7]), ([8, 0, 1, 2, 3, 4, 5, 6, 7, 8], [8]), ([9, 0, 1, 2, 3, 4, 5, 6, 7, 8, 9], [])])
def spec_FromMany.B9 : List Nat := [0, 0, 3, 7, 0, 0, 48, 112, 255, 511, 1023]
theorem spec_FromMany.tab9 : rtab .any (opsOf Try.f56 9) = spec_FromMany.T9 := by kernel_rfl
theorem spec_FromMany.bits9 : waitsOk spec_FromMany.T9.2 spec_FromMany.B9 = true := by kernel_rfl
set_option maxHeartbeats 8000000 in
set_option maxRecDepth 100000 in
theorem spec_FromMany.calls (k : Nat) (a0 : Int) (a1 : Int) (P2_ : Nat → Prop) (A2 : Option Addr) (c2 : Nat) (l2 : List Int) (A3 : Option Addr) (c3 : Nat) (l3 : List (List Int)) (A4 : Option Addr) (c4 : Nat) (l4 : List (List Int)) (P5_ : Nat → Prop) (A5 : Option Addr) (c5 : Nat) (l5 : List Int) (r1 : List Int) (r2 : List Int) (r3 : Bool) (w : World) (hs2 : Kd.V (Kd.int .i64) 3 w w.heap.size (fun k_ => P2_ k_) (.slice A2 l2.length c2) l2) (hr3 : Kd.C (Kd.slice 5 (Kd.int .u8)) w A3 l3.length l3) (hc3 : l3.length ≤ c3) (hr4 : Kd.C (Kd.slice 5 (Kd.int .u8)) w A4 l4.length l4) (hc4 : l4.length ≤ c4) (hs5 : Kd.V (Kd.int .i64) 3 w w.heap.size (fun k_ => P5_ k_) (.slice A5 l5.length c5) l5) (h : spec_FromMany.f k a0 a1 l2 l3 l4 l5 = some (r1, r2, r3)) :
  Calls Try.prog 56 #[.int .i64 a0, .int .i64 a1, .slice A2 l2.length c2, .slice A3 l3.length c3, .slice A4 l4.length c4, .slice A5 l5.length c5] w fun e w' => ∃ v0_ v1_ : Value, e = .returned (.tuple #[.agg #[v0_, v1_], .bool r3]) ∧ Kd.V (Kd.int .u8) 5 w' w.heap.size (fun k_ => (w.heap.size ≤ k_)) v0_ r1 ∧ Kd.V (Kd.int .u8) 5 w' w.heap.size (fun k_ => (w.heap.size ≤ k_)) v1_ r2 ∧ Below w.heap.size w w' := by
 have hu50 := Try.underlying50
 have HO2 := Aside0.mk (show Kd.V (Kd.int .i64) 3 w w.heap.size (fun k_ => ((P2_ k_ ∨ P5_ k_) ∨ w.heap.size ≤ k_)) (.slice A2 l2.length c2) l2 from Kd.V_mono hs2 (fun k_ hk => .inl (.inl hk)))
 have HR3 := Aside0.mk hr3
 have HC3 := Aside0.mk hc3
 clear hr3 hc3
 have HR4 := Aside0.mk hr4
 have HC4 := Aside0.mk hc4
 clear hr4 hc4
 have HO5 := Aside0.mk (show Kd.V (Kd.int .i64) 3 w w.heap.size (fun k_ => ((P2_ k_ ∨ P5_ k_) ∨ w.heap.size ≤ k_)) (.slice A5 l5.length c5) l5 from Kd.V_mono hs5 (fun k_ hk => .inl (.inr hk)))
 have HB := Aside0.mk (Below.refl w.heap.size w)
 have H : ((spec_ManyFrom.f k a0 a1 l2 l3 l5).bind fun t311 => (if t311 < 0 then (spec_FromMany.j0 k a0 a1 l2 l3 l4 l5 true) else ((spec_ManyFrom.f k a0 a1 l2 l4 l5).bind fun t312 => (spec_FromMany.j0 k a0 a1 l2 l3 l4 l5 (t311 != t312))))) = some (r1, r2, r3) := h
 clear h
 replace H := Option.bind_eq_some_iff.mp H
 obtain ⟨t311, A70, H⟩ := H
 (try dsimp -simprocs only at H)
 have A7 := Aside0.mk A70
 clear A70
 have HC8 := Aside0.mk H
 clear H
 go_enter Try.func56, Try.ntmps56
 go_upto_region 2 with (first | ((with_reducible refine gate_dst (N := 12) rfl ?_); refine box_event ?hg (N := 12) ?hd (cs := #[.slice none 0 0, .slice none 0 0]) (t := 50) ?hr ?_; (case hd => rfl); (case hg => rfl); (case hr => first | (go_simp; done) | (go_simp; rfl)); intro gb310 hg w9 hbox hb; replace HO2 := Aside0.mk (Kd.V_below (Kd.V_elderB (mv HO2.out) gb310 (Nat.le_of_eq hg.symm)) hb); replace HO5 := Aside0.mk (Kd.V_below (Kd.V_elderB (mv HO5.out) gb310 (Nat.le_of_eq hg.symm)) hb); have BK310 := Aside0.mk (hbox); have GW310 := Aside0.mk ((by rw [hg]; exact (below_size (bt)) : w.heap.size ≤ gb310)); have GE310 := Aside0.mk ((by rw [hg]; exact (below_size (bt)) : w.heap.size ≤ gb310)); replace HB := Aside0.mk (below_step (bt) hb); clear hb hbox hg) | ((with_reducible refine gate_callee (f := 45) rfl ?_); refine goesL_ (some 23) rfl rfl Try.func45 (by kernel_rfl) rfl #[.int .i64 a0, .int .i64 a1, .slice A2 l2.length c2, .slice A3 l3.length c3, .slice A5 l5.length c5] rfl av ?_; (with_reducible refine (spec_ManyFrom.calls k a0 a1 (fun k_ => (((P2_ k_ ∨ P5_ k_) ∨ w.heap.size ≤ k_) ∧ k_ ≠ gb310)) _ _ l2 _ _ l3 (fun k_ => (((P2_ k_ ∨ P5_ k_) ∨ w.heap.size ≤ k_) ∧ k_ ≠ gb310)) _ _ l5 t311 _ ?side1 ?side2 ?side3 ?side4 A7.out).mono ?_); (case side1 => exact HO2.out); (case side2 => exact cv ((Kd.C_below HR3.out HB.out))); (case side3 => exact HC3.out); (case side4 => exact HO5.out); rintro e w10 ⟨rfl, hb⟩; refine ⟨_, rfl, ?_⟩; replace HO2 := Aside0.mk (Kd.V_below (mv HO2.out) hb); replace HO5 := Aside0.mk (Kd.V_below (mv HO5.out) hb); replace BK310 := Aside0.mk (blk_below (g := gb310) (o := .cells #[.slice none 0 0, .slice none 0 0] 50 (0, 0)) (mb BK310.out) hb); replace HB := Aside0.mk (below_step (b1 GE310.out) hb); (try clear hb); (try clear hb2); (try clear hk); (try clear hi)))
 (try simp only [Act.put, List.setIfInBounds_toArray, List.set_cons_zero, List.set_cons_succ])
 go_cut [35] (fun v35 wc => ∃ (kq : Nat) (x35_7 : Bool), v35 = .bool x35_7 ∧ Aside0 (spec_FromMany.j0 kq a0 a1 l2 l3 l4 l5 x35_7 = some (r1, r2, r3)) ∧ Aside0 (kq ≤ k) ∧ Aside0 (Kd.V (Kd.int .i64) 3 wc w.heap.size (fun k_ => ((P2_ k_ ∨ P5_ k_) ∨ w.heap.size ≤ k_) ∧ k_ ≠ gb310) (.slice A2 l2.length c2) l2) ∧ Aside0 (Kd.V (Kd.int .i64) 3 wc w.heap.size (fun k_ => ((P2_ k_ ∨ P5_ k_) ∨ w.heap.size ≤ k_) ∧ k_ ≠ gb310) (.slice A5 l5.length c5) l5) ∧ Aside0 (wc.heap[gb310]? = some (.cells #[(.slice none 0 0), (.slice none 0 0)] 50 (0, 0))) ∧ Aside0 (Below w.heap.size w wc))
 case first =>
  have H := HC8.out
  clear HC8
  by_cases c11 : t311 < 0
  ·rw [if_pos c11] at H
   have c11b0 : decide (t311 < 0) = true := decide_eq_true c11
   clear c11
   (first | rw [c11b0] | (simp only [i64_w, i32_w]; rw [c11b0]) | skip)
   have H' := Aside0.mk H
   clear H
   go_wp2
   go_meet
   case rel => exact ⟨_, (true), (by first | rfl | (simp; done) | (simp [*]; done)), H', ⟨by first | omega | exact Nat.le_refl _⟩, ⟨mv HO2.out⟩, ⟨mv HO5.out⟩, ⟨mb BK310.out⟩, ⟨b1 GE310.out⟩⟩
  ·rw [if_neg c11] at H
   have c11b0 : decide (t311 < 0) = false := decide_eq_false c11
   clear c11
   (first | rw [c11b0] | (simp only [i64_w, i32_w]; rw [c11b0]) | skip)
   replace H := Option.bind_eq_some_iff.mp H
   obtain ⟨t312, A120, H⟩ := H
   (try dsimp -simprocs only at H)
   have A12 := Aside0.mk A120
   clear A120
   have H' := Aside0.mk H
   clear H
   go_wp2_with (first | (go_at_call 45; (with_reducible refine (spec_ManyFrom.calls k a0 a1 (fun k_ => (((P2_ k_ ∨ P5_ k_) ∨ w.heap.size ≤ k_) ∧ k_ ≠ gb310)) _ _ l2 _ _ l4 (fun k_ => (((P2_ k_ ∨ P5_ k_) ∨ w.heap.size ≤ k_) ∧ k_ ≠ gb310)) _ _ l5 t312 _ ?side1 ?side2 ?side3 ?side4 A12.out).mono ?_); (case side1 => exact HO2.out); (case side2 => exact cv ((Kd.C_below HR4.out HB.out))); (case side3 => exact HC4.out); (case side4 => exact HO5.out); rintro e w13 ⟨rfl, hb⟩; replace HO2 := Aside0.mk (Kd.V_below (mv HO2.out) hb); replace HO5 := Aside0.mk (Kd.V_below (mv HO5.out) hb); replace BK310 := Aside0.mk (blk_below (g := gb310) (o := .cells #[.slice none 0 0, .slice none 0 0] 50 (0, 0)) (mb BK310.out) hb); replace HB := Aside0.mk (below_step (b1 GE310.out) hb); (try clear hb); (try clear hb2); (try clear hk); (try clear hi)))
   go_meet
   case rel => exact ⟨_, ((t311 != t312)), (by first | rfl | (simp; done) | (simp [*]; done)), H', ⟨by first | omega | exact Nat.le_refl _⟩, ⟨mv HO2.out⟩, ⟨mv HO5.out⟩, ⟨mb BK310.out⟩, ⟨b1 GE310.out⟩⟩
 case rest =>
  clear HC8
  try clear c1
  try clear c2
  try clear p2
  try clear c3
  try clear c4
  try clear c5
  try clear c11
  try clear c11b0
  obtain ⟨kq, x35_7, rfl, HA, HJ7, HO_2, HO_5, BK310, HB⟩ := hcut
  cases kq with
  | zero => exact absurd HA.out (by simp [spec_FromMany.j0])
  | succ kj7 =>
   have H := HA.out
   clear HA
   simp only [spec_FromMany.j0] at H
   by_cases c14 : x35_7 = true
   ·subst c14
    rw [if_pos rfl] at H
    simp only [Option.some.injEq, Prod.mk.injEq] at H
    obtain ⟨rfl, rfl, rfl⟩ := H
    have hcz15_0 : wc.cell? ⟨gb310, 0, none⟩ = some (.slice none 0 0) := (blk_cell BK310.out 0).trans rfl
    have hcz15_1 : wc.cell? ⟨gb310, 1, none⟩ = some (.slice none 0 0) := (blk_cell BK310.out 1).trans rfl
    have hfz15_0 := blk_frozen BK310.out 0
    have hfz15_1 := blk_frozen BK310.out 1
    go_wp2
    refine bodyPost_ret (results_ct rfl _ _ gb310 50 #[.slice none 0 0, .slice none 0 0] (0, 0) _ rfl (by (with_reducible repeat (first | refine blk_drewN ?_ _ | refine blk_drew ?_ | refine blk_alloc ?_ _)); refine blk_put (cs := #[.slice none 0 0, .slice none 0 0]) ?_ 1 _ rfl; (with_reducible repeat (first | refine blk_drewN ?_ _ | refine blk_drew ?_ | refine blk_alloc ?_ _)); refine blk_put (cs := #[.slice none 0 0, .slice none 0 0]) ?_ 0 _ rfl; (with_reducible repeat (first | refine blk_drewN ?_ _ | refine blk_drew ?_ | refine blk_alloc ?_ _)); exact BK310.out) Try.underlying50 rfl (by kernel_rfl)) rfl ?_
    exact ⟨_, _, by first | rfl | (simp [errW_none, errW_some] <;> rfl) | (simp [*, errW_none, errW_some] <;> rfl), Kd.V_nil _ _ _ _ _, Kd.V_nil _ _ _ _ _, b1 GE310.out⟩
   ·replace c14 := Bool.eq_false_iff.mpr c14
    subst c14
    rw [if_neg (show ¬ (false = true) by decide)] at H
    replace H := Option.bind_eq_some_iff.mp H
    obtain ⟨t313, A160, H⟩ := H
    (try dsimp -simprocs only at H)
    have A16 := Aside0.mk A160
    clear A160
    replace H := Option.bind_eq_some_iff.mp H
    obtain ⟨t316, A170, H⟩ := H
    (try dsimp -simprocs only at H)
    have A17 := Aside0.mk A170
    clear A170
    have H' := Aside0.mk H
    clear H
    go_wp2_with (first | ((with_reducible refine gate_callee (f := 97) rfl ?_); refine goesL_ (some 42) rfl rfl Try.func97 (by kernel_rfl) rfl #[.int .i64 a0, .int .i64 a1, .slice A2 l2.length c2, .slice A3 l3.length c3, .slice A5 l5.length c5] rfl av ?_; (with_reducible refine (spec_l3Many.calls kj7 a0 a1 (fun k_ => (((P2_ k_ ∨ P5_ k_) ∨ w.heap.size ≤ k_) ∧ k_ ≠ gb310)) _ _ l2 _ _ l3 (fun k_ => (((P2_ k_ ∨ P5_ k_) ∨ w.heap.size ≤ k_) ∧ k_ ≠ gb310)) _ _ l5 t313 _ ?side1 ?side2 ?side3 ?side4 A16.out).mono ?_); (case side1 => exact HO_2.out); (case side2 => exact cv ((Kd.C_below HR3.out HB.out))); (case side3 => exact HC3.out); (case side4 => exact HO_5.out); rintro e w18 ⟨v314, rfl, ho0, hb⟩; refine ⟨_, rfl, ?_⟩; replace HO_2 := Aside0.mk (Kd.V_elder' (mv HO_2.out) (by first | exact Kd.N_base ho0 | exact Kd.S_base ho0) hb); replace HO_5 := Aside0.mk (Kd.V_elder' (mv HO_5.out) (by first | exact Kd.N_base ho0 | exact Kd.S_base ho0) hb); have HO315 := Aside0.mk (Kd.N_lower (Kd.N_mono (ok' := fun k_ => (w.heap.size ≤ k_) ∧ k_ ≠ gb310) ho0 (fun k_ hk_ => ⟨(Nat.le_trans (below_size (b1 GE310.out)) hk_), (Kd.freshB (g := gb310) (o := .cells #[.slice none 0 0, .slice none 0 0] 50 (0, 0)) (mb BK310.out) k_ hk_)⟩)) (below_size (b1 GE310.out))); replace BK310 := Aside0.mk (blk_below (g := gb310) (o := .cells #[.slice none 0 0, .slice none 0 0] 50 (0, 0)) (mb BK310.out) hb); replace HB := Aside0.mk (below_step (b1 GE310.out) hb); (try clear hb); (try clear hb2); (try clear hk); (try clear hi); (try clear ho0)) | ((with_reducible refine gate_callee (f := 97) rfl ?_); refine goesL_ (some 48) rfl rfl Try.func97 (by kernel_rfl) rfl #[.int .i64 a0, .int .i64 a1, .slice A2 l2.length c2, .slice A4 l4.length c4, .slice A5 l5.length c5] rfl av ?_; (with_reducible refine (spec_l3Many.calls kj7 a0 a1 (fun k_ => ((((P2_ k_ ∨ P5_ k_) ∨ w.heap.size ≤ k_) ∧ k_ ≠ gb310) ∧ some k_ ≠ (v314 : Value).ownBlock)) _ _ l2 _ _ l4 (fun k_ => ((((P2_ k_ ∨ P5_ k_) ∨ w.heap.size ≤ k_) ∧ k_ ≠ gb310) ∧ some k_ ≠ (v314 : Value).ownBlock)) _ _ l5 t316 _ ?side1 ?side2 ?side3 ?side4 A17.out).mono ?_); (case side1 => exact HO_2.out); (case side2 => exact cv ((Kd.C_below HR4.out HB.out))); (case side3 => exact HC4.out); (case side4 => exact HO_5.out); rintro e w19 ⟨v317, rfl, ho0, hb⟩; refine ⟨_, rfl, ?_⟩; replace HO_2 := Aside0.mk (Kd.V_elder' (mv HO_2.out) (by first | exact Kd.N_base ho0 | exact Kd.S_base ho0) hb); replace HO_5 := Aside0.mk (Kd.V_elder' (mv HO_5.out) (by first | exact Kd.N_base ho0 | exact Kd.S_base ho0) hb); have HO318 := Aside0.mk (Kd.N_lower (Kd.N_mono (ok' := fun k_ => (w.heap.size ≤ k_) ∧ some k_ ≠ (v314 : Value).ownBlock ∧ k_ ≠ gb310) ho0 (fun k_ hk_ => ⟨(Nat.le_trans (below_size (b1 GE310.out)) hk_), (Kd.fresh' (Kd.N_lt (mv HO315.out)) k_ hk_), (Kd.freshB (g := gb310) (o := .cells #[.slice none 0 0, .slice none 0 0] 50 (0, 0)) (mb BK310.out) k_ hk_)⟩)) (below_size (b1 GE310.out))); replace HO315 := Aside0.mk (Kd.N_elder' (mv HO315.out) (by first | exact Kd.N_base ho0 | exact Kd.S_base ho0) hb); replace BK310 := Aside0.mk (blk_below (g := gb310) (o := .cells #[.slice none 0 0, .slice none 0 0] 50 (0, 0)) (mb BK310.out) hb); replace HB := Aside0.mk (below_step (b1 GE310.out) hb); (try clear hb); (try clear hb2); (try clear hk); (try clear hi); (try clear ho0); obtain ⟨Ao20, co20, eo20⟩ := Kd.N_slice HO315.out; subst eo20))
    go_loopg [17] kj7 (fun kq v17 w' => ∃ (x17_2 : Int), v17 = .int .i64 x17_2 ∧ Aside0 (spec_FromMany.l0 kq t313 t316 x17_2 = some (r1, r2, r3)) ∧ Aside0 (kq ≤ kj7) ∧ Aside0 (Kd.N (Kd.slice 5 (Kd.int .u8)) 22 w' w.heap.size (fun k_ => (w.heap.size ≤ k_) ∧ some k_ ≠ (v317 : Value).ownBlock ∧ k_ ≠ gb310) (.slice Ao20 t313.length co20) t313) ∧ Aside0 (Kd.N (Kd.slice 5 (Kd.int .u8)) 22 w' w.heap.size (fun k_ => (w.heap.size ≤ k_) ∧ some k_ ≠ ((.slice Ao20 t313.length co20) : Value).ownBlock ∧ k_ ≠ gb310) v317 t316) ∧ Aside0 (w'.heap[gb310]? = some (.cells #[(.slice none 0 0), (.slice none 0 0)] 50 (0, 0))) ∧ Aside0 (Below w.heap.size w w'))
    case atStart => exact ⟨(wrap64 ((t313.length : Int) - 1)), (by first | rfl | (simp; done) | (simp [*]; done)), H', ⟨Nat.le_refl _⟩, ⟨by (with_reducible repeat (first | apply Kd.N_alloc | apply Kd.N_drewN | apply Kd.N_drew)); exact Kd.N_mono HO315.out (fun _ hk => ⟨hk.1.1, ⟨hk.2, hk.1.2⟩⟩)⟩, ⟨mv HO318.out⟩, ⟨mb BK310.out⟩, ⟨b1 GE310.out⟩⟩
    case round =>
     clear H'
     try clear c1
     try clear c2
     try clear p2
     try clear c3
     try clear c4
     try clear c5
     try clear p6
     try clear c9
     try clear c11
     try clear c11b0
     try clear c14
     try clear hcz15_0
     try clear hcz15_1
     try clear hfz15_0
     try clear hfz15_1
     try clear p2
     obtain ⟨x17_2, rfl, HA, HK2, HO_15, HO_16, BK310, HB⟩ := hrel
     cases gk with
     | zero => exact absurd HA.out (by simp [spec_FromMany.l0])
     | succ k2 =>
      have H := HA.out
      clear HA
      simp only [spec_FromMany.l0] at H
      by_cases c21 : x17_2 ≥ 0
      ·rw [if_pos c21] at H
       have c21b0 : decide (0 ≤ x17_2) = true := decide_eq_true c21
       clear c21
       by_cases c22 : 0 ≤ x17_2
       ·rw [if_pos c22] at H
        have c22b0 : decide (0 ≤ x17_2) = true := decide_eq_true c22
        clear c22
        by_cases c23 : x17_2 < (t313.length : Int)
        ·rw [if_pos c23] at H
         have c23b0 : decide (x17_2 < (t313.length : Int)) = true := decide_eq_true c23
         clear c23
         by_cases c24 : x17_2 < (t316.length : Int)
         ·rw [if_pos c24] at H
          have c24b0 : decide (x17_2 < (t316.length : Int)) = true := decide_eq_true c24
          clear c24
          replace H := Option.bind_eq_some_iff.mp H
          obtain ⟨t321, A250, H⟩ := H
          (try dsimp -simprocs only at H)
          have A25 := Aside0.mk A250
          clear A250
          by_cases c26 : t321 = true
          ·subst c26
           rw [if_pos rfl] at H
           have H' := Aside0.mk H
           clear H
           try go_wp2
           have n0_ := Aside0.mk (Kd.N_drew HO_15.out)
           have n1_ := Aside0.mk (Kd.N_drew HO_16.out)
           have n2_ := Aside0.mk (blk_drew BK310.out)
           have n3_ := Aside0.mk (below_drew1 HB.out)
           clear HO_15
           clear HO_16
           clear BK310
           clear HB
           have HO_15 := n0_
           have HO_16 := n1_
           have BK310 := n2_
           have HB := n3_
           clear n0_ n1_ n2_ n3_
           have p319 : 0 ≤ (x17_2 : Int) := of_decide_eq_true asm
           have q319 : x17_2 < (t313.length : Int) := of_decide_eq_true asm
           obtain ⟨ad319, A319_0, c319_0, e319, hx319_0, hl319_0, hi319_0⟩ := at_L2 (Kd.N_reads' HO_15.out).2.2 x17_2 p319 q319
           cases e319
           obtain ⟨ce319, hce319, hMe319, hcc319⟩ := Kd.N_get HO_15.out [] x17_2 p319 (by first | exact q319 | exact of_decide_eq_true asm | (have e_ := (Kd.N_reads' HO_15.out).1; omega))
           obtain ⟨ua319_0, uc319_0, rfl, ul319_0, ge319_0⟩ := Kd.FK_slice_open hMe319
           have hv319_0 := hcc319 0 _ rfl
           rw [Nat.add_zero, show ((Kd.slice 5 (Kd.int .u8))).sz = 1 from rfl, Nat.mul_one] at hv319_0
           replace hv319_0 := Option.some.inj (hv319_0.symm.trans hx319_0)
           injection hv319_0 with hva_ hvn_ hvc_
           rw [hva_] at ge319_0
           rw [hvc_] at ul319_0
           have HL319_0 := Aside0.mk (show Kd.V (Kd.int .u8) 5 _ w.heap.size _ _ (rd_L2 t313 x17_2) from Kd.V_mk ul319_0 ge319_0)
           clear hva_ hvn_ hvc_ ge319_0 ul319_0
           clear hcc319 hce319
           have HR319_0 := Aside0.mk hi319_0
           have HC319_0 := Aside0.mk hl319_0
           clear hi319_0 hl319_0
           replace p319 := eq_true p319
           replace q319 := eq_true q319
           obtain ⟨Ao28, co28, eo28⟩ := Kd.N_slice HO_16.out
           (first | subst eo28 | (injection eo28 with f1_ f2_ f3_; have f4_ := f1_.symm; have f5_ := f3_.symm; clear f1_ f2_ f3_; subst f4_; subst f5_))
           have p320 : 0 ≤ (x17_2 : Int) := of_decide_eq_true asm
           have q320 : x17_2 < (t316.length : Int) := of_decide_eq_true asm
           obtain ⟨ad320, A320_0, c320_0, e320, hx320_0, hl320_0, hi320_0⟩ := at_L2 (Kd.N_reads' HO_16.out).2.2 x17_2 p320 q320
           cases e320
           obtain ⟨ce320, hce320, hMe320, hcc320⟩ := Kd.N_get HO_16.out [] x17_2 p320 (by first | exact q320 | exact of_decide_eq_true asm | (have e_ := (Kd.N_reads' HO_16.out).1; omega))
           obtain ⟨ua320_0, uc320_0, rfl, ul320_0, ge320_0⟩ := Kd.FK_slice_open hMe320
           have hv320_0 := hcc320 0 _ rfl
           rw [Nat.add_zero, show ((Kd.slice 5 (Kd.int .u8))).sz = 1 from rfl, Nat.mul_one] at hv320_0
           replace hv320_0 := Option.some.inj (hv320_0.symm.trans hx320_0)
           injection hv320_0 with hva_ hvn_ hvc_
           rw [hva_] at ge320_0
           rw [hvc_] at ul320_0
           have HL320_0 := Aside0.mk (show Kd.V (Kd.int .u8) 5 _ w.heap.size _ _ (rd_L2 t316 x17_2) from Kd.V_mk ul320_0 ge320_0)
           clear hva_ hvn_ hvc_ ge320_0 ul320_0
           clear hcc320 hce320
           have HR320_0 := Aside0.mk hi320_0
           have HC320_0 := Aside0.mk hl320_0
           clear hi320_0 hl320_0
           replace p320 := eq_true p320
           replace q320 := eq_true q320
           refine start_ (n := 10) (S := fun w' => w'.cell? (ad319.add (x17_2).toNat) = some (.slice A319_0 (rd_L2 t313 x17_2).length c319_0) ∧ w'.cell? (ad320.add (x17_2).toNat) = some (.slice A320_0 (rd_L2 t316 x17_2).length c320_0)) (ds := []) #[false, false, false, false, false, false, false, false, false, false] (by kernel_rfl) rfl rfl ⟨hx319_0, hx320_0⟩ (fun hHeld => ?_); refine with_tabW spec_FromMany.tab8 spec_FromMany.bits8 (fun HT_ HW_ => ?_)
           generalize wr.drew = w27 at HO_15 HO_16 BK310 HB HL319_0 HL320_0 HR319_0 HR320_0 hx319_0 hx320_0 hHeld ⊢
           refine pz (i := 0) (N := some 56) #[true, false, false, false, false, false, false, false, false, false] rfl rfl HT_.out ?_
           refine pz (i := 1) (N := some 57) #[true, true, false, false, false, false, false, false, false, false] rfl rfl HT_.out ?_
           refine pz (i := 2) (N := some 58) #[true, true, true, false, false, false, false, false, false, false] rfl rfl HT_.out ?_
           refine pz (i := 4) (N := some 60) #[true, true, true, false, true, false, false, false, false, false] rfl rfl HT_.out ?_
           refine pz (i := 5) (N := some 61) #[true, true, true, false, true, true, false, false, false, false] rfl rfl HT_.out ?_
           refine pz (i := 6) (N := some 62) #[true, true, true, false, true, true, true, false, false, false] rfl rfl HT_.out ?_
           refine tz (i := 3) (N := some 59) #[true, true, true, true, true, true, true, false, false, false] rfl rfl HT_.out HW_.out hHeld (Or.inl ⟨by rfl, by rintro w' ⟨s0, s1⟩; go_simp; with_reducible rfl⟩) ?_
           refine tz (i := 7) (N := some 63) #[true, true, true, true, true, true, true, true, false, false] rfl rfl HT_.out HW_.out hHeld (Or.inl ⟨by rfl, by rintro w' ⟨s0, s1⟩; go_simp; with_reducible rfl⟩) ?_
           refine one_ (i := 8) (N := some 64) #[true, true, true, true, true, true, true, true, true, false] rfl rfl (one_of HT_.out (by kernel_rfl)) (by decide) (fun K hK => ?_)
           refine goes_ Try.func81 (by kernel_rfl) rfl #[.slice A319_0 (rd_L2 t313 x17_2).length c319_0, .slice A320_0 (rd_L2 t316 x17_2).length c320_0] (by rfl) rfl rfl av ?_
           with_reducible refine (spec_l1Same.calls _ _ (rd_L2 t313 x17_2) _ _ (rd_L2 t316 x17_2) true _ ?side1 ?side2 ?side3 ?side4 A25.out).mono ?_
           (case side1 => repeat (first | exact (by repeat (first | (with_reducible exact HR319_0.out) | (with_reducible refine Kd.C_alloc ?_ _) | (with_reducible refine Kd.C_drewN ?_ _) | (with_reducible refine Kd.C_drew ?_) | exact HR319_0.out)) | (with_reducible refine Kd.C_alloc ?_ _) | (with_reducible refine Kd.C_drewN ?_ _) | (with_reducible refine Kd.C_drew ?_)))
           (case side2 => exact HC319_0.out)
           (case side3 => repeat (first | exact (by repeat (first | (with_reducible exact HR320_0.out) | (with_reducible refine Kd.C_alloc ?_ _) | (with_reducible refine Kd.C_drewN ?_ _) | (with_reducible refine Kd.C_drew ?_) | exact HR320_0.out)) | (with_reducible refine Kd.C_alloc ?_ _) | (with_reducible refine Kd.C_drewN ?_ _) | (with_reducible refine Kd.C_drew ?_)))
           (case side4 => exact HC320_0.out)
           rintro e w' ⟨rfl, ⟨nd, rfl⟩⟩
           refine ⟨_, rfl, ?_⟩
           refine hK.out _ _ ⟨hHeld.1, hHeld.2⟩ (fun hHeld => ?_)
           clear hK K
           refine nz (N := some 64) ?_
           refine pz (i := 9) (N := some 65) #[true, true, true, true, true, true, true, true, true, true] rfl rfl HT_.out ?_
           refine done_ (done_of HT_.out (by kernel_rfl)) ?_
           (try simp only [Dig.setCell_drewN])
           try go_wp2
           go_roundg k2
           case measure => have := HJ7.out; have := HK2.out; omega
           case rel => exact ⟨(wrap64 (x17_2 - 1)), (by first | rfl | (simp; done) | (simp [*]; done)), H', ⟨by have := HJ7.out; have := HK2.out; omega⟩, ⟨mv HO_15.out⟩, ⟨mv HO_16.out⟩, ⟨mb BK310.out⟩, ⟨b1 GE310.out⟩⟩
          ·replace c26 := Bool.eq_false_iff.mpr c26
           subst c26
           rw [if_neg (show ¬ (false = true) by decide)] at H
           simp only [Option.some.injEq, Prod.mk.injEq] at H
           obtain ⟨rfl, rfl, rfl⟩ := H
           try go_wp2
           have n0_ := Aside0.mk (Kd.N_drew HO_15.out)
           have n1_ := Aside0.mk (Kd.N_drew HO_16.out)
           have n2_ := Aside0.mk (blk_drew BK310.out)
           have n3_ := Aside0.mk (below_drew1 HB.out)
           clear HO_15
           clear HO_16
           clear BK310
           clear HB
           have HO_15 := n0_
           have HO_16 := n1_
           have BK310 := n2_
           have HB := n3_
           clear n0_ n1_ n2_ n3_
           have p319 : 0 ≤ (x17_2 : Int) := of_decide_eq_true asm
           have q319 : x17_2 < (t313.length : Int) := of_decide_eq_true asm
           obtain ⟨ad319, A319_0, c319_0, e319, hx319_0, hl319_0, hi319_0⟩ := at_L2 (Kd.N_reads' HO_15.out).2.2 x17_2 p319 q319
           cases e319
           obtain ⟨ce319, hce319, hMe319, hcc319⟩ := Kd.N_get HO_15.out [] x17_2 p319 (by first | exact q319 | exact of_decide_eq_true asm | (have e_ := (Kd.N_reads' HO_15.out).1; omega))
           obtain ⟨ua319_0, uc319_0, rfl, ul319_0, ge319_0⟩ := Kd.FK_slice_open hMe319
           have hv319_0 := hcc319 0 _ rfl
           rw [Nat.add_zero, show ((Kd.slice 5 (Kd.int .u8))).sz = 1 from rfl, Nat.mul_one] at hv319_0
           replace hv319_0 := Option.some.inj (hv319_0.symm.trans hx319_0)
           injection hv319_0 with hva_ hvn_ hvc_
           rw [hva_] at ge319_0
           rw [hvc_] at ul319_0
           have HL319_0 := Aside0.mk (show Kd.V (Kd.int .u8) 5 _ w.heap.size _ _ (rd_L2 t313 x17_2) from Kd.V_mk ul319_0 ge319_0)
           clear hva_ hvn_ hvc_ ge319_0 ul319_0
           clear hcc319 hce319
           have HR319_0 := Aside0.mk hi319_0
           have HC319_0 := Aside0.mk hl319_0
           clear hi319_0 hl319_0
           replace p319 := eq_true p319
           replace q319 := eq_true q319
           obtain ⟨Ao30, co30, eo30⟩ := Kd.N_slice HO_16.out
           (first | subst eo30 | (injection eo30 with f1_ f2_ f3_; have f4_ := f1_.symm; have f5_ := f3_.symm; clear f1_ f2_ f3_; subst f4_; subst f5_))
           have p320 : 0 ≤ (x17_2 : Int) := of_decide_eq_true asm
           have q320 : x17_2 < (t316.length : Int) := of_decide_eq_true asm
           obtain ⟨ad320, A320_0, c320_0, e320, hx320_0, hl320_0, hi320_0⟩ := at_L2 (Kd.N_reads' HO_16.out).2.2 x17_2 p320 q320
           cases e320
           obtain ⟨ce320, hce320, hMe320, hcc320⟩ := Kd.N_get HO_16.out [] x17_2 p320 (by first | exact q320 | exact of_decide_eq_true asm | (have e_ := (Kd.N_reads' HO_16.out).1; omega))
           obtain ⟨ua320_0, uc320_0, rfl, ul320_0, ge320_0⟩ := Kd.FK_slice_open hMe320
           have hv320_0 := hcc320 0 _ rfl
           rw [Nat.add_zero, show ((Kd.slice 5 (Kd.int .u8))).sz = 1 from rfl, Nat.mul_one] at hv320_0
           replace hv320_0 := Option.some.inj (hv320_0.symm.trans hx320_0)
           injection hv320_0 with hva_ hvn_ hvc_
           rw [hva_] at ge320_0
           rw [hvc_] at ul320_0
           have HL320_0 := Aside0.mk (show Kd.V (Kd.int .u8) 5 _ w.heap.size _ _ (rd_L2 t316 x17_2) from Kd.V_mk ul320_0 ge320_0)
           clear hva_ hvn_ hvc_ ge320_0 ul320_0
           clear hcc320 hce320
           have HR320_0 := Aside0.mk hi320_0
           have HC320_0 := Aside0.mk hl320_0
           clear hi320_0 hl320_0
           replace p320 := eq_true p320
           replace q320 := eq_true q320
           refine start_ (n := 10) (S := fun w' => w'.cell? (ad319.add (x17_2).toNat) = some (.slice A319_0 (rd_L2 t313 x17_2).length c319_0) ∧ w'.cell? (ad320.add (x17_2).toNat) = some (.slice A320_0 (rd_L2 t316 x17_2).length c320_0)) (ds := []) #[false, false, false, false, false, false, false, false, false, false] (by kernel_rfl) rfl rfl ⟨hx319_0, hx320_0⟩ (fun hHeld => ?_); refine with_tabW spec_FromMany.tab8 spec_FromMany.bits8 (fun HT_ HW_ => ?_)
           generalize wr.drew = w29 at HO_15 HO_16 BK310 HB HL319_0 HL320_0 HR319_0 HR320_0 hx319_0 hx320_0 hHeld ⊢
           refine pz (i := 0) (N := some 56) #[true, false, false, false, false, false, false, false, false, false] rfl rfl HT_.out ?_
           refine pz (i := 1) (N := some 57) #[true, true, false, false, false, false, false, false, false, false] rfl rfl HT_.out ?_
           refine pz (i := 2) (N := some 58) #[true, true, true, false, false, false, false, false, false, false] rfl rfl HT_.out ?_
           refine pz (i := 4) (N := some 60) #[true, true, true, false, true, false, false, false, false, false] rfl rfl HT_.out ?_
           refine pz (i := 5) (N := some 61) #[true, true, true, false, true, true, false, false, false, false] rfl rfl HT_.out ?_
           refine pz (i := 6) (N := some 62) #[true, true, true, false, true, true, true, false, false, false] rfl rfl HT_.out ?_
           refine tz (i := 3) (N := some 59) #[true, true, true, true, true, true, true, false, false, false] rfl rfl HT_.out HW_.out hHeld (Or.inl ⟨by rfl, by rintro w' ⟨s0, s1⟩; go_simp; with_reducible rfl⟩) ?_
           refine tz (i := 7) (N := some 63) #[true, true, true, true, true, true, true, true, false, false] rfl rfl HT_.out HW_.out hHeld (Or.inl ⟨by rfl, by rintro w' ⟨s0, s1⟩; go_simp; with_reducible rfl⟩) ?_
           refine one_ (i := 8) (N := some 64) #[true, true, true, true, true, true, true, true, true, false] rfl rfl (one_of HT_.out (by kernel_rfl)) (by decide) (fun K hK => ?_)
           refine goes_ Try.func81 (by kernel_rfl) rfl #[.slice A319_0 (rd_L2 t313 x17_2).length c319_0, .slice A320_0 (rd_L2 t316 x17_2).length c320_0] (by rfl) rfl rfl av ?_
           with_reducible refine (spec_l1Same.calls _ _ (rd_L2 t313 x17_2) _ _ (rd_L2 t316 x17_2) false _ ?side1 ?side2 ?side3 ?side4 A25.out).mono ?_
           (case side1 => repeat (first | exact (by repeat (first | (with_reducible exact HR319_0.out) | (with_reducible refine Kd.C_alloc ?_ _) | (with_reducible refine Kd.C_drewN ?_ _) | (with_reducible refine Kd.C_drew ?_) | exact HR319_0.out)) | (with_reducible refine Kd.C_alloc ?_ _) | (with_reducible refine Kd.C_drewN ?_ _) | (with_reducible refine Kd.C_drew ?_)))
           (case side2 => exact HC319_0.out)
           (case side3 => repeat (first | exact (by repeat (first | (with_reducible exact HR320_0.out) | (with_reducible refine Kd.C_alloc ?_ _) | (with_reducible refine Kd.C_drewN ?_ _) | (with_reducible refine Kd.C_drew ?_) | exact HR320_0.out)) | (with_reducible refine Kd.C_alloc ?_ _) | (with_reducible refine Kd.C_drewN ?_ _) | (with_reducible refine Kd.C_drew ?_)))
           (case side4 => exact HC320_0.out)
           rintro e w' ⟨rfl, ⟨nd, rfl⟩⟩
           refine ⟨_, rfl, ?_⟩
           refine hK.out _ _ ⟨hHeld.1, hHeld.2⟩ (fun hHeld => ?_)
           clear hK K
           refine nz (N := some 64) ?_
           refine pz (i := 9) (N := some 65) #[true, true, true, true, true, true, true, true, true, true] rfl rfl HT_.out ?_
           refine done_ (done_of HT_.out (by kernel_rfl)) ?_
           (try simp only [Dig.setCell_drewN])
           try go_wp2
           (try (rw [drewN_self w29]; generalize hq_ : World.drewN w29 _ = w29; have n0_ : Aside0 (Kd.V (Kd.int .u8) 5 w29 w.heap.size (fun k_ => (w.heap.size ≤ k_) ∧ some k_ ≠ (.slice (some ad319) t313.length co20 : Value).ownBlock ∧ some k_ ≠ (.slice (some ad320) t316.length co30 : Value).ownBlock ∧ k_ ≠ gb310) (.slice A319_0 (rd_L2 t313 x17_2).length c319_0) (rd_L2 t313 x17_2)) := ⟨by rw [← hq_]; exact (by (with_reducible repeat (first | apply Kd.V_alloc | apply Kd.V_drewN | apply Kd.V_drew)); exact Kd.V_mono HL319_0.out (fun _ hk => ⟨hk.1.1, ⟨hk.2, ⟨hk.1.2.1, hk.1.2.2⟩⟩⟩))⟩; have n1_ : Aside0 (Kd.V (Kd.int .u8) 5 w29 w.heap.size (fun k_ => (w.heap.size ≤ k_) ∧ some k_ ≠ (.slice (some ad319) t313.length co20 : Value).ownBlock ∧ some k_ ≠ (.slice (some ad320) t316.length co30 : Value).ownBlock ∧ k_ ≠ gb310) (.slice A320_0 (rd_L2 t316 x17_2).length c320_0) (rd_L2 t316 x17_2)) := ⟨by rw [← hq_]; exact (by (with_reducible repeat (first | apply Kd.V_alloc | apply Kd.V_drewN | apply Kd.V_drew)); exact Kd.V_mono HL320_0.out (fun _ hk => ⟨hk.1.1, ⟨hk.1.2.1, ⟨hk.2, hk.1.2.2⟩⟩⟩))⟩; have n2_ : Aside0 (Kd.N (Kd.slice 5 (Kd.int .u8)) 22 w29 w.heap.size (fun k_ => (w.heap.size ≤ k_) ∧ some k_ ≠ (.slice (some ad320) t316.length co30 : Value).ownBlock ∧ k_ ≠ gb310) (.slice (some ad319) t313.length co20) t313) := ⟨by rw [← hq_]; exact (mv HO_15.out)⟩; have n3_ : Aside0 (Kd.N (Kd.slice 5 (Kd.int .u8)) 22 w29 w.heap.size (fun k_ => (w.heap.size ≤ k_) ∧ some k_ ≠ (.slice (some ad319) t313.length co20 : Value).ownBlock ∧ k_ ≠ gb310) (.slice (some ad320) t316.length co30) t316) := ⟨by rw [← hq_]; exact (mv HO_16.out)⟩; have n4_ : Aside0 (w29.heap[gb310]? = some (.cells #[.slice none 0 0, .slice none 0 0] 50 (0, 0))) := ⟨by rw [← hq_]; exact (mb BK310.out)⟩; have n5_ : Aside0 (Below w.heap.size w w29) := ⟨by rw [← hq_]; exact (b1 GE310.out)⟩; have n6_ : Aside0 (Kd.C (Kd.int .u8) w29 A319_0 (rd_L2 t313 x17_2).length (rd_L2 t313 x17_2)) := ⟨by rw [← hq_]; exact (by repeat (first | (with_reducible exact HR319_0.out) | (with_reducible refine Kd.C_alloc ?_ _) | (with_reducible refine Kd.C_drewN ?_ _) | (with_reducible refine Kd.C_drew ?_) | exact HR319_0.out))⟩; have n7_ : Aside0 (Kd.C (Kd.int .u8) w29 A320_0 (rd_L2 t316 x17_2).length (rd_L2 t316 x17_2)) := ⟨by rw [← hq_]; exact (by repeat (first | (with_reducible exact HR320_0.out) | (with_reducible refine Kd.C_alloc ?_ _) | (with_reducible refine Kd.C_drewN ?_ _) | (with_reducible refine Kd.C_drew ?_) | exact HR320_0.out))⟩; clear HL319_0 HL320_0 HO_15 HO_16 BK310 HB HR319_0 HR320_0 hq_; have HL319_0 := n0_; have HL320_0 := n1_; have HO_15 := n2_; have HO_16 := n3_; have BK310 := n4_; have HB := n5_; have HR319_0 := n6_; have HR320_0 := n7_; clear n0_ n1_ n2_ n3_ n4_ n5_ n6_ n7_))
           have n0_ := Aside0.mk (Kd.N_drew HO_15.out)
           have n1_ := Aside0.mk (Kd.N_drew HO_16.out)
           have n2_ := Aside0.mk (Kd.V_drew HL319_0.out)
           have n3_ := Aside0.mk (Kd.V_drew HL320_0.out)
           have n4_ := Aside0.mk (blk_drew BK310.out)
           have n5_ := Aside0.mk (Kd.C_drew HR319_0.out)
           have n6_ := Aside0.mk (Kd.C_drew HR320_0.out)
           have n7_ := Aside0.mk (below_drew1 HB.out)
           clear HO_15
           clear HO_16
           clear HL319_0
           clear HL320_0
           clear BK310
           clear HR319_0
           clear HR320_0
           clear HB
           have HO_15 := n0_
           have HO_16 := n1_
           have HL319_0 := n2_
           have HL320_0 := n3_
           have BK310 := n4_
           have HR319_0 := n5_
           have HR320_0 := n6_
           have HB := n7_
           clear n0_ n1_ n2_ n3_ n4_ n5_ n6_ n7_
           have p322 : 0 ≤ (x17_2 : Int) := of_decide_eq_true asm
           have q322 : x17_2 < (t313.length : Int) := of_decide_eq_true asm
           obtain ⟨ad322, A322_0, c322_0, e322, hx322_0, hl322_0, hi322_0⟩ := at_L2 (Kd.N_reads' HO_15.out).2.2 x17_2 p322 q322
           obtain rfl : ad319 = ad322 := (by injection e322)
           obtain ⟨ce322, hce322, hMe322, hcc322⟩ := Kd.N_get HO_15.out [] x17_2 p322 (by first | exact q322 | exact of_decide_eq_true asm | (have e_ := (Kd.N_reads' HO_15.out).1; omega))
           obtain ⟨ua322_0, uc322_0, rfl, ul322_0, ge322_0⟩ := Kd.FK_slice_open hMe322
           have hv322_0 := hcc322 0 _ rfl
           rw [Nat.add_zero, show ((Kd.slice 5 (Kd.int .u8))).sz = 1 from rfl, Nat.mul_one] at hv322_0
           replace hv322_0 := Option.some.inj (hv322_0.symm.trans hx322_0)
           injection hv322_0 with hva_ hvn_ hvc_
           rw [hva_] at ge322_0
           rw [hvc_] at ul322_0
           have HL322_0 := Aside0.mk (show Kd.V (Kd.int .u8) 5 _ w.heap.size _ _ (rd_L2 t313 x17_2) from Kd.V_mk ul322_0 ge322_0)
           clear hva_ hvn_ hvc_ ge322_0 ul322_0
           clear hcc322 hce322
           have HR322_0 := Aside0.mk hi322_0
           have HC322_0 := Aside0.mk hl322_0
           clear hi322_0 hl322_0
           replace p322 := eq_true p322
           replace q322 := eq_true q322
           have p323 : 0 ≤ (x17_2 : Int) := of_decide_eq_true asm
           have q323 : x17_2 < (t316.length : Int) := of_decide_eq_true asm
           obtain ⟨ad323, A323_0, c323_0, e323, hx323_0, hl323_0, hi323_0⟩ := at_L2 (Kd.N_reads' HO_16.out).2.2 x17_2 p323 q323
           obtain rfl : ad320 = ad323 := (by injection e323)
           obtain ⟨ce323, hce323, hMe323, hcc323⟩ := Kd.N_get HO_16.out [] x17_2 p323 (by first | exact q323 | exact of_decide_eq_true asm | (have e_ := (Kd.N_reads' HO_16.out).1; omega))
           obtain ⟨ua323_0, uc323_0, rfl, ul323_0, ge323_0⟩ := Kd.FK_slice_open hMe323
           have hv323_0 := hcc323 0 _ rfl
           rw [Nat.add_zero, show ((Kd.slice 5 (Kd.int .u8))).sz = 1 from rfl, Nat.mul_one] at hv323_0
           replace hv323_0 := Option.some.inj (hv323_0.symm.trans hx323_0)
           injection hv323_0 with hva_ hvn_ hvc_
           rw [hva_] at ge323_0
           rw [hvc_] at ul323_0
           have HL323_0 := Aside0.mk (show Kd.V (Kd.int .u8) 5 _ w.heap.size _ _ (rd_L2 t316 x17_2) from Kd.V_mk ul323_0 ge323_0)
           clear hva_ hvn_ hvc_ ge323_0 ul323_0
           clear hcc323 hce323
           have HR323_0 := Aside0.mk hi323_0
           have HC323_0 := Aside0.mk hl323_0
           clear hi323_0 hl323_0
           replace p323 := eq_true p323
           replace q323 := eq_true q323
           refine start_ (n := 11) (S := fun w' => w'.cell? (ad319.add (x17_2).toNat) = some (.slice A322_0 (rd_L2 t313 x17_2).length c322_0) ∧ w'.cell? (ad320.add (x17_2).toNat) = some (.slice A323_0 (rd_L2 t316 x17_2).length c323_0)) (ds := []) #[false, false, false, false, false, false, false, false, false, false, false] (by kernel_rfl) rfl rfl ⟨hx322_0, hx323_0⟩ (fun hHeld => ?_); refine with_tabW spec_FromMany.tab9 spec_FromMany.bits9 (fun HT_ HW_ => ?_)
           generalize w29.drew = w31 at HO_15 HO_16 HL319_0 HL320_0 BK310 HR319_0 HR320_0 HB HL322_0 HL323_0 HR322_0 HR323_0 hx322_0 hx323_0 hHeld ⊢
           refine pz (i := 0) (N := some 66) #[true, false, false, false, false, false, false, false, false, false, false] rfl rfl HT_.out ?_
           refine pz (i := 1) (N := some 67) #[true, true, false, false, false, false, false, false, false, false, false] rfl rfl HT_.out ?_
           refine pz (i := 2) (N := some 68) #[true, true, true, false, false, false, false, false, false, false, false] rfl rfl HT_.out ?_
           refine pz (i := 4) (N := some 70) #[true, true, true, false, true, false, false, false, false, false, false] rfl rfl HT_.out ?_
           refine pz (i := 5) (N := some 71) #[true, true, true, false, true, true, false, false, false, false, false] rfl rfl HT_.out ?_
           refine pz (i := 6) (N := some 72) #[true, true, true, false, true, true, true, false, false, false, false] rfl rfl HT_.out ?_
           refine tz (i := 3) (N := some 69) #[true, true, true, true, true, true, true, false, false, false, false] rfl rfl HT_.out HW_.out hHeld (Or.inl ⟨by rfl, by rintro w' ⟨s0, s1⟩; go_simp; with_reducible rfl⟩) ?_
           refine tz (i := 7) (N := some 73) #[true, true, true, true, true, true, true, true, false, false, false] rfl rfl HT_.out HW_.out hHeld (Or.inl ⟨by rfl, by rintro w' ⟨s0, s1⟩; go_simp; with_reducible rfl⟩) ?_
           refine pz (i := 8) (N := some 74) #[true, true, true, true, true, true, true, true, true, false, false] rfl rfl HT_.out ?_
           refine one_ (i := 9) (N := none) #[true, true, true, true, true, true, true, true, true, true, false] rfl rfl (one_of HT_.out (by kernel_rfl)) (by decide) (fun K hK => ?_)
           have hs32 : w31.cell? ⟨gb310, 0, none⟩ = some (.slice none 0 0) := (blk_cell BK310.out 0).trans rfl
           have hfs32 := blk_frozen BK310.out 0
           have hs33 : w31.cell? ⟨gb310, 1, none⟩ = some (.slice none 0 0) := (blk_cell BK310.out 1).trans rfl
           have hfs33 := blk_frozen BK310.out 1
           refine skip_ (w1 := ?_) (by rfl) rfl ?_ ?_
           rotate_left
           ·go_simp
            rfl
           refine hK.out _ _ ⟨((cell_far (p := ⟨gb310, _, none⟩) (by first | exact Kd.own_blk (Kd.N_away HO_15.out (fun _ hk => hk.2.2)) | (rw [add_block]; exact Kd.own_blk (Kd.N_away HO_15.out (fun _ hk => hk.2.2))) | (show (Addr.add _ _).block ≠ _; rw [add_block]; exact Kd.own_blk (Kd.N_away HO_15.out (fun _ hk => hk.2.2))) | (dsimp only; exact Kd.own_blk (Kd.N_away HO_15.out (fun _ hk => hk.2.2)))) _).trans (((cell_far (p := ⟨gb310, _, none⟩) (by first | exact Kd.own_blk (Kd.N_away HO_15.out (fun _ hk => hk.2.2)) | (rw [add_block]; exact Kd.own_blk (Kd.N_away HO_15.out (fun _ hk => hk.2.2))) | (show (Addr.add _ _).block ≠ _; rw [add_block]; exact Kd.own_blk (Kd.N_away HO_15.out (fun _ hk => hk.2.2))) | (dsimp only; exact Kd.own_blk (Kd.N_away HO_15.out (fun _ hk => hk.2.2)))) _).trans (hHeld.1)))), ((cell_far (p := ⟨gb310, _, none⟩) (by first | exact Kd.own_blk (Kd.N_away HO_16.out (fun _ hk => hk.2.2)) | (rw [add_block]; exact Kd.own_blk (Kd.N_away HO_16.out (fun _ hk => hk.2.2))) | (show (Addr.add _ _).block ≠ _; rw [add_block]; exact Kd.own_blk (Kd.N_away HO_16.out (fun _ hk => hk.2.2))) | (dsimp only; exact Kd.own_blk (Kd.N_away HO_16.out (fun _ hk => hk.2.2)))) _).trans (((cell_far (p := ⟨gb310, _, none⟩) (by first | exact Kd.own_blk (Kd.N_away HO_16.out (fun _ hk => hk.2.2)) | (rw [add_block]; exact Kd.own_blk (Kd.N_away HO_16.out (fun _ hk => hk.2.2))) | (show (Addr.add _ _).block ≠ _; rw [add_block]; exact Kd.own_blk (Kd.N_away HO_16.out (fun _ hk => hk.2.2))) | (dsimp only; exact Kd.own_blk (Kd.N_away HO_16.out (fun _ hk => hk.2.2)))) _).trans (hHeld.2))))⟩ (fun hHeld => ?_)
           clear hK K
           refine pz (i := 10) (N := some 13) #[true, true, true, true, true, true, true, true, true, true, true] rfl rfl HT_.out ?_
           refine done_ (done_of HT_.out (by kernel_rfl)) ?_
           (try simp only [Dig.setCell_drewN])
           try go_wp2
           refine bodyPost_ret (results_ct rfl _ _ gb310 50 #[.slice A322_0 (rd_L2 t313 x17_2).length c322_0, .slice A323_0 (rd_L2 t316 x17_2).length c323_0] (0, 0) _ rfl (by (with_reducible repeat (first | refine blk_drewN ?_ _ | refine blk_drew ?_ | refine blk_alloc ?_ _)); refine blk_put (cs := #[.slice A322_0 (rd_L2 t313 x17_2).length c322_0, .slice none 0 0]) ?_ 1 _ rfl; (with_reducible repeat (first | refine blk_drewN ?_ _ | refine blk_drew ?_ | refine blk_alloc ?_ _)); refine blk_put (cs := #[.slice none 0 0, .slice none 0 0]) ?_ 0 _ rfl; (with_reducible repeat (first | refine blk_drewN ?_ _ | refine blk_drew ?_ | refine blk_alloc ?_ _)); exact BK310.out) Try.underlying50 rfl (by kernel_rfl)) rfl ?_
           exact ⟨_, _, by first | rfl | (simp [errW_none, errW_some] <;> rfl) | (simp [*, errW_none, errW_some] <;> rfl), by (with_reducible repeat (first | apply Kd.V_alloc | apply Kd.V_drewN | apply Kd.V_drew)); exact Kd.V_mono (Kd.V_far (p := ⟨gb310, 1, none⟩) (Kd.V_far (p := ⟨gb310, 0, none⟩) (Kd.V_mono HL322_0.out (fun k_ hk => (⟨hk, hk.1.2.2⟩ : _ ∧ k_ ≠ gb310))) (fun _ hk => hk.2) (.slice A322_0 (rd_L2 t313 x17_2).length c322_0)) (fun _ hk => hk.2) (.slice A323_0 (rd_L2 t316 x17_2).length c323_0)) (fun _ hk => hk.1.1.1), by (with_reducible repeat (first | apply Kd.V_alloc | apply Kd.V_drewN | apply Kd.V_drew)); exact Kd.V_mono (Kd.V_far (p := ⟨gb310, 1, none⟩) (Kd.V_far (p := ⟨gb310, 0, none⟩) (Kd.V_mono HL323_0.out (fun k_ hk => (⟨hk, hk.1.2.2⟩ : _ ∧ k_ ≠ gb310))) (fun _ hk => hk.2) (.slice A322_0 (rd_L2 t313 x17_2).length c322_0)) (fun _ hk => hk.2) (.slice A323_0 (rd_L2 t316 x17_2).length c323_0)) (fun _ hk => hk.1.1.1), b1 GE310.out⟩
         ·rw [if_neg c24] at H
          exact absurd H (by simp)
        ·rw [if_neg c23] at H
         exact absurd H (by simp)
       ·rw [if_neg c22] at H
        exact absurd H (by simp)
      ·rw [if_neg c21] at H
       have c21b0 : decide (0 ≤ x17_2) = false := decide_eq_false c21
       clear c21
       simp only [Option.some.injEq, Prod.mk.injEq] at H
       obtain ⟨rfl, rfl, rfl⟩ := H
       have hcz34_0 : wr.cell? ⟨gb310, 0, none⟩ = some (.slice none 0 0) := (blk_cell BK310.out 0).trans rfl
       have hcz34_1 : wr.cell? ⟨gb310, 1, none⟩ = some (.slice none 0 0) := (blk_cell BK310.out 1).trans rfl
       have hfz34_0 := blk_frozen BK310.out 0
       have hfz34_1 := blk_frozen BK310.out 1
       go_wp2
       refine bodyPost_ret (results_ct rfl _ _ gb310 50 #[.slice none 0 0, .slice none 0 0] (0, 0) _ rfl (by (with_reducible repeat (first | refine blk_drewN ?_ _ | refine blk_drew ?_ | refine blk_alloc ?_ _)); refine blk_put (cs := #[.slice none 0 0, .slice none 0 0]) ?_ 1 _ rfl; (with_reducible repeat (first | refine blk_drewN ?_ _ | refine blk_drew ?_ | refine blk_alloc ?_ _)); refine blk_put (cs := #[.slice none 0 0, .slice none 0 0]) ?_ 0 _ rfl; (with_reducible repeat (first | refine blk_drewN ?_ _ | refine blk_drew ?_ | refine blk_alloc ?_ _)); exact BK310.out) Try.underlying50 rfl (by kernel_rfl)) rfl ?_
       exact ⟨_, _, by first | rfl | (simp [errW_none, errW_some] <;> rfl) | (simp [*, errW_none, errW_some] <;> rfl), Kd.V_nil _ _ _ _ _, Kd.V_nil _ _ _ _ _, b1 GE310.out⟩

/-! ### impl_in: function 65 -/
def impl_in.f (a0 : Int) (a1 : Int) (a2 : Int) : Option (Bool) := if a0 ≥ a1 then (some (decide (a0 ≤ a2))) else (some false)
set_option maxHeartbeats 8000000 in
set_option maxRecDepth 100000 in
theorem impl_in.calls (a0 : Int) (a1 : Int) (a2 : Int) (r : Bool) (w : World) (h : impl_in.f a0 a1 a2 = some r) :
  Calls Try.prog 65 #[.int .i64 a0, .int .i64 a1, .int .i64 a2] w fun e w' => e = .returned (.bool r) ∧ Drawn0 w w' := by
 have H : (if a0 ≥ a1 then (some (decide (a0 ≤ a2))) else (some false)) = some r := h
 clear h
 by_cases c4 : a0 ≥ a1
 ·rw [if_pos c4] at H
  have c4b0 : decide (a1 ≤ a0) = true := decide_eq_true c4
  clear c4
  obtain rfl := Option.some.inj H
  go_enter Try.func65, Try.ntmps65
  go_wp2
  go_ret
  exact ⟨by first | rfl | (simp; done) | (simp [*]; done), by repeat (first | exact Drawn0.refl _ | apply Drawn0.step)⟩
 ·rw [if_neg c4] at H
  have c4b0 : decide (a1 ≤ a0) = false := decide_eq_false c4
  clear c4
  obtain rfl := Option.some.inj H
  go_enter Try.func65, Try.ntmps65
  go_wp2
  go_ret
  exact ⟨by first | rfl | (simp; done) | (simp [*]; done), by repeat (first | exact Drawn0.refl _ | apply Drawn0.step)⟩

/-! ### impl_bitsOk: function 103 -/
def impl_bitsOk.f (a0 : Int) : Option (Bool) := (impl_in.f a0 2 60).bind fun t324 => (some t324)
set_option maxHeartbeats 8000000 in
set_option maxRecDepth 100000 in
theorem impl_bitsOk.calls (a0 : Int) (r : Bool) (w : World) (h : impl_bitsOk.f a0 = some r) :
  Calls Try.prog 103 #[.int .i64 a0] w fun e w' => e = .returned (.bool r) ∧ Drawn0 w w' := by
 have H : ((impl_in.f a0 2 60).bind fun t324 => (some t324)) = some r := h
 clear h
 replace H := Option.bind_eq_some_iff.mp H
 obtain ⟨t324, A20, H⟩ := H
 (try dsimp -simprocs only at H)
 have A2 := Aside0.mk A20
 clear A20
 obtain rfl := Option.some.inj H
 go_enter Try.func103, Try.ntmps103
 go_wp2_with (first | ((with_reducible refine gate_callee (f := 65) rfl ?_); refine goesL_ (some 4) rfl rfl Try.func65 (by kernel_rfl) rfl #[.int .i64 a0, .int .i64 2, .int .i64 60] rfl av ?_; (with_reducible refine (impl_in.calls a0 2 60 t324 _ A2.out).mono ?_); rintro e w' ⟨rfl, ⟨nd, rfl⟩⟩; refine ⟨_, rfl, ?_⟩))
 go_ret
 exact ⟨by first | rfl | (simp; done) | (simp [*]; done), by repeat (first | exact Drawn0.refl _ | apply Drawn0.step)⟩

end Go.Proofs.Ytaacidhgnappdaa.PFnExactFromMany
