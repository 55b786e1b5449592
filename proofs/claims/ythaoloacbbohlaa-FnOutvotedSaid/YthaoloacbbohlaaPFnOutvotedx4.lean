-- Written by a program of this workplace (wip/mp.py) out of the translation.
import Derived.Test.YthaoloacbbohlaaPFnOutvotedx0
import Derived.Test.YthaoloacbbohlaaPFnOutvotedx1
import Derived.Test.YthaoloacbbohlaaPFnOutvotedx2
import Derived.Test.YthaoloacbbohlaaPFnOutvotedx3
namespace Go.Proofs.Ythaoloacbbohlaa.PFnOutvoted
open Go.RowKit Go.Proofs.YthaoloacbbohlaaW.PrintWords Go.Proofs.YthaoloacbbohlaaW.PrintLast Go.Proofs.YthaoloacbbohlaaW.PrintMore Go.Proofs.Ythaoloacbbohlaa.Slim
attribute [local go_sem] max2_int min2_int max_two min_two max_three min_three max_four min_four   -- for this text's walks alone
set_option linter.unusedVariables false
set_option linter.unusedSimpArgs false

/-! ### bytes_Equal: function 73 -/
def bytes_Equal.f (l0 : List Int) (l1 : List Int) : Option (Bool) := some ((strOfNums l0).toList == (strOfNums l1).toList)
set_option maxHeartbeats 8000000 in
set_option maxRecDepth 100000 in
theorem bytes_Equal.calls (A0 : Option Addr) (c0 : Nat) (l0 : List Int) (A1 : Option Addr) (c1 : Nat) (l1 : List Int) (r : Bool) (w : World) (hr0 : Kd.C (Kd.int .u8) w A0 l0.length l0) (hc0 : l0.length ≤ c0) (hr1 : Kd.C (Kd.int .u8) w A1 l1.length l1) (hc1 : l1.length ≤ c1) (h : bytes_Equal.f l0 l1 = some r) :
  Calls Try.prog 73 #[.slice A0 l0.length c0, .slice A1 l1.length c1] w fun e w' => e = .returned (.bool r) ∧ Drawn0 w w' := by
 have HR0 := Aside0.mk hr0
 have HC0 := Aside0.mk hc0
 clear hr0 hc0
 have HR1 := Aside0.mk hr1
 have HC1 := Aside0.mk hc1
 clear hr1 hc1
 have H : (some ((strOfNums l0).toList == (strOfNums l1).toList)) = some r := h
 clear h
 obtain rfl := Option.some.inj H
 have hcv3 := Kd.C_string (P := Try.prog) (A := A0) (c := c0) Try.underlying24 Try.underlying5 Try.underlying9 HR0.out
 have hcv4 := Kd.C_string (P := Try.prog) (A := A1) (c := c1) Try.underlying24 Try.underlying5 Try.underlying9 HR1.out
 go_enter Try.func73, Try.ntmps73
 go_wp2
 go_ret
 exact ⟨by first | rfl | (simp; done) | (simp [*]; done), by repeat (first | exact Drawn0.refl _ | apply Drawn0.step)⟩

/-! ### impl_Recheck: function 37 -/
mutual
def impl_Recheck.j0 : Nat → Int → Int → List Int → List Int → List (List Int) → Bool → Option (Int × Bool)
 | 0, _, _, _, _, _, _ => none
 | k + 1, x0, x1, x2, x3, x4, x33 => if x33 = true then (some ((-2), false)) else ((impl_encode.f k x0 x1 x2).bind fun t196 => (impl_Recheck.l0 k x4 t196 x3 (x3.length : Int) 0))
def impl_Recheck.l0 : Nat → List (List Int) → List (List Int) → List Int → Int → Int → Option (Int × Bool)
 | 0, _, _, _, _, _ => none
 | k + 1, x4, x12, x38, x39, x40 => if x40 < x39 then (if 0 ≤ x40 then (if x40 < (x38.length : Int) then (if 0 ≤ (rd x38 x40) then (if (rd x38 x40) < (x12.length : Int) then (if x40 < (x4.length : Int) then ((bytes_Equal.f (rd_L1 x12 (rd x38 x40)) (rd_L1 x4 x40)).bind fun t202 => (if t202 = true then (impl_Recheck.l0 k x4 x12 x38 x39 (wrap64 (x40 + 1))) else (some (x40, true)))) else (none)) else (none)) else (none)) else (none)) else (none)) else (some ((-1), true))
end
def impl_Recheck.f (k : Nat) (a0 : Int) (a1 : Int) (l2 : List Int) (l3 : List Int) (l4 : List (List Int)) : Option (Int × Bool) := (impl_codeOk.f a0 a1 (l2.length : Int)).bind fun t194 => (if t194 = true then ((impl_unlike.f k l3 a1).bind fun t195 => (if t195 = true then (impl_Recheck.j0 k a0 a1 l2 l3 l4 ((l3.length : Int) != (l4.length : Int))) else (impl_Recheck.j0 k a0 a1 l2 l3 l4 true))) else (impl_Recheck.j0 k a0 a1 l2 l3 l4 true))
set_option maxHeartbeats 8000000 in
set_option maxRecDepth 100000 in
theorem impl_Recheck.calls (k : Nat) (a0 : Int) (a1 : Int) (A2 : Option Addr) (c2 : Nat) (l2 : List Int) (A3 : Option Addr) (c3 : Nat) (l3 : List Int) (A4 : Option Addr) (c4 : Nat) (l4 : List (List Int)) (r1 : Int) (r2 : Bool) (w : World) (hr2 : Kd.C (Kd.int .u8) w A2 l2.length l2) (hc2 : l2.length ≤ c2) (hr3 : Kd.C (Kd.int .i64) w A3 l3.length l3) (hc3 : l3.length ≤ c3) (hr4 : Kd.C (Kd.slice 5 (Kd.int .u8)) w A4 l4.length l4) (hc4 : l4.length ≤ c4) (h : impl_Recheck.f k a0 a1 l2 l3 l4 = some (r1, r2)) :
  Calls Try.prog 37 #[.int .i64 a0, .int .i64 a1, .slice A2 l2.length c2, .slice A3 l3.length c3, .slice A4 l4.length c4] w fun e w' => e = .returned (.tuple #[.int .i64 r1, .bool r2]) ∧ Below w.heap.size w w' := by
 have HR2 := Aside0.mk hr2
 have HC2 := Aside0.mk hc2
 clear hr2 hc2
 have HR3 := Aside0.mk hr3
 have HC3 := Aside0.mk hc3
 clear hr3 hc3
 have HR4 := Aside0.mk hr4
 have HC4 := Aside0.mk hc4
 clear hr4 hc4
 have HB := Aside0.mk (Below.refl w.heap.size w)
 have H : ((impl_codeOk.f a0 a1 (l2.length : Int)).bind fun t194 => (if t194 = true then ((impl_unlike.f k l3 a1).bind fun t195 => (if t195 = true then (impl_Recheck.j0 k a0 a1 l2 l3 l4 ((l3.length : Int) != (l4.length : Int))) else (impl_Recheck.j0 k a0 a1 l2 l3 l4 true))) else (impl_Recheck.j0 k a0 a1 l2 l3 l4 true))) = some (r1, r2) := h
 clear h
 have HC6 := Aside0.mk H
 clear H
 go_enter Try.func37, Try.ntmps37
 go_upto_region 1 with (fail)
 repeat (go_quiet (fail); go_upto_region 1 with (fail))
 go_cut [33] (fun v33 wc => ∃ (kq : Nat) (x33_5 : Bool), v33 = .bool x33_5 ∧ Aside0 (impl_Recheck.j0 kq a0 a1 l2 l3 l4 x33_5 = some (r1, r2)) ∧ Aside0 (kq ≤ k) ∧ Aside0 (Below w.heap.size w wc))
 case first =>
  have H := HC6.out
  clear HC6
  replace H := Option.bind_eq_some_iff.mp H
  obtain ⟨t194, A70, H⟩ := H
  (try dsimp -simprocs only at H)
  have A7 := Aside0.mk A70
  clear A70
  by_cases c8 : t194 = true
  ·subst c8
   rw [if_pos rfl] at H
   replace H := Option.bind_eq_some_iff.mp H
   obtain ⟨t195, A90, H⟩ := H
   (try dsimp -simprocs only at H)
   have A9 := Aside0.mk A90
   clear A90
   by_cases c10 : t195 = true
   ·subst c10
    rw [if_pos rfl] at H
    have H' := Aside0.mk H
    clear H
    go_wp2_with (first | (go_at_call 63; (with_reducible refine (impl_codeOk.calls a0 a1 (l2.length : Int) true _ A7.out).mono ?_); rintro e w11 ⟨rfl, hb⟩; replace HB := Aside0.mk (below_step (bt) hb); (try clear hb); (try clear hb2); (try clear hk); (try clear hi)) | (go_at_call 72; (with_reducible refine (impl_unlike.calls k _ _ l3 a1 true _ ?side1 ?side2 A9.out).mono ?_); (case side1 => exact cv ((Kd.C_below HR3.out HB.out))); (case side2 => exact HC3.out); rintro e w' ⟨rfl, ⟨nd, rfl⟩⟩; (try first | exact ⟨rfl, _, World.drewN_drewN _ _ _⟩ | exact ⟨rfl, _, Eq.trans (World.drewN_drewN _ _ _) (congrArg (World.drewN _) (Nat.add_assoc _ _ _))⟩)))
    repeat (go_quiet (first | (go_at_call 63; (with_reducible refine (impl_codeOk.calls a0 a1 (l2.length : Int) true _ A7.out).mono ?_); rintro e w11 ⟨rfl, hb⟩; replace HB := Aside0.mk (below_step (bt) hb); (try clear hb); (try clear hb2); (try clear hk); (try clear hi)) | (go_at_call 72; (with_reducible refine (impl_unlike.calls k _ _ l3 a1 true _ ?side1 ?side2 A9.out).mono ?_); (case side1 => exact cv ((Kd.C_below HR3.out HB.out))); (case side2 => exact HC3.out); rintro e w' ⟨rfl, ⟨nd, rfl⟩⟩; (try first | exact ⟨rfl, _, World.drewN_drewN _ _ _⟩ | exact ⟨rfl, _, Eq.trans (World.drewN_drewN _ _ _) (congrArg (World.drewN _) (Nat.add_assoc _ _ _))⟩))); try go_wp2_with (first | (go_at_call 63; (with_reducible refine (impl_codeOk.calls a0 a1 (l2.length : Int) true _ A7.out).mono ?_); rintro e w11 ⟨rfl, hb⟩; replace HB := Aside0.mk (below_step (bt) hb); (try clear hb); (try clear hb2); (try clear hk); (try clear hi)) | (go_at_call 72; (with_reducible refine (impl_unlike.calls k _ _ l3 a1 true _ ?side1 ?side2 A9.out).mono ?_); (case side1 => exact cv ((Kd.C_below HR3.out HB.out))); (case side2 => exact HC3.out); rintro e w' ⟨rfl, ⟨nd, rfl⟩⟩; (try first | exact ⟨rfl, _, World.drewN_drewN _ _ _⟩ | exact ⟨rfl, _, Eq.trans (World.drewN_drewN _ _ _) (congrArg (World.drewN _) (Nat.add_assoc _ _ _))⟩))))
    go_meet
    case rel => exact ⟨_, (((l3.length : Int) != (l4.length : Int))), (by first | rfl | (simp; done) | (simp [*]; done)), H', ⟨by first | omega | exact Nat.le_refl _⟩, ⟨bt⟩⟩
   ·replace c10 := Bool.eq_false_iff.mpr c10
    subst c10
    rw [if_neg (show ¬ (false = true) by decide)] at H
    have H' := Aside0.mk H
    clear H
    go_wp2_with (first | (go_at_call 63; (with_reducible refine (impl_codeOk.calls a0 a1 (l2.length : Int) true _ A7.out).mono ?_); rintro e w12 ⟨rfl, hb⟩; replace HB := Aside0.mk (below_step (bt) hb); (try clear hb); (try clear hb2); (try clear hk); (try clear hi)) | (go_at_call 72; (with_reducible refine (impl_unlike.calls k _ _ l3 a1 false _ ?side1 ?side2 A9.out).mono ?_); (case side1 => exact cv ((Kd.C_below HR3.out HB.out))); (case side2 => exact HC3.out); rintro e w' ⟨rfl, ⟨nd, rfl⟩⟩; (try first | exact ⟨rfl, _, World.drewN_drewN _ _ _⟩ | exact ⟨rfl, _, Eq.trans (World.drewN_drewN _ _ _) (congrArg (World.drewN _) (Nat.add_assoc _ _ _))⟩)))
    repeat (go_quiet (first | (go_at_call 63; (with_reducible refine (impl_codeOk.calls a0 a1 (l2.length : Int) true _ A7.out).mono ?_); rintro e w12 ⟨rfl, hb⟩; replace HB := Aside0.mk (below_step (bt) hb); (try clear hb); (try clear hb2); (try clear hk); (try clear hi)) | (go_at_call 72; (with_reducible refine (impl_unlike.calls k _ _ l3 a1 false _ ?side1 ?side2 A9.out).mono ?_); (case side1 => exact cv ((Kd.C_below HR3.out HB.out))); (case side2 => exact HC3.out); rintro e w' ⟨rfl, ⟨nd, rfl⟩⟩; (try first | exact ⟨rfl, _, World.drewN_drewN _ _ _⟩ | exact ⟨rfl, _, Eq.trans (World.drewN_drewN _ _ _) (congrArg (World.drewN _) (Nat.add_assoc _ _ _))⟩))); try go_wp2_with (first | (go_at_call 63; (with_reducible refine (impl_codeOk.calls a0 a1 (l2.length : Int) true _ A7.out).mono ?_); rintro e w12 ⟨rfl, hb⟩; replace HB := Aside0.mk (below_step (bt) hb); (try clear hb); (try clear hb2); (try clear hk); (try clear hi)) | (go_at_call 72; (with_reducible refine (impl_unlike.calls k _ _ l3 a1 false _ ?side1 ?side2 A9.out).mono ?_); (case side1 => exact cv ((Kd.C_below HR3.out HB.out))); (case side2 => exact HC3.out); rintro e w' ⟨rfl, ⟨nd, rfl⟩⟩; (try first | exact ⟨rfl, _, World.drewN_drewN _ _ _⟩ | exact ⟨rfl, _, Eq.trans (World.drewN_drewN _ _ _) (congrArg (World.drewN _) (Nat.add_assoc _ _ _))⟩))))
    go_meet
    case rel => exact ⟨_, (true), (by first | rfl | (simp; done) | (simp [*]; done)), H', ⟨by first | omega | exact Nat.le_refl _⟩, ⟨bt⟩⟩
  ·replace c8 := Bool.eq_false_iff.mpr c8
   subst c8
   rw [if_neg (show ¬ (false = true) by decide)] at H
   have H' := Aside0.mk H
   clear H
   go_wp2_with (first | (go_at_call 63; (with_reducible refine (impl_codeOk.calls a0 a1 (l2.length : Int) false _ A7.out).mono ?_); rintro e w13 ⟨rfl, hb⟩; replace HB := Aside0.mk (below_step (bt) hb); (try clear hb); (try clear hb2); (try clear hk); (try clear hi)))
   repeat (go_quiet (first | (go_at_call 63; (with_reducible refine (impl_codeOk.calls a0 a1 (l2.length : Int) false _ A7.out).mono ?_); rintro e w13 ⟨rfl, hb⟩; replace HB := Aside0.mk (below_step (bt) hb); (try clear hb); (try clear hb2); (try clear hk); (try clear hi))); try go_wp2_with (first | (go_at_call 63; (with_reducible refine (impl_codeOk.calls a0 a1 (l2.length : Int) false _ A7.out).mono ?_); rintro e w13 ⟨rfl, hb⟩; replace HB := Aside0.mk (below_step (bt) hb); (try clear hb); (try clear hb2); (try clear hk); (try clear hi))))
   go_meet
   case rel => exact ⟨_, (true), (by first | rfl | (simp; done) | (simp [*]; done)), H', ⟨by first | omega | exact Nat.le_refl _⟩, ⟨bt⟩⟩
 case rest =>
  clear HC6
  try clear c1
  try clear c2
  try clear p2
  try clear c3
  try clear c4
  try clear c8
  try clear c10
  obtain ⟨kq, x33_5, rfl, HA, HJ5, HB⟩ := hcut
  cases kq with
  | zero => exact absurd HA.out (by simp [impl_Recheck.j0])
  | succ kj5 =>
   have H := HA.out
   clear HA
   simp only [impl_Recheck.j0] at H
   by_cases c14 : x33_5 = true
   ·subst c14
    rw [if_pos rfl] at H
    simp only [Option.some.injEq, Prod.mk.injEq] at H
    obtain ⟨rfl, rfl⟩ := H
    go_wp2
    repeat (go_quiet (fail); try go_wp2)
    go_ret2
    exact ⟨by first | rfl | (simp [errW_none, errW_some] <;> rfl) | (simp [*, errW_none, errW_some] <;> rfl), bt⟩
   ·replace c14 := Bool.eq_false_iff.mpr c14
    subst c14
    rw [if_neg (show ¬ (false = true) by decide)] at H
    replace H := Option.bind_eq_some_iff.mp H
    obtain ⟨t196, A150, H⟩ := H
    (try dsimp -simprocs only at H)
    have A15 := Aside0.mk A150
    clear A150
    have H' := Aside0.mk H
    clear H
    go_wp2_with (first | (go_at_call 64; (with_reducible refine (impl_encode.calls kj5 a0 a1 _ _ l2 t196 _ ?side1 ?side2 A15.out).mono ?_); (case side1 => exact cv ((Kd.C_below HR2.out HB.out))); (case side2 => exact HC2.out); rintro e w16 ⟨v197, rfl, ho0, hb⟩; have HO198 := Aside0.mk (Kd.S_lower ho0 (below_size (bt))); replace HB := Aside0.mk (below_step (bt) hb); (try clear hb); (try clear hb2); (try clear hk); (try clear hi); (try clear ho0)))
    repeat (go_quiet (first | (go_at_call 64; (with_reducible refine (impl_encode.calls kj5 a0 a1 _ _ l2 t196 _ ?side1 ?side2 A15.out).mono ?_); (case side1 => exact cv ((Kd.C_below HR2.out HB.out))); (case side2 => exact HC2.out); rintro e w16 ⟨v197, rfl, ho0, hb⟩; have HO198 := Aside0.mk (Kd.S_lower ho0 (below_size (bt))); replace HB := Aside0.mk (below_step (bt) hb); (try clear hb); (try clear hb2); (try clear hk); (try clear hi); (try clear ho0))); try go_wp2_with (first | (go_at_call 64; (with_reducible refine (impl_encode.calls kj5 a0 a1 _ _ l2 t196 _ ?side1 ?side2 A15.out).mono ?_); (case side1 => exact cv ((Kd.C_below HR2.out HB.out))); (case side2 => exact HC2.out); rintro e w16 ⟨v197, rfl, ho0, hb⟩; have HO198 := Aside0.mk (Kd.S_lower ho0 (below_size (bt))); replace HB := Aside0.mk (below_step (bt) hb); (try clear hb); (try clear hb2); (try clear hk); (try clear hi); (try clear ho0))))
    go_loopg [40] kj5 (fun kq v40 w' => ∃ (x40_2 : Int), v40 = .int .i64 x40_2 ∧ Aside0 (impl_Recheck.l0 kq l4 t196 l3 (l3.length : Int) x40_2 = some (r1, r2)) ∧ Aside0 (kq ≤ kj5) ∧ Aside0 (Kd.S (Kd.slice 5 (Kd.int .u8)) 24 w' w.heap.size (fun _ => True) v197 t196) ∧ Aside0 (Below w.heap.size w w'))
    case atStart => exact ⟨(0), (by first | rfl | (simp; done) | (simp [*]; done)), H', ⟨Nat.le_refl _⟩, ⟨mv HO198.out⟩, ⟨bt⟩⟩
    case round =>
     clear H'
     try clear c1
     try clear c2
     try clear p2
     try clear c3
     try clear c4
     try clear c8
     try clear c10
     try clear c14
     try clear p2
     obtain ⟨x40_2, rfl, HA, HK2, HO_12, HB⟩ := hrel
     cases gk with
     | zero => exact absurd HA.out (by simp [impl_Recheck.l0])
     | succ k2 =>
      have H := HA.out
      clear HA
      simp only [impl_Recheck.l0] at H
      by_cases c17 : x40_2 < (l3.length : Int)
      ·rw [if_pos c17] at H
       have c17b0 : decide (x40_2 < (l3.length : Int)) = true := decide_eq_true c17
       clear c17
       by_cases c18 : 0 ≤ x40_2
       ·rw [if_pos c18] at H
        have c18b0 : decide (0 ≤ x40_2) = true := decide_eq_true c18
        clear c18
        by_cases c19 : x40_2 < (l3.length : Int)
        ·rw [if_pos c19] at H
         have c19b0 : decide (x40_2 < (l3.length : Int)) = true := decide_eq_true c19
         clear c19
         by_cases c20 : 0 ≤ (rd l3 x40_2)
         ·rw [if_pos c20] at H
          have c20b0 : decide (0 ≤ (rd l3 x40_2)) = true := decide_eq_true c20
          clear c20
          by_cases c21 : (rd l3 x40_2) < (t196.length : Int)
          ·rw [if_pos c21] at H
           have c21b0 : decide ((rd l3 x40_2) < (t196.length : Int)) = true := decide_eq_true c21
           clear c21
           by_cases c22 : x40_2 < (l4.length : Int)
           ·rw [if_pos c22] at H
            have c22b0 : decide (x40_2 < (l4.length : Int)) = true := decide_eq_true c22
            clear c22
            replace H := Option.bind_eq_some_iff.mp H
            obtain ⟨t202, A230, H⟩ := H
            (try dsimp -simprocs only at H)
            have A23 := Aside0.mk A230
            clear A230
            by_cases c24 : t202 = true
            ·subst c24
             rw [if_pos rfl] at H
             have H' := Aside0.mk H
             clear H
             have p199 : 0 ≤ (x40_2 : Int) := of_decide_eq_true asm
             have q199 : x40_2 < (l3.length : Int) := of_decide_eq_true asm
             obtain ⟨ad199, e199, hx199_0⟩ := Kd.at_int HR3.out x40_2 p199 q199
             cases e199
             replace hx199_0 := (HB.out.cell (World.block_lt_of_cell? w _ hx199_0)).trans hx199_0
             replace p199 := eq_true p199
             replace q199 := eq_true q199
             obtain ⟨Ao25, co25, eo25⟩ := Kd.S_slice HO_12.out
             subst eo25
             have p200 : 0 ≤ ((rd l3 x40_2) : Int) := of_decide_eq_true asm
             have q200 : (rd l3 x40_2) < (t196.length : Int) := of_decide_eq_true asm
             obtain ⟨ad200, A200_0, c200_0, e200, hx200_0, hl200_0, hi200_0⟩ := at_L1 (Kd.S_reads' HO_12.out).2.2 (rd l3 x40_2) p200 q200
             cases e200
             obtain ⟨ce200, hce200, hMe200, hcc200⟩ := Kd.S_get HO_12.out [] (rd l3 x40_2) p200 (by first | exact q200 | exact of_decide_eq_true asm | (have e_ := (Kd.S_reads' HO_12.out).1; omega))
             obtain ⟨ve200_0, rfl, ge200_0⟩ := hMe200
             have hv200_0 := hcc200 0 _ rfl
             rw [Nat.add_zero, show ((Kd.slice 5 (Kd.int .u8))).sz = 1 from rfl, Nat.mul_one] at hv200_0
             replace hv200_0 := Option.some.inj (hv200_0.symm.trans hx200_0)
             rw [hv200_0] at ge200_0
             have HL200_0 := Aside0.mk (show Kd.R (Kd.int .u8) 5 _ _ _ _ (rd_L1 t196 (rd l3 x40_2)) from ge200_0)
             clear hv200_0 ge200_0
             clear hcc200 hce200
             have HR200_0 := Aside0.mk hi200_0
             have HC200_0 := Aside0.mk hl200_0
             clear hi200_0 hl200_0
             replace p200 := eq_true p200
             replace q200 := eq_true q200
             have p201 : 0 ≤ (x40_2 : Int) := of_decide_eq_true asm
             have q201 : x40_2 < (l4.length : Int) := of_decide_eq_true asm
             obtain ⟨ad201, A201_0, c201_0, e201, hx201_0, hl201_0, hi201_0⟩ := at_L1 HR4.out x40_2 p201 q201
             cases e201
             replace hx201_0 := (HB.out.cell (World.block_lt_of_cell? w _ hx201_0)).trans hx201_0
             have HR201_0 := Aside0.mk hi201_0
             have HC201_0 := Aside0.mk hl201_0
             clear hi201_0 hl201_0
             replace p201 := eq_true p201
             replace q201 := eq_true q201
             go_wp2_with (first | (go_at_call 73; (with_reducible refine (bytes_Equal.calls _ _ (rd_L1 t196 (rd l3 x40_2)) _ _ (rd_L1 l4 x40_2) true _ ?side1 ?side2 ?side3 ?side4 A23.out).mono ?_); (case side1 => repeat (first | exact (by repeat (first | (with_reducible exact HR200_0.out) | (with_reducible refine Kd.C_alloc ?_ _) | (with_reducible refine Kd.C_drewN ?_ _) | (with_reducible refine Kd.C_drew ?_) | exact HR200_0.out)) | (with_reducible refine Kd.C_alloc ?_ _) | (with_reducible refine Kd.C_drewN ?_ _) | (with_reducible refine Kd.C_drew ?_))); (case side2 => exact HC200_0.out); (case side3 => exact cv ((Kd.C_below HR201_0.out HB.out))); (case side4 => exact HC201_0.out); rintro e w' ⟨rfl, ⟨nd, rfl⟩⟩; (try first | exact ⟨rfl, _, World.drewN_drewN _ _ _⟩ | exact ⟨rfl, _, Eq.trans (World.drewN_drewN _ _ _) (congrArg (World.drewN _) (Nat.add_assoc _ _ _))⟩)))
             repeat (go_quiet (first | (go_at_call 73; (with_reducible refine (bytes_Equal.calls _ _ (rd_L1 t196 (rd l3 x40_2)) _ _ (rd_L1 l4 x40_2) true _ ?side1 ?side2 ?side3 ?side4 A23.out).mono ?_); (case side1 => repeat (first | exact (by repeat (first | (with_reducible exact HR200_0.out) | (with_reducible refine Kd.C_alloc ?_ _) | (with_reducible refine Kd.C_drewN ?_ _) | (with_reducible refine Kd.C_drew ?_) | exact HR200_0.out)) | (with_reducible refine Kd.C_alloc ?_ _) | (with_reducible refine Kd.C_drewN ?_ _) | (with_reducible refine Kd.C_drew ?_))); (case side2 => exact HC200_0.out); (case side3 => exact cv ((Kd.C_below HR201_0.out HB.out))); (case side4 => exact HC201_0.out); rintro e w' ⟨rfl, ⟨nd, rfl⟩⟩; (try first | exact ⟨rfl, _, World.drewN_drewN _ _ _⟩ | exact ⟨rfl, _, Eq.trans (World.drewN_drewN _ _ _) (congrArg (World.drewN _) (Nat.add_assoc _ _ _))⟩))); try go_wp2_with (first | (go_at_call 73; (with_reducible refine (bytes_Equal.calls _ _ (rd_L1 t196 (rd l3 x40_2)) _ _ (rd_L1 l4 x40_2) true _ ?side1 ?side2 ?side3 ?side4 A23.out).mono ?_); (case side1 => repeat (first | exact (by repeat (first | (with_reducible exact HR200_0.out) | (with_reducible refine Kd.C_alloc ?_ _) | (with_reducible refine Kd.C_drewN ?_ _) | (with_reducible refine Kd.C_drew ?_) | exact HR200_0.out)) | (with_reducible refine Kd.C_alloc ?_ _) | (with_reducible refine Kd.C_drewN ?_ _) | (with_reducible refine Kd.C_drew ?_))); (case side2 => exact HC200_0.out); (case side3 => exact cv ((Kd.C_below HR201_0.out HB.out))); (case side4 => exact HC201_0.out); rintro e w' ⟨rfl, ⟨nd, rfl⟩⟩; (try first | exact ⟨rfl, _, World.drewN_drewN _ _ _⟩ | exact ⟨rfl, _, Eq.trans (World.drewN_drewN _ _ _) (congrArg (World.drewN _) (Nat.add_assoc _ _ _))⟩))))
             go_roundg k2
             case measure => have := HJ5.out; have := HK2.out; omega
             case rel => exact ⟨(wrap64 (x40_2 + 1)), (by first | rfl | (simp; done) | (simp [*]; done)), H', ⟨by have := HJ5.out; have := HK2.out; omega⟩, ⟨mv HO_12.out⟩, ⟨bt⟩⟩
            ·replace c24 := Bool.eq_false_iff.mpr c24
             subst c24
             rw [if_neg (show ¬ (false = true) by decide)] at H
             simp only [Option.some.injEq, Prod.mk.injEq] at H
             obtain ⟨rfl, rfl⟩ := H
             have p199 : 0 ≤ (x40_2 : Int) := of_decide_eq_true asm
             have q199 : x40_2 < (l3.length : Int) := of_decide_eq_true asm
             obtain ⟨ad199, e199, hx199_0⟩ := Kd.at_int HR3.out x40_2 p199 q199
             cases e199
             replace hx199_0 := (HB.out.cell (World.block_lt_of_cell? w _ hx199_0)).trans hx199_0
             replace p199 := eq_true p199
             replace q199 := eq_true q199
             obtain ⟨Ao26, co26, eo26⟩ := Kd.S_slice HO_12.out
             subst eo26
             have p200 : 0 ≤ ((rd l3 x40_2) : Int) := of_decide_eq_true asm
             have q200 : (rd l3 x40_2) < (t196.length : Int) := of_decide_eq_true asm
             obtain ⟨ad200, A200_0, c200_0, e200, hx200_0, hl200_0, hi200_0⟩ := at_L1 (Kd.S_reads' HO_12.out).2.2 (rd l3 x40_2) p200 q200
             cases e200
             obtain ⟨ce200, hce200, hMe200, hcc200⟩ := Kd.S_get HO_12.out [] (rd l3 x40_2) p200 (by first | exact q200 | exact of_decide_eq_true asm | (have e_ := (Kd.S_reads' HO_12.out).1; omega))
             obtain ⟨ve200_0, rfl, ge200_0⟩ := hMe200
             have hv200_0 := hcc200 0 _ rfl
             rw [Nat.add_zero, show ((Kd.slice 5 (Kd.int .u8))).sz = 1 from rfl, Nat.mul_one] at hv200_0
             replace hv200_0 := Option.some.inj (hv200_0.symm.trans hx200_0)
             rw [hv200_0] at ge200_0
             have HL200_0 := Aside0.mk (show Kd.R (Kd.int .u8) 5 _ _ _ _ (rd_L1 t196 (rd l3 x40_2)) from ge200_0)
             clear hv200_0 ge200_0
             clear hcc200 hce200
             have HR200_0 := Aside0.mk hi200_0
             have HC200_0 := Aside0.mk hl200_0
             clear hi200_0 hl200_0
             replace p200 := eq_true p200
             replace q200 := eq_true q200
             have p201 : 0 ≤ (x40_2 : Int) := of_decide_eq_true asm
             have q201 : x40_2 < (l4.length : Int) := of_decide_eq_true asm
             obtain ⟨ad201, A201_0, c201_0, e201, hx201_0, hl201_0, hi201_0⟩ := at_L1 HR4.out x40_2 p201 q201
             cases e201
             replace hx201_0 := (HB.out.cell (World.block_lt_of_cell? w _ hx201_0)).trans hx201_0
             have HR201_0 := Aside0.mk hi201_0
             have HC201_0 := Aside0.mk hl201_0
             clear hi201_0 hl201_0
             replace p201 := eq_true p201
             replace q201 := eq_true q201
             go_wp2_with (first | (go_at_call 73; (with_reducible refine (bytes_Equal.calls _ _ (rd_L1 t196 (rd l3 x40_2)) _ _ (rd_L1 l4 x40_2) false _ ?side1 ?side2 ?side3 ?side4 A23.out).mono ?_); (case side1 => repeat (first | exact (by repeat (first | (with_reducible exact HR200_0.out) | (with_reducible refine Kd.C_alloc ?_ _) | (with_reducible refine Kd.C_drewN ?_ _) | (with_reducible refine Kd.C_drew ?_) | exact HR200_0.out)) | (with_reducible refine Kd.C_alloc ?_ _) | (with_reducible refine Kd.C_drewN ?_ _) | (with_reducible refine Kd.C_drew ?_))); (case side2 => exact HC200_0.out); (case side3 => exact cv ((Kd.C_below HR201_0.out HB.out))); (case side4 => exact HC201_0.out); rintro e w' ⟨rfl, ⟨nd, rfl⟩⟩; (try first | exact ⟨rfl, _, World.drewN_drewN _ _ _⟩ | exact ⟨rfl, _, Eq.trans (World.drewN_drewN _ _ _) (congrArg (World.drewN _) (Nat.add_assoc _ _ _))⟩)))
             repeat (go_quiet (first | (go_at_call 73; (with_reducible refine (bytes_Equal.calls _ _ (rd_L1 t196 (rd l3 x40_2)) _ _ (rd_L1 l4 x40_2) false _ ?side1 ?side2 ?side3 ?side4 A23.out).mono ?_); (case side1 => repeat (first | exact (by repeat (first | (with_reducible exact HR200_0.out) | (with_reducible refine Kd.C_alloc ?_ _) | (with_reducible refine Kd.C_drewN ?_ _) | (with_reducible refine Kd.C_drew ?_) | exact HR200_0.out)) | (with_reducible refine Kd.C_alloc ?_ _) | (with_reducible refine Kd.C_drewN ?_ _) | (with_reducible refine Kd.C_drew ?_))); (case side2 => exact HC200_0.out); (case side3 => exact cv ((Kd.C_below HR201_0.out HB.out))); (case side4 => exact HC201_0.out); rintro e w' ⟨rfl, ⟨nd, rfl⟩⟩; (try first | exact ⟨rfl, _, World.drewN_drewN _ _ _⟩ | exact ⟨rfl, _, Eq.trans (World.drewN_drewN _ _ _) (congrArg (World.drewN _) (Nat.add_assoc _ _ _))⟩))); try go_wp2_with (first | (go_at_call 73; (with_reducible refine (bytes_Equal.calls _ _ (rd_L1 t196 (rd l3 x40_2)) _ _ (rd_L1 l4 x40_2) false _ ?side1 ?side2 ?side3 ?side4 A23.out).mono ?_); (case side1 => repeat (first | exact (by repeat (first | (with_reducible exact HR200_0.out) | (with_reducible refine Kd.C_alloc ?_ _) | (with_reducible refine Kd.C_drewN ?_ _) | (with_reducible refine Kd.C_drew ?_) | exact HR200_0.out)) | (with_reducible refine Kd.C_alloc ?_ _) | (with_reducible refine Kd.C_drewN ?_ _) | (with_reducible refine Kd.C_drew ?_))); (case side2 => exact HC200_0.out); (case side3 => exact cv ((Kd.C_below HR201_0.out HB.out))); (case side4 => exact HC201_0.out); rintro e w' ⟨rfl, ⟨nd, rfl⟩⟩; (try first | exact ⟨rfl, _, World.drewN_drewN _ _ _⟩ | exact ⟨rfl, _, Eq.trans (World.drewN_drewN _ _ _) (congrArg (World.drewN _) (Nat.add_assoc _ _ _))⟩))))
             go_ret2
             exact ⟨by first | rfl | (simp [errW_none, errW_some] <;> rfl) | (simp [*, errW_none, errW_some] <;> rfl), bt⟩
           ·rw [if_neg c22] at H
            exact absurd H (by simp)
          ·rw [if_neg c21] at H
           exact absurd H (by simp)
         ·rw [if_neg c20] at H
          exact absurd H (by simp)
        ·rw [if_neg c19] at H
         exact absurd H (by simp)
       ·rw [if_neg c18] at H
        exact absurd H (by simp)
      ·rw [if_neg c17] at H
       have c17b0 : decide (x40_2 < (l3.length : Int)) = false := decide_eq_false c17
       clear c17
       simp only [Option.some.injEq, Prod.mk.injEq] at H
       obtain ⟨rfl, rfl⟩ := H
       go_wp2
       repeat (go_quiet (fail); try go_wp2)
       go_ret2
       exact ⟨by first | rfl | (simp [errW_none, errW_some] <;> rfl) | (simp [*, errW_none, errW_some] <;> rfl), bt⟩

/-! ### impl_shardsOk: function 77 -/
def impl_shardsOk.f (k : Nat) (a0 : Int) (a1 : Int) (a2 : Int) (l3 : List Int) (l4 : List (List Int)) : Option (Bool) := (impl_codeOk.f a0 a1 a2).bind fun t203 => (if t203 = true then ((impl_unlike.f k l3 a1).bind fun t204 => (if t204 = true then (if (l3.length : Int) = (l4.length : Int) then ((impl_in.f (l3.length : Int) a0 a1).bind fun t205 => (some t205)) else (some false)) else (some false))) else (some false))
set_option maxHeartbeats 8000000 in
set_option maxRecDepth 100000 in
theorem impl_shardsOk.calls (k : Nat) (a0 : Int) (a1 : Int) (a2 : Int) (A3 : Option Addr) (c3 : Nat) (l3 : List Int) (A4 : Option Addr) (c4 : Nat) (l4 : List (List Int)) (r : Bool) (w : World) (hr3 : Kd.C (Kd.int .i64) w A3 l3.length l3) (hc3 : l3.length ≤ c3) (hr4 : Kd.C (Kd.slice 5 (Kd.int .u8)) w A4 l4.length l4) (hc4 : l4.length ≤ c4) (h : impl_shardsOk.f k a0 a1 a2 l3 l4 = some r) :
  Calls Try.prog 77 #[.int .i64 a0, .int .i64 a1, .int .i64 a2, .slice A3 l3.length c3, .slice A4 l4.length c4] w fun e w' => e = .returned (.bool r) ∧ Below w.heap.size w w' := by
 have HR3 := Aside0.mk hr3
 have HC3 := Aside0.mk hc3
 clear hr3 hc3
 have HR4 := Aside0.mk hr4
 have HC4 := Aside0.mk hc4
 clear hr4 hc4
 have HB := Aside0.mk (Below.refl w.heap.size w)
 have H : ((impl_codeOk.f a0 a1 a2).bind fun t203 => (if t203 = true then ((impl_unlike.f k l3 a1).bind fun t204 => (if t204 = true then (if (l3.length : Int) = (l4.length : Int) then ((impl_in.f (l3.length : Int) a0 a1).bind fun t205 => (some t205)) else (some false)) else (some false))) else (some false))) = some r := h
 clear h
 replace H := Option.bind_eq_some_iff.mp H
 obtain ⟨t203, A60, H⟩ := H
 (try dsimp -simprocs only at H)
 have A6 := Aside0.mk A60
 clear A60
 by_cases c7 : t203 = true
 ·subst c7
  rw [if_pos rfl] at H
  replace H := Option.bind_eq_some_iff.mp H
  obtain ⟨t204, A80, H⟩ := H
  (try dsimp -simprocs only at H)
  have A8 := Aside0.mk A80
  clear A80
  by_cases c9 : t204 = true
  ·subst c9
   rw [if_pos rfl] at H
   by_cases c10 : (l3.length : Int) = (l4.length : Int)
   ·rw [if_pos c10] at H
    have c10b0 : ((l3.length : Int) == (l4.length : Int)) = true := beq_iff_eq.mpr c10
    have c10b1 : ((l3.length : Int) != (l4.length : Int)) = false := bne_eq_false_iff_eq.mpr c10
    have c10b2 : (l3.length == l4.length) = true := by first | simpa using c10 | (simp at c10 ⊢; omega)
    clear c10
    replace H := Option.bind_eq_some_iff.mp H
    obtain ⟨t205, A110, H⟩ := H
    (try dsimp -simprocs only at H)
    have A11 := Aside0.mk A110
    clear A110
    obtain rfl := Option.some.inj H
    go_enter Try.func77, Try.ntmps77
    go_wp2_with (first | ((with_reducible refine gate_callee (f := 63) rfl ?_); refine goesL_ (some 14) rfl rfl Try.func63 (by kernel_rfl) rfl #[.int .i64 a0, .int .i64 a1, .int .i64 a2] rfl av ?_; (with_reducible refine (impl_codeOk.calls a0 a1 a2 true _ A6.out).mono ?_); rintro e w12 ⟨rfl, hb⟩; refine ⟨_, rfl, ?_⟩; replace HB := Aside0.mk (below_step (bt) hb); (try clear hb); (try clear hb2); (try clear hk); (try clear hi)) | (go_at_call 72; (with_reducible refine (impl_unlike.calls k _ _ l3 a1 true _ ?side1 ?side2 A8.out).mono ?_); (case side1 => exact cv ((Kd.C_below HR3.out HB.out))); (case side2 => exact HC3.out); rintro e w' ⟨rfl, ⟨nd, rfl⟩⟩) | (go_at_call 53; (with_reducible refine (impl_in.calls (l3.length : Int) a0 a1 t205 _ A11.out).mono ?_); rintro e w' ⟨rfl, ⟨nd, rfl⟩⟩))
    go_ret
    exact ⟨by first | rfl | (simp [errW_none, errW_some] <;> rfl) | (simp [*, errW_none, errW_some] <;> rfl), bt⟩
   ·rw [if_neg c10] at H
    have c10b0 : ((l3.length : Int) == (l4.length : Int)) = false := beq_eq_false_iff_ne.mpr c10
    have c10b1 : ((l3.length : Int) != (l4.length : Int)) = true := bne_iff_ne.mpr c10
    have c10b2 : (l3.length == l4.length) = false := by first | simpa using c10 | (simp at c10 ⊢; omega)
    obtain rfl := Option.some.inj H
    go_enter Try.func77, Try.ntmps77
    go_wp2_with (first | ((with_reducible refine gate_callee (f := 63) rfl ?_); refine goesL_ (some 14) rfl rfl Try.func63 (by kernel_rfl) rfl #[.int .i64 a0, .int .i64 a1, .int .i64 a2] rfl av ?_; (with_reducible refine (impl_codeOk.calls a0 a1 a2 true _ A6.out).mono ?_); rintro e w13 ⟨rfl, hb⟩; refine ⟨_, rfl, ?_⟩; replace HB := Aside0.mk (below_step (bt) hb); (try clear hb); (try clear hb2); (try clear hk); (try clear hi)) | (go_at_call 72; (with_reducible refine (impl_unlike.calls k _ _ l3 a1 true _ ?side1 ?side2 A8.out).mono ?_); (case side1 => exact cv ((Kd.C_below HR3.out HB.out))); (case side2 => exact HC3.out); rintro e w' ⟨rfl, ⟨nd, rfl⟩⟩))
    go_ret
    exact ⟨by first | rfl | (simp [errW_none, errW_some] <;> rfl) | (simp [*, errW_none, errW_some] <;> rfl), bt⟩
  ·replace c9 := Bool.eq_false_iff.mpr c9
   subst c9
   rw [if_neg (show ¬ (false = true) by decide)] at H
   obtain rfl := Option.some.inj H
   go_enter Try.func77, Try.ntmps77
   go_wp2_with (first | ((with_reducible refine gate_callee (f := 63) rfl ?_); refine goesL_ (some 14) rfl rfl Try.func63 (by kernel_rfl) rfl #[.int .i64 a0, .int .i64 a1, .int .i64 a2] rfl av ?_; (with_reducible refine (impl_codeOk.calls a0 a1 a2 true _ A6.out).mono ?_); rintro e w14 ⟨rfl, hb⟩; refine ⟨_, rfl, ?_⟩; replace HB := Aside0.mk (below_step (bt) hb); (try clear hb); (try clear hb2); (try clear hk); (try clear hi)) | (go_at_call 72; (with_reducible refine (impl_unlike.calls k _ _ l3 a1 false _ ?side1 ?side2 A8.out).mono ?_); (case side1 => exact cv ((Kd.C_below HR3.out HB.out))); (case side2 => exact HC3.out); rintro e w' ⟨rfl, ⟨nd, rfl⟩⟩))
   go_ret
   exact ⟨by first | rfl | (simp [errW_none, errW_some] <;> rfl) | (simp [*, errW_none, errW_some] <;> rfl), bt⟩
 ·replace c7 := Bool.eq_false_iff.mpr c7
  subst c7
  rw [if_neg (show ¬ (false = true) by decide)] at H
  obtain rfl := Option.some.inj H
  go_enter Try.func77, Try.ntmps77
  go_wp2_with (first | ((with_reducible refine gate_callee (f := 63) rfl ?_); refine goesL_ (some 14) rfl rfl Try.func63 (by kernel_rfl) rfl #[.int .i64 a0, .int .i64 a1, .int .i64 a2] rfl av ?_; (with_reducible refine (impl_codeOk.calls a0 a1 a2 false _ A6.out).mono ?_); rintro e w15 ⟨rfl, hb⟩; refine ⟨_, rfl, ?_⟩; replace HB := Aside0.mk (below_step (bt) hb); (try clear hb); (try clear hb2); (try clear hk); (try clear hi)))
  go_ret
  exact ⟨by first | rfl | (simp [errW_none, errW_some] <;> rfl) | (simp [*, errW_none, errW_some] <;> rfl), bt⟩

/-! ### impl_decode: function 93 -/
mutual
def impl_decode.l0 : Nat → Int → Int → List (List Int) → List Int → List Int → List Int → Int → Int → Option (List Int)
 | 0, _, _, _, _, _, _, _, _ => none
 | k + 1, x0, x1, x3, x9, x10, x18, x19, x20 => if x20 < x19 then (if 0 ≤ x20 then (if x20 < (x18.length : Int) then (if x9.length < 140737488355328 then (impl_decode.l0 k x0 x1 x3 (x9 ++ [(rd x18 x20) % 256]) x10 x18 x19 (wrap64 (x20 + 1))) else (none)) else (none)) else (none)) else (impl_decode.l1 k x0 x1 x3 x9 x10 x0 0)
def impl_decode.l1 : Nat → Int → Int → List (List Int) → List Int → List Int → Int → Int → Option (List Int)
 | 0, _, _, _, _, _, _, _ => none
 | k + 1, x0, x1, x3, x9, x10, x30, x31 => if x31 < x30 then (if 0 ≤ x0 then (if x0 ≤ (x3.length : Int) then ((impl_byPlaces.f k x9 (x3.take (x0 : Int).toNat) ((x31) % 256)).bind fun t221 => (if x10.length + t221.length < 140737488355328 then (impl_decode.l1 k x0 x1 x3 x9 (x10 ++ t221) x30 (wrap64 (x31 + 1))) else (none))) else (none)) else (none)) else (if 0 ≤ x1 then (if x1 ≤ (x10.length : Int) then (some (x10.take (x1 : Int).toNat)) else (none)) else (none))
end
def impl_decode.f (k : Nat) (a0 : Int) (a1 : Int) (l2 : List Int) (l3 : List (List Int)) : Option (List Int) := if 0 ≤ a0 then (if a0 ≤ (l2.length : Int) then (impl_decode.l0 k a0 a1 l3 (([] : List Int)) (([] : List Int)) (l2.take (a0 : Int).toNat) ((l2.take (a0 : Int).toNat).length : Int) 0) else (none)) else (none)
set_option maxHeartbeats 8000000 in
set_option maxRecDepth 100000 in
theorem impl_decode.calls (k : Nat) (a0 : Int) (a1 : Int) (A2 : Option Addr) (c2 : Nat) (l2 : List Int) (A3 : Option Addr) (c3 : Nat) (l3 : List (List Int)) (r : List Int) (w : World) (hr2 : Kd.C (Kd.int .i64) w A2 l2.length l2) (hc2 : l2.length ≤ c2) (hr3 : Kd.C (Kd.slice 5 (Kd.int .u8)) w A3 l3.length l3) (hc3 : l3.length ≤ c3) (h : impl_decode.f k a0 a1 l2 l3 = some r) :
  Calls Try.prog 93 #[.int .i64 a0, .int .i64 a1, .slice A2 l2.length c2, .slice A3 l3.length c3] w fun e w' => ∃ v0_ : Value, e = .returned (v0_) ∧ Kd.R (Kd.int .u8) 5 w' w.heap.size (fun _ => True) v0_ r ∧ Below w.heap.size w w' := by
 have HR2 := Aside0.mk hr2
 have HC2 := Aside0.mk hc2
 clear hr2 hc2
 have HR3 := Aside0.mk hr3
 have HC3 := Aside0.mk hc3
 clear hr3 hc3
 have HB := Aside0.mk (Below.refl w.heap.size w)
 have H : (if 0 ≤ a0 then (if a0 ≤ (l2.length : Int) then (impl_decode.l0 k a0 a1 l3 (([] : List Int)) (([] : List Int)) (l2.take (a0 : Int).toNat) ((l2.take (a0 : Int).toNat).length : Int) 0) else (none)) else (none)) = some r := h
 clear h
 obtain ⟨y206, hy206⟩ : ∃ y_ : List Int, y_ = (([] : List Int)) := ⟨_, rfl⟩
 replace H : (if 0 ≤ a0 then (if a0 ≤ (l2.length : Int) then (impl_decode.l0 k a0 a1 l3 y206 (([] : List Int)) (l2.take (a0 : Int).toNat) ((l2.take (a0 : Int).toNat).length : Int) 0) else (none)) else (none)) = some r := by first | (rw [hy206]; exact H) | exact H
 have Ny206 := Aside0.mk hy206
 clear hy206
 obtain ⟨y209, hy209⟩ : ∃ y_ : List Int, y_ = (([] : List Int)) := ⟨_, rfl⟩
 replace H : (if 0 ≤ a0 then (if a0 ≤ (l2.length : Int) then (impl_decode.l0 k a0 a1 l3 y206 y209 (l2.take (a0 : Int).toNat) ((l2.take (a0 : Int).toNat).length : Int) 0) else (none)) else (none)) = some r := by first | (rw [hy209]; exact H) | exact H
 have Ny209 := Aside0.mk hy209
 clear hy209
 by_cases c5 : 0 ≤ a0
 ·rw [if_pos c5] at H
  have c5b0 := eq_true c5
  have c5b1 : decide (0 ≤ a0) = true := decide_eq_true c5
  clear c5
  by_cases c6 : a0 ≤ (l2.length : Int)
  ·rw [if_pos c6] at H
   have c6b0 := eq_true c6
   have c6b1 : decide (a0 ≤ (l2.length : Int)) = true := decide_eq_true c6
   have HMX : Aside0 (max a0 0 = ((l2.take (a0 : Int).toNat).length : Int)) := ⟨by have h5_ := of_eq_true c5b0; rw [List.length_take]; omega⟩
   clear c6
   have H' := Aside0.mk H
   clear H
   go_enter Try.func93, Try.ntmps93
   go_wp2_with (first | ((with_reducible refine gate_dst (N := 14) rfl ?_); refine Kd.R_lit (Kd.int .u8) _ 5 ?hg (N := 14) ?hd (xs := ([] : List Int)) (inner := []) (ok := fun _ => True) (okp := fun _ => True) ?hr ?hp (fun _ hk => hk) trivial (Below.refl _ _) (Nat.le_refl _) (by simp) ?_; (case hd => rfl); (case hg => rfl); (case hr => first | (go_simp; done) | (go_simp; rfl)); (case hp => exact (Reps.none _ _)); intro v207 w7 ho8 hb hg_ hnew_; clear hg_ hnew_; (first | rw [← Ny206.out] at ho8 | (simp only [Int.reduceToNat] at ho8; rw [← Ny206.out] at ho8)); have HO208 := Aside0.mk (Kd.R_lower ho8 (below_size (bt))); replace HB := Aside0.mk (below_step (bt) hb); clear hb ho8) | ((with_reducible refine gate_dst (N := 15) rfl ?_); refine Kd.R_lit (Kd.int .u8) _ 5 ?hg (N := 15) ?hd (xs := ([] : List Int)) (inner := []) (ok := fun _ => True) (okp := fun _ => True) ?hr ?hp (fun _ hk => hk) trivial (Below.refl _ _) (Nat.le_refl _) (by simp) ?_; (case hd => rfl); (case hg => rfl); (case hr => first | (go_simp; done) | (go_simp; rfl)); (case hp => exact (Reps.none _ _)); intro v210 w9 ho10 hb hg_ hnew_; clear hg_ hnew_; (first | rw [← Ny209.out] at ho10 | (simp only [Int.reduceToNat] at ho10; rw [← Ny209.out] at ho10)); have HO211 := Aside0.mk (Kd.R_lower (Kd.R_new' ho10 (Kd.R_lt (mv HO208.out))) (below_size (bt))); replace HO208 := Aside0.mk (Kd.R_elder' (mv HO208.out) (Kd.R_base ho10) hb); replace HB := Aside0.mk (below_step (bt) hb); clear hb ho10; obtain ⟨i011, hi011, _, hsz11, _⟩ := info_parts info3; obtain ⟨hcut11, hA11, hC11⟩ := print_take_of (P := Try.prog) (Value.int .i64) 0 47 3 .i64 Try.underlying47 hi011 hsz11 A2 c2 l2 a0 (of_decide_eq_true asm) (of_decide_eq_true asm) HC2.out; have HR212 := Aside0.mk (Kd.C_of_reads (h1 := fun _ => rfl) (hA11 _ (Kd.reads_of_C HR2.out))); have HC212 := Aside0.mk hC11; clear hA11 hC11 hi011 hsz11))
   go_loopg [9, 20] k (fun kq v9 v20 w' => ∃ (x9_1 : List Int) (x20_1 : Int), v20 = .int .i64 x20_1 ∧ Aside0 (impl_decode.l0 kq a0 a1 l3 x9_1 y209 (l2.take (a0 : Int).toNat) ((l2.take (a0 : Int).toNat).length : Int) x20_1 = some r) ∧ Aside0 (kq ≤ k) ∧ Aside0 (Kd.R (Kd.int .u8) 5 w' w.heap.size (fun k_ => some k_ ≠ (v210 : Value).ownBlock) v9 x9_1) ∧ Aside0 (Kd.R (Kd.int .u8) 5 w' w.heap.size (fun k_ => some k_ ≠ (v9 : Value).ownBlock) v210 y209) ∧ Aside0 (Below w.heap.size w w'))
   case atStart => exact ⟨(y206), (0), (by first | rfl | (simp; done) | (simp [*]; done)), H', ⟨Nat.le_refl _⟩, ⟨by (with_reducible repeat (first | apply Kd.R_alloc | apply Kd.R_drewN | apply Kd.R_drew)); exact Kd.R_mono HO208.out (fun _ hk => hk.2)⟩, ⟨by (with_reducible repeat (first | apply Kd.R_alloc | apply Kd.R_drewN | apply Kd.R_drew)); exact Kd.R_mono HO211.out (fun _ hk => hk.2)⟩, ⟨bt⟩⟩
   case round =>
    clear H'
    try clear c2
    try clear p2
    try clear c3
    try clear c5
    try clear c5b0
    try clear c5b1
    try clear c6
    try clear c6b0
    try clear c6b1
    try clear c9
    obtain ⟨x9_1, x20_1, rfl, HA, HK1, HO_9, HO_10, HB⟩ := hrel
    cases gk with
    | zero => exact absurd HA.out (by simp [impl_decode.l0])
    | succ k1 =>
     have H := HA.out
     clear HA
     simp only [impl_decode.l0] at H
     by_cases c12 : x20_1 < ((l2.take (a0 : Int).toNat).length : Int)
     ·rw [if_pos c12] at H
      have c12b0 : decide (x20_1 < ((l2.take (a0 : Int).toNat).length : Int)) = true := decide_eq_true c12
      have c12m : decide (x20_1 < max a0 0) = true := by rw [HMX.out]; exact c12b0
      clear c12
      by_cases c13 : 0 ≤ x20_1
      ·rw [if_pos c13] at H
       have c13b0 : decide (0 ≤ x20_1) = true := decide_eq_true c13
       clear c13
       by_cases c14 : x20_1 < ((l2.take (a0 : Int).toNat).length : Int)
       ·rw [if_pos c14] at H
        have c14b0 : decide (x20_1 < ((l2.take (a0 : Int).toNat).length : Int)) = true := decide_eq_true c14
        have c14m : decide (x20_1 < max a0 0) = true := by rw [HMX.out]; exact c14b0
        clear c14
        by_cases c15 : x9_1.length < 140737488355328
        ·rw [if_pos c15] at H
         have LMc15 := Aside0.mk c15
         clear c15
         obtain ⟨y214, hy214⟩ : ∃ y_ : List Int, y_ = (x9_1 ++ [(rd (l2.take (a0 : Int).toNat) x20_1) % 256]) := ⟨_, rfl⟩
         replace H : (impl_decode.l0 k1 a0 a1 l3 y214 y209 (l2.take (a0 : Int).toNat) ((l2.take (a0 : Int).toNat).length : Int) (wrap64 (x20_1 + 1))) = some r := by first | (rw [hy214]; exact H) | exact H
         have Ny214 := Aside0.mk hy214
         clear hy214
         have H' := Aside0.mk H
         clear H
         have p213 : 0 ≤ (x20_1 : Int) := of_decide_eq_true asm
         have q213 : x20_1 < ((l2.take (a0 : Int).toNat).length : Int) := of_decide_eq_true asm
         obtain ⟨ad213, e213, hx213_0⟩ := Kd.at_int HR212.out x20_1 p213 q213
         cases e213
         replace hx213_0 := (HB.out.cell (World.block_lt_of_cell? w _ hx213_0)).trans hx213_0
         replace p213 := eq_true p213
         replace q213 := eq_true q213
         have q213m : (x20_1 < max a0 0) = True := by rw [HMX.out]; exact q213
         go_wp2_with (first | ((with_reducible refine gate_builtin (b := .append) (xs := #[.tmp 24, .tmp 27]) rfl ?_); at_builtin; refine Kd.R_append (Kd.int .u8) (w0 := w) w.heap.size rfl (.tmp 24) (.tmp 27) 24 5 (.int .u8 0) 1 rfl Try.underlying24 info5 rfl (by decide) (by omega) u9 x9_1 ((rd (l2.take (a0 : Int).toNat) x20_1) % 256) [.int .u8 ((rd (l2.take (a0 : Int).toNat) x20_1) % 256)] (fun k_ => some k_ ≠ (v210 : Value).ownBlock) (fun _ => False) rfl rfl ?aP (fun _ hk => hk.elim) ?aF ?aO ?aB ?aS ?aL ?_; (case aP => exact rfl); (case aB => exact (bt)); (case aF => exact (fun k_ hk => Kd.fresh' (Kd.R_lt (mv HO_10.out)) k_ hk)); (case aO => exact (mv HO_9.out)); (case aS => exact (below_size (bt))); (case aL => have := LMc15.out; omega); intro v215 w16 ho hb hg hat; rw [← Ny214.out] at ho; replace HO_10 := Aside0.mk (Kd.R_after (ok := (fun _ => True)) (by (with_reducible repeat (first | apply Kd.R_alloc | apply Kd.R_drewN | apply Kd.R_drew)); exact Kd.R_mono HO_10.out (fun _ hk => ⟨trivial, hk⟩)) hg hat); replace HB := Aside0.mk (hb); have HO216 := Aside0.mk (ho); clear HO_9; clear ho hb hg hat))
         go_roundg k1
         case measure => have := HK1.out; omega
         case rel => exact ⟨(y214), (wrap64 (x20_1 + 1)), (by first | rfl | (simp; done) | (simp [*]; done)), H', ⟨by have := HK1.out; omega⟩, ⟨mv HO216.out⟩, ⟨by (with_reducible repeat (first | apply Kd.R_alloc | apply Kd.R_drewN | apply Kd.R_drew)); exact Kd.R_mono HO_10.out (fun _ hk => hk.2)⟩, ⟨bt⟩⟩
        ·rw [if_neg c15] at H
         exact absurd H (by simp)
       ·rw [if_neg c14] at H
        exact absurd H (by simp)
      ·rw [if_neg c13] at H
       exact absurd H (by simp)
     ·rw [if_neg c12] at H
      have c12b0 : decide (x20_1 < ((l2.take (a0 : Int).toNat).length : Int)) = false := decide_eq_false c12
      have c12m : decide (x20_1 < max a0 0) = false := by rw [HMX.out]; exact c12b0
      clear c12
      have H' := Aside0.mk H
      clear H
      go_wp2
      go_loopg [10, 31] k1 (fun kq v10 v31 w' => ∃ (x10_2 : List Int) (x31_2 : Int), v31 = .int .i64 x31_2 ∧ Aside0 (impl_decode.l1 kq a0 a1 l3 x9_1 x10_2 a0 x31_2 = some r) ∧ Aside0 (kq ≤ k1) ∧ Aside0 (Kd.R (Kd.int .u8) 5 w' w.heap.size (fun k_ => some k_ ≠ (v10 : Value).ownBlock) u9 x9_1) ∧ Aside0 (Kd.R (Kd.int .u8) 5 w' w.heap.size (fun k_ => some k_ ≠ (u9 : Value).ownBlock) v10 x10_2) ∧ Aside0 (Below w.heap.size w w'))
      case atStart => exact ⟨(y209), (0), (by first | rfl | (simp; done) | (simp [*]; done)), H', ⟨Nat.le_refl _⟩, ⟨mv HO_9.out⟩, ⟨mv HO_10.out⟩, ⟨bt⟩⟩
      case round =>
       clear H'
       try clear c1
       try clear c2
       try clear p2
       try clear q2
       try clear hx2
       try clear c3
       try clear c5
       try clear c5b0
       try clear c5b1
       try clear c6
       try clear c6b0
       try clear c6b1
       try clear p6
       try clear c9
       try clear c12
       try clear c12b0
       try clear c13
       try clear c13b0
       try clear c14
       try clear c14b0
       try clear c15
       try clear hx213_0
       try clear p2
       try clear p213
       try clear q213
       obtain ⟨x10_2, x31_2, rfl, HA, HK2, HO_9, HO_10, HB⟩ := hrel
       cases gk with
       | zero => exact absurd HA.out (by simp [impl_decode.l1])
       | succ k2 =>
        have H := HA.out
        clear HA
        simp only [impl_decode.l1] at H
        by_cases c17 : x31_2 < a0
        ·rw [if_pos c17] at H
         have c17b0 : decide (x31_2 < a0) = true := decide_eq_true c17
         clear c17
         by_cases c18 : 0 ≤ a0
         ·rw [if_pos c18] at H
          have c18b0 := eq_true c18
          have c18b1 : decide (0 ≤ a0) = true := decide_eq_true c18
          clear c18
          by_cases c19 : a0 ≤ (l3.length : Int)
          ·rw [if_pos c19] at H
           have c19b0 := eq_true c19
           have c19b1 : decide (a0 ≤ (l3.length : Int)) = true := decide_eq_true c19
           clear c19
           obtain ⟨y217, hy217⟩ : ∃ y_ : List (List Int), y_ = (l3.take (a0 : Int).toNat) := ⟨_, rfl⟩
           replace H : ((impl_byPlaces.f k2 x9_1 y217 ((x31_2) % 256)).bind fun t221 => (if x10_2.length + t221.length < 140737488355328 then (impl_decode.l1 k2 a0 a1 l3 x9_1 (x10_2 ++ t221) a0 (wrap64 (x31_2 + 1))) else (none))) = some r := by first | (rw [hy217]; exact H) | exact H
           have Ny217 := Aside0.mk hy217
           clear hy217
           replace H := Option.bind_eq_some_iff.mp H
           obtain ⟨t221, A200, H⟩ := H
           (try dsimp -simprocs only at H)
           have A20 := Aside0.mk A200
           clear A200
           by_cases c21 : x10_2.length + t221.length < 140737488355328
           ·rw [if_pos c21] at H
            have LMc21 := Aside0.mk c21
            clear c21
            obtain ⟨y224, hy224⟩ : ∃ y_ : List Int, y_ = (x10_2 ++ t221) := ⟨_, rfl⟩
            replace H : (impl_decode.l1 k2 a0 a1 l3 x9_1 y224 a0 (wrap64 (x31_2 + 1))) = some r := by first | (rw [hy224]; exact H) | exact H
            have Ny224 := Aside0.mk hy224
            clear hy224
            have H' := Aside0.mk H
            clear H
            have q22 : (a0 : Int) ≤ ((l3.length : Int) : Int) := of_decide_eq_true asm
            obtain ⟨i022, hi022, _, hsz22, _⟩ := info_parts info24
            have hroom22 : l3.length ≤ c3 := HC3.out
            have hC22 : Kd.C (Kd.slice 5 (Kd.int .u8)) _ A3 l3.length l3 := HR3.out
            have hcut22 := cut_to (P := Try.prog) 22 24 .i64 Try.underlying22 hi022 A3 l3.length c3 a0 (of_decide_eq_true asm) q22 hroom22
            have hr22 := Kd.C_take (m := (a0 : Int).toNat) hC22 (by omega)
            have hy22 : y217.length = (a0 : Int).toNat := (by rw [Ny217.out, List.length_take]; omega)
            rw [← Ny217.out] at hr22
            rw [← hy22] at hcut22
            have HR220 := Aside0.mk hr22
            have HC220 := Aside0.mk (show y217.length ≤ c3 from by omega)
            clear hr22 hC22 hroom22 hi022 hsz22
            have KY22 := Aside0.mk hy22
            clear hy22
            replace q22 := eq_true q22
            obtain ⟨Ao23, co23, eo23⟩ := Kd.R_slice HO_9.out
            subst eo23
            go_wp2_with (first | ((with_reducible refine gate_callee (f := 86) rfl ?_); refine goesL_ (some 41) rfl rfl Try.func86 (by kernel_rfl) rfl #[.slice Ao23 x9_1.length co23, .slice A3 y217.length c3, .int .u8 ((x31_2) % 256)] rfl av ?_; (with_reducible refine (impl_byPlaces.calls k2 _ _ x9_1 _ _ y217 ((x31_2) % 256) t221 _ ?side1 ?side2 ?side3 ?side4 A20.out).mono ?_); (case side1 => exact cv ((Kd.R_reads' HO_9.out).2.2)); (case side2 => exact (Kd.R_reads' HO_9.out).2.1); (case side3 => exact cv ((Kd.C_below HR220.out HB.out))); (case side4 => exact HC220.out); rintro e w24 ⟨v222, rfl, ho0, hb⟩; refine ⟨_, rfl, ?_⟩; have HO223 := Aside0.mk (Kd.R_lower (Kd.R_new' (Kd.R_new' ho0 (Kd.R_lt (mv HO_9.out))) (Kd.R_lt (mv HO_10.out))) (below_size (bt))); replace HO_9 := Aside0.mk (Kd.R_elder' (mv HO_9.out) (Kd.R_base ho0) hb); replace HO_10 := Aside0.mk (Kd.R_elder' (mv HO_10.out) (Kd.R_base ho0) hb); replace HB := Aside0.mk (below_step (bt) hb); (try clear hb); (try clear hb2); (try clear hk); (try clear hi); (try clear ho0); obtain ⟨Ao26, co26, eo26⟩ := Kd.R_slice HO223.out; subst eo26) | ((with_reducible refine gate_builtin (b := .append) (xs := #[.tmp 34, .tmp 41]) rfl ?_); at_builtin; refine Kd.R_append_rows (Kd.int .u8) (w0 := w) w.heap.size rfl (.tmp 34) (.tmp 41) 24 5 (.int .u8 0) 1 rfl Try.underlying24 info5 rfl (by decide) (by omega) u10 x10_2 t221 _ _ _ (fun k_ => some k_ ≠ (.slice Ao23 x9_1.length co23 : Value).ownBlock ∧ some k_ ≠ (.slice Ao26 t221.length co26 : Value).ownBlock) (fun _ => False) rfl rfl ?aO ?aR (fun _ _ h => h) (fun _ h => h.elim) ?aF ?aB ?aS ?aL ?_; (case aR => exact cv ((Kd.R_reads' HO223.out).2.2)); (case aB => exact (bt)); (case aF => exact (fun k_ hk => ⟨Kd.fresh' (Kd.R_lt (mv HO_9.out)) k_ hk, Kd.fresh' (Kd.R_lt (mv HO223.out)) k_ hk⟩)); (case aO => exact (mv HO_10.out)); (case aS => exact (below_size (bt))); (case aL => have := LMc21.out; omega); intro v225 w25 ho hb hg hat; rw [← Ny224.out] at ho; replace HO_9 := Aside0.mk (Kd.R_after (ok := (fun k_ => some k_ ≠ (.slice Ao26 t221.length co26 : Value).ownBlock)) (by (with_reducible repeat (first | apply Kd.R_alloc | apply Kd.R_drewN | apply Kd.R_drew)); exact Kd.R_mono HO_9.out (fun _ hk => ⟨hk.2, hk.1⟩)) hg hat); replace HO223 := Aside0.mk (Kd.R_after (ok := (fun k_ => some k_ ≠ (.slice Ao23 x9_1.length co23 : Value).ownBlock)) (by (with_reducible repeat (first | apply Kd.R_alloc | apply Kd.R_drewN | apply Kd.R_drew)); exact Kd.R_mono HO223.out (fun _ hk => ⟨hk.1.2, hk.2⟩)) hg hat); replace HB := Aside0.mk (hb); have HO226 := Aside0.mk (ho); clear HO_10; clear ho hb hg hat))
            go_roundg k2
            case measure => have := HK1.out; have := HK2.out; omega
            case rel => exact ⟨(y224), (wrap64 (x31_2 + 1)), (by first | rfl | (simp; done) | (simp [*]; done)), H', ⟨by have := HK1.out; have := HK2.out; omega⟩, ⟨by (with_reducible repeat (first | apply Kd.R_alloc | apply Kd.R_drewN | apply Kd.R_drew)); exact Kd.R_mono HO_9.out (fun _ hk => hk.2)⟩, ⟨by (with_reducible repeat (first | apply Kd.R_alloc | apply Kd.R_drewN | apply Kd.R_drew)); exact Kd.R_mono HO226.out (fun _ hk => hk.1)⟩, ⟨bt⟩⟩
           ·rw [if_neg c21] at H
            exact absurd H (by simp)
          ·rw [if_neg c19] at H
           exact absurd H (by simp)
         ·rw [if_neg c18] at H
          exact absurd H (by simp)
        ·rw [if_neg c17] at H
         have c17b0 : decide (x31_2 < a0) = false := decide_eq_false c17
         clear c17
         by_cases c27 : 0 ≤ a1
         ·rw [if_pos c27] at H
          have c27b0 := eq_true c27
          have c27b1 : decide (0 ≤ a1) = true := decide_eq_true c27
          clear c27
          by_cases c28 : a1 ≤ (x10_2.length : Int)
          ·rw [if_pos c28] at H
           have c28b0 := eq_true c28
           have c28b1 : decide (a1 ≤ (x10_2.length : Int)) = true := decide_eq_true c28
           clear c28
           obtain ⟨y227, hy227⟩ : ∃ y_ : List Int, y_ = (x10_2.take (a1 : Int).toNat) := ⟨_, rfl⟩
           replace H : (some y227) = some r := by first | (rw [hy227]; exact H) | exact H
           have Ny227 := Aside0.mk hy227
           clear hy227
           obtain rfl := Option.some.inj H
           obtain ⟨Ao29, co29, eo29⟩ := Kd.R_slice HO_10.out
           subst eo29
           have q30 : (a1 : Int) ≤ ((x10_2.length : Int) : Int) := of_decide_eq_true asm
           obtain ⟨i030, hi030, _, hsz30, _⟩ := info_parts info5
           have hcut30 := cut_to (P := Try.prog) 24 5 .i64 Try.underlying24 hi030 Ao29 x10_2.length co29 a1 (of_decide_eq_true asm) q30 (Kd.R_reads' HO_10.out).2.1
           have hr30 := Kd.R_take (m := (a1 : Int).toNat) HO_10.out (by omega)
           have hy30 : y227.length = (a1 : Int).toNat := (by rw [Ny227.out, List.length_take]; omega)
           rw [← Ny227.out] at hr30
           rw [← hy30] at hr30 hcut30
           clear hy30 hi030 hsz30 HO_10
           have HO229 := Aside0.mk hr30
           clear hr30
           replace q30 := eq_true q30
           go_wp2
           go_ret
           exact ⟨_, by first | rfl | (simp [errW_none, errW_some] <;> rfl) | (simp [*, errW_none, errW_some] <;> rfl), by (with_reducible repeat (first | apply Kd.R_alloc | apply Kd.R_drewN | apply Kd.R_drew)); exact Kd.R_mono HO229.out (fun _ hk => trivial), bt⟩
          ·rw [if_neg c28] at H
           exact absurd H (by simp)
         ·rw [if_neg c27] at H
          exact absurd H (by simp)
  ·rw [if_neg c6] at H
   exact absurd H (by simp)
 ·rw [if_neg c5] at H
  exact absurd H (by simp)

end Go.Proofs.Ythaoloacbbohlaa.PFnOutvoted
