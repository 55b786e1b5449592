-- Written by a program of this workplace (wip/mp.py) out of the translation.
import Derived.Test.YtaacidhgnappdaaPFnExactFromManyx0
import Derived.Test.YtaacidhgnappdaaPFnExactFromManyx6
import Derived.Test.YtaacidhgnappdaaPFnExactFromManyx7
import Derived.Test.YtaacidhgnappdaaPFnExactFromManyx8
import Derived.Test.YtaacidhgnappdaaPFnExactFromManyx9
import Derived.Test.YtaacidhgnappdaaPFnExactFromManyx10
namespace Go.Proofs.Ytaacidhgnappdaa.PFnExactFromMany
open Go.RowKit Go.Proofs.YtaacidhgnappdaaW.PrintWords Go.Proofs.YtaacidhgnappdaaW.PrintLast Go.Proofs.YtaacidhgnappdaaW.PrintMore Go.Proofs.Ytaacidhgnappdaa.Slim
attribute [local go_sem] max2_int min2_int max_two min_two max_three min_three max_four min_four   -- for this text's walks alone
set_option linter.unusedVariables false
set_option linter.unusedSimpArgs false

/-! ### impl_climbMany: function 89 -/
mutual
def impl_climbMany.j0 : Nat → Int → Int → List Int → List (List Int) → List Int → Bool → Option ((List (List Int)) × Bool)
 | 0, _, _, _, _, _, _ => none
 | k + 1, x0, x1, x2, x3, x4, x51 => if x51 = true then (some (([] : List (List Int)), false)) else ((fake_mp_new.f).bind fun t400 => (impl_climbMany.l0 k x0 x1 x2 x4 (([] : List (List Int))) t400 x3 (x3.length : Int) 0))
def impl_climbMany.l0 : Nat → Int → Int → List Int → List Int → List (List Int) → Mp → List (List Int) → Int → Int → Option ((List (List Int)) × Bool)
 | 0, _, _, _, _, _, _, _, _, _ => none
 | k + 1, x0, x1, x2, x4, x12, x13, x54, x55, x56 => if x56 < x55 then (if 0 ≤ x56 then (if x56 < (x54.length : Int) then ((impl_leafInput.f (rd_L2 x54 x56)).bind fun t402 => (if x12.length < 5864062014805 then ((some (x12 ++ [t402] : List (List Int))).bind fun y405 => (if x56 < (x2.length : Int) then (if x56 < (y405.length : Int) then ((impl_Digest.f x0 (rd_L2 y405 x56)).bind fun t410 => ((fake_mp_put.f x13 (rd x2 x56) t410).bind fun t411 => (impl_climbMany.l0 k x0 x1 x2 x4 y405 t411 x54 x55 (wrap64 (x56 + 1))))) else (none)) else (none))) else (none))) else (none)) else (none)) else (impl_climbMany.l1 k x0 x1 x2 x4 x12 x13 x1)
def impl_climbMany.l1 : Nat → Int → Int → List Int → List Int → List (List Int) → Mp → Int → Option ((List (List Int)) × Bool)
 | 0, _, _, _, _, _, _, _ => none
 | k + 1, x0, x1, x2, x4, x12, x13, x16 => if x16 > 1 then ((fake_mp_new.f).bind fun t419 => (impl_climbMany.l2 k x0 x1 x2 x4 x12 x13 x16 t419 x2 (x2.length : Int) 0)) else ((fake_mp_get.f x13 0).bind fun t412 => ((impl_topInput.f k x1 t412).bind fun t413 => (if x12.length < 5864062014805 then (some ((x12 ++ [t413]), ((x4.length : Int) == 0))) else (none))))
def impl_climbMany.l2 : Nat → Int → Int → List Int → List Int → List (List Int) → Mp → Int → Mp → List Int → Int → Int → Option ((List (List Int)) × Bool)
 | 0, _, _, _, _, _, _, _, _, _, _, _ => none
 | k + 1, x0, x1, x2, x4, x12, x13, x16, x17, x85, x86, x87 => if x87 < x86 then (if 0 ≤ x87 then (if x87 < (x85.length : Int) then ((fake_mp_look.f x13 (Go.bits .xor .i64 (rd x85 x87) 1)).bind fun bt424 => (if (Go.bits .xor .i64 (rd x85 x87) 1) ≥ x16 then ((fake_mp_get.f x13 (rd x85 x87)).bind fun t426 => ((fake_mp_put.f x17 (wrap64 (Int.tdiv (rd x85 x87) 2)) t426).bind fun t427 => (impl_climbMany.l2 k x0 x1 x2 x4 x12 x13 x16 t427 x85 x86 (wrap64 (x87 + 1))))) else (if bt424.2 = true then (impl_climbMany.j4 k x0 x1 x2 x4 x12 x13 x16 x17 (rd x85 x87) bt424.1 bt424.2 x85 x86 x87 ((Int.tmod (rd x85 x87) 2) == 1)) else (impl_climbMany.j4 k x0 x1 x2 x4 x12 x13 x16 x17 (rd x85 x87) bt424.1 bt424.2 x85 x86 x87 false)))) else (none)) else (none)) else ((impl_above.f x2).bind fun t420 => (impl_climbMany.l1 k x0 x1 t420 x4 x12 x17 (wrap64 (Int.tdiv (wrap64 (x16 + 1)) 2))))
def impl_climbMany.j6 : Nat → Int → Int → List Int → List Int → List (List Int) → Mp → Int → Mp → Int → Int → List Int → Int → Int → Option ((List (List Int)) × Bool)
 | 0, _, _, _, _, _, _, _, _, _, _, _, _, _ => none
 | k + 1, x0, x1, x2, x4, x12, x13, x16, x17, x19, x20, x85, x86, x87 => (fake_mp_get.f x13 x19).bind fun t434 => (if (Int.tmod x19 2) = 1 then ((impl_nodeInput.f k x20 t434).bind fun t435 => (if x12.length < 5864062014805 then ((some (x12 ++ [t435] : List (List Int))).bind fun y438 => (if 0 ≤ (wrap64 ((y438.length : Int) - 1)) then (if (wrap64 ((y438.length : Int) - 1)) < (y438.length : Int) then ((impl_Digest.f x0 (rd_L2 y438 (wrap64 ((y438.length : Int) - 1)))).bind fun t442 => ((fake_mp_put.f x17 (wrap64 (Int.tdiv x19 2)) t442).bind fun t443 => (impl_climbMany.l2 k x0 x1 x2 x4 y438 x13 x16 t443 x85 x86 (wrap64 (x87 + 1))))) else (none)) else (none))) else (none))) else ((impl_nodeInput.f k t434 x20).bind fun t444 => (if x12.length < 5864062014805 then ((some (x12 ++ [t444] : List (List Int))).bind fun y447 => (if 0 ≤ (wrap64 ((y447.length : Int) - 1)) then (if (wrap64 ((y447.length : Int) - 1)) < (y447.length : Int) then ((impl_Digest.f x0 (rd_L2 y447 (wrap64 ((y447.length : Int) - 1)))).bind fun t451 => ((fake_mp_put.f x17 (wrap64 (Int.tdiv x19 2)) t451).bind fun t452 => (impl_climbMany.l2 k x0 x1 x2 x4 y447 x13 x16 t452 x85 x86 (wrap64 (x87 + 1))))) else (none)) else (none))) else (none))))
def impl_climbMany.j4 : Nat → Int → Int → List Int → List Int → List (List Int) → Mp → Int → Mp → Int → Int → Bool → List Int → Int → Int → Bool → Option ((List (List Int)) × Bool)
 | 0, _, _, _, _, _, _, _, _, _, _, _, _, _, _, _ => none
 | k + 1, x0, x1, x2, x4, x12, x13, x16, x17, x19, x20, x21, x85, x86, x87, x109 => if x109 = true then (impl_climbMany.l2 k x0 x1 x2 x4 x12 x13 x16 x17 x85 x86 (wrap64 (x87 + 1))) else (if x21 = true then (impl_climbMany.j5 k x0 x1 x2 x4 x12 x13 x16 x17 x19 x20 x21 x85 x86 x87 false) else (impl_climbMany.j5 k x0 x1 x2 x4 x12 x13 x16 x17 x19 x20 x21 x85 x86 x87 ((x4.length : Int) == 0)))
def impl_climbMany.j5 : Nat → Int → Int → List Int → List Int → List (List Int) → Mp → Int → Mp → Int → Int → Bool → List Int → Int → Int → Bool → Option ((List (List Int)) × Bool)
 | 0, _, _, _, _, _, _, _, _, _, _, _, _, _, _, _ => none
 | k + 1, x0, x1, x2, x4, x12, x13, x16, x17, x19, x20, x21, x85, x86, x87, x116 => if x116 = true then (some (([] : List (List Int)), false)) else (if x21 = true then (impl_climbMany.j6 k x0 x1 x2 x4 x12 x13 x16 x17 x19 x20 x85 x86 x87) else (if 0 < (x4.length : Int) then (if 1 ≤ (x4.length : Int) then (impl_climbMany.j6 k x0 x1 x2 (x4.drop 1) x12 x13 x16 x17 x19 (rd x4 0) x85 x86 x87) else (none)) else (none)))
end
def impl_climbMany.f (k : Nat) (a0 : Int) (a1 : Int) (l2 : List Int) (l3 : List (List Int)) (l4 : List Int) : Option ((List (List Int)) × Bool) := (impl_in.f a1 1 16).bind fun t393 => (if t393 = true then ((impl_placesOk.f k l2 a1).bind fun t394 => (if t394 = true then (if (l3.length : Int) = (l2.length : Int) then ((impl_leavesOk.f a0 l3).bind fun t395 => (if t395 = true then ((impl_digests.f a0 l4).bind fun t396 => (impl_climbMany.j0 k a0 a1 l2 l3 l4 (!t396))) else (impl_climbMany.j0 k a0 a1 l2 l3 l4 true))) else (impl_climbMany.j0 k a0 a1 l2 l3 l4 true)) else (impl_climbMany.j0 k a0 a1 l2 l3 l4 true))) else (impl_climbMany.j0 k a0 a1 l2 l3 l4 true))
def mp_T8 : Bool × List (List Nat × List Nat) := (true, [([], []), ([], []), ([], []), ([1, 2], [1, 2]), ([3], [3]), ([], []), ([], []), ([], []), ([6, 7], [6, 7]), ([8], [8]), ([5, 9], [5, 9]), ([0, 4, 10, 10, 0, 1, 2, 3, 4, 5, 6, 7, 8, 9, 10], [0, 4, 10])])
def mp_B8 : List Nat := [0, 0, 0, 6, 14, 0, 0, 0, 192, 448, 992, 2047]
theorem mp_tab8 : rtab .any (opsOf Try.f89 8) = mp_T8 := by kernel_rfl
theorem mp_bits8 : waitsOk mp_T8.2 mp_B8 = true := by kernel_rfl
set_option maxHeartbeats 8000000 in
set_option maxRecDepth 100000 in
theorem impl_climbMany.calls (k : Nat) (a0 : Int) (a1 : Int) (P2_ : Nat → Prop) (A2 : Option Addr) (c2 : Nat) (l2 : List Int) (A3 : Option Addr) (c3 : Nat) (l3 : List (List Int)) (P4_ : Nat → Prop) (A4 : Option Addr) (c4 : Nat) (l4 : List Int) (r1 : List (List Int)) (r2 : Bool) (w : World) (hs2 : Kd.V (Kd.int .i64) 3 w w.heap.size (fun k_ => P2_ k_) (.slice A2 l2.length c2) l2) (hr3 : Kd.C (Kd.slice 5 (Kd.int .u8)) w A3 l3.length l3) (hc3 : l3.length ≤ c3) (hs4 : Kd.V (Kd.int .i64) 3 w w.heap.size (fun k_ => P4_ k_) (.slice A4 l4.length c4) l4) (h : impl_climbMany.f k a0 a1 l2 l3 l4 = some (r1, r2)) :
  Calls Try.prog 89 #[.int .i64 a0, .int .i64 a1, .slice A2 l2.length c2, .slice A3 l3.length c3, .slice A4 l4.length c4] w fun e w' => ∃ v0_ : Value, e = .returned (.tuple #[v0_, .bool r2]) ∧ Kd.S (Kd.slice 5 (Kd.int .u8)) 22 w' w.heap.size (fun k_ => (w.heap.size ≤ k_)) v0_ r1 ∧ Below w.heap.size w w' := by
 have HO2 := Aside0.mk (show Kd.V (Kd.int .i64) 3 w w.heap.size (fun k_ => ((P2_ k_ ∨ P4_ k_) ∨ w.heap.size ≤ k_)) (.slice A2 l2.length c2) l2 from Kd.V_mono hs2 (fun k_ hk => .inl (.inl hk)))
 have HR3 := Aside0.mk hr3
 have HC3 := Aside0.mk hc3
 clear hr3 hc3
 have HO4 := Aside0.mk (show Kd.V (Kd.int .i64) 3 w w.heap.size (fun k_ => ((P2_ k_ ∨ P4_ k_) ∨ w.heap.size ≤ k_)) (.slice A4 l4.length c4) l4 from Kd.V_mono hs4 (fun k_ hk => .inl (.inr hk)))
 have HB := Aside0.mk (Below.refl w.heap.size w)
 have H : ((impl_in.f a1 1 16).bind fun t393 => (if t393 = true then ((impl_placesOk.f k l2 a1).bind fun t394 => (if t394 = true then (if (l3.length : Int) = (l2.length : Int) then ((impl_leavesOk.f a0 l3).bind fun t395 => (if t395 = true then ((impl_digests.f a0 l4).bind fun t396 => (impl_climbMany.j0 k a0 a1 l2 l3 l4 (!t396))) else (impl_climbMany.j0 k a0 a1 l2 l3 l4 true))) else (impl_climbMany.j0 k a0 a1 l2 l3 l4 true)) else (impl_climbMany.j0 k a0 a1 l2 l3 l4 true))) else (impl_climbMany.j0 k a0 a1 l2 l3 l4 true))) = some (r1, r2) := h
 clear h
 have HC6 := Aside0.mk H
 clear H
 go_enter Try.func89, Try.ntmps89
 go_upto_region 1 with (fail)
 repeat (go_quiet (fail); go_upto_region 1 with (fail))
 go_cut [51] (fun v51 wc => ∃ (kq : Nat) (x51_5 : Bool), v51 = .bool x51_5 ∧ Aside0 (impl_climbMany.j0 kq a0 a1 l2 l3 l4 x51_5 = some (r1, r2)) ∧ Aside0 (kq ≤ k) ∧ Aside0 (Kd.V (Kd.int .i64) 3 wc w.heap.size (fun k_ => ((P2_ k_ ∨ P4_ k_) ∨ w.heap.size ≤ k_)) (.slice A2 l2.length c2) l2) ∧ Aside0 (Kd.V (Kd.int .i64) 3 wc w.heap.size (fun k_ => ((P2_ k_ ∨ P4_ k_) ∨ w.heap.size ≤ k_)) (.slice A4 l4.length c4) l4) ∧ Aside0 (Below w.heap.size w wc))
 case first =>
  have H := HC6.out
  clear HC6
  replace H := Option.bind_eq_some_iff.mp H
  obtain ⟨t393, A70, H⟩ := H
  (try dsimp -simprocs only at H)
  have A7 := Aside0.mk A70
  clear A70
  by_cases c8 : t393 = true
  ·subst c8
   rw [if_pos rfl] at H
   replace H := Option.bind_eq_some_iff.mp H
   obtain ⟨t394, A90, H⟩ := H
   (try dsimp -simprocs only at H)
   have A9 := Aside0.mk A90
   clear A90
   by_cases c10 : t394 = true
   ·subst c10
    rw [if_pos rfl] at H
    by_cases c11 : (l3.length : Int) = (l2.length : Int)
    ·rw [if_pos c11] at H
     have c11b0 : ((l3.length : Int) == (l2.length : Int)) = true := beq_iff_eq.mpr c11
     have c11b1 : ((l3.length : Int) != (l2.length : Int)) = false := bne_eq_false_iff_eq.mpr c11
     have c11b2 : (l3.length == l2.length) = true := by first | simpa using c11 | (simp at c11 ⊢; omega)
     clear c11
     (first | rw [c11b0] | (simp only [i64_w, i32_w]; rw [c11b0]) | skip)
     replace H := Option.bind_eq_some_iff.mp H
     obtain ⟨t395, A120, H⟩ := H
     (try dsimp -simprocs only at H)
     have A12 := Aside0.mk A120
     clear A120
     by_cases c13 : t395 = true
     ·subst c13
      rw [if_pos rfl] at H
      replace H := Option.bind_eq_some_iff.mp H
      obtain ⟨t396, A140, H⟩ := H
      (try dsimp -simprocs only at H)
      have A14 := Aside0.mk A140
      clear A140
      have H' := Aside0.mk H
      clear H
      go_wp2_with (first | (go_at_call 65; (with_reducible refine (impl_in.calls a1 1 16 true _ A7.out).mono ?_); rintro e w' ⟨rfl, ⟨nd, rfl⟩⟩; (try first | exact ⟨rfl, _, World.drewN_drewN _ _ _⟩ | exact ⟨rfl, _, Eq.trans (World.drewN_drewN _ _ _) (congrArg (World.drewN _) (Nat.add_assoc _ _ _))⟩)) | (go_at_call 93; (with_reducible refine (impl_placesOk.calls k _ _ l2 a1 true _ ?side1 ?side2 A9.out).mono ?_); (case side1 => exact cv ((Kd.V_reads' HO2.out).2.2)); (case side2 => exact (Kd.V_reads' HO2.out).2.1); rintro e w' ⟨rfl, ⟨nd, rfl⟩⟩; (try first | exact ⟨rfl, _, World.drewN_drewN _ _ _⟩ | exact ⟨rfl, _, Eq.trans (World.drewN_drewN _ _ _) (congrArg (World.drewN _) (Nat.add_assoc _ _ _))⟩)) | (go_at_call 63; (with_reducible refine (impl_leavesOk.calls a0 _ _ l3 true _ ?side1 ?side2 A12.out).mono ?_); (case side1 => exact cv ((Kd.C_below HR3.out (bt)))); (case side2 => exact HC3.out); rintro e w' ⟨rfl, ⟨nd, rfl⟩⟩; (try first | exact ⟨rfl, _, World.drewN_drewN _ _ _⟩ | exact ⟨rfl, _, Eq.trans (World.drewN_drewN _ _ _) (congrArg (World.drewN _) (Nat.add_assoc _ _ _))⟩)) | (go_at_call 105; (with_reducible refine (impl_digests.calls a0 _ _ l4 t396 _ ?side1 ?side2 A14.out).mono ?_); (case side1 => exact cv ((Kd.V_reads' HO4.out).2.2)); (case side2 => exact (Kd.V_reads' HO4.out).2.1); rintro e w15 ⟨rfl, hb⟩; (try (replace HM13 := Aside0.mk (MR_below (by (with_reducible repeat (first | apply MR_alloc | apply MR_drewN | apply MR_drew)); exact HM13.out) hb))); (try (replace HM17 := Aside0.mk (MR_below (by (with_reducible repeat (first | apply MR_alloc | apply MR_drewN | apply MR_drew)); exact HM17.out) hb))); replace HO2 := Aside0.mk (Kd.V_below (mv HO2.out) hb); replace HO4 := Aside0.mk (Kd.V_below (mv HO4.out) hb); replace HB := Aside0.mk (below_step (bt) hb); (try clear hb); (try clear hb2); (try clear hk); (try clear hi)))
      repeat (go_quiet (first | (go_at_call 65; (with_reducible refine (impl_in.calls a1 1 16 true _ A7.out).mono ?_); rintro e w' ⟨rfl, ⟨nd, rfl⟩⟩; (try first | exact ⟨rfl, _, World.drewN_drewN _ _ _⟩ | exact ⟨rfl, _, Eq.trans (World.drewN_drewN _ _ _) (congrArg (World.drewN _) (Nat.add_assoc _ _ _))⟩)) | (go_at_call 93; (with_reducible refine (impl_placesOk.calls k _ _ l2 a1 true _ ?side1 ?side2 A9.out).mono ?_); (case side1 => exact cv ((Kd.V_reads' HO2.out).2.2)); (case side2 => exact (Kd.V_reads' HO2.out).2.1); rintro e w' ⟨rfl, ⟨nd, rfl⟩⟩; (try first | exact ⟨rfl, _, World.drewN_drewN _ _ _⟩ | exact ⟨rfl, _, Eq.trans (World.drewN_drewN _ _ _) (congrArg (World.drewN _) (Nat.add_assoc _ _ _))⟩)) | (go_at_call 63; (with_reducible refine (impl_leavesOk.calls a0 _ _ l3 true _ ?side1 ?side2 A12.out).mono ?_); (case side1 => exact cv ((Kd.C_below HR3.out (bt)))); (case side2 => exact HC3.out); rintro e w' ⟨rfl, ⟨nd, rfl⟩⟩; (try first | exact ⟨rfl, _, World.drewN_drewN _ _ _⟩ | exact ⟨rfl, _, Eq.trans (World.drewN_drewN _ _ _) (congrArg (World.drewN _) (Nat.add_assoc _ _ _))⟩)) | (go_at_call 105; (with_reducible refine (impl_digests.calls a0 _ _ l4 t396 _ ?side1 ?side2 A14.out).mono ?_); (case side1 => exact cv ((Kd.V_reads' HO4.out).2.2)); (case side2 => exact (Kd.V_reads' HO4.out).2.1); rintro e w15 ⟨rfl, hb⟩; (try (replace HM13 := Aside0.mk (MR_below (by (with_reducible repeat (first | apply MR_alloc | apply MR_drewN | apply MR_drew)); exact HM13.out) hb))); (try (replace HM17 := Aside0.mk (MR_below (by (with_reducible repeat (first | apply MR_alloc | apply MR_drewN | apply MR_drew)); exact HM17.out) hb))); replace HO2 := Aside0.mk (Kd.V_below (mv HO2.out) hb); replace HO4 := Aside0.mk (Kd.V_below (mv HO4.out) hb); replace HB := Aside0.mk (below_step (bt) hb); (try clear hb); (try clear hb2); (try clear hk); (try clear hi))); try go_wp2_with (first | (go_at_call 65; (with_reducible refine (impl_in.calls a1 1 16 true _ A7.out).mono ?_); rintro e w' ⟨rfl, ⟨nd, rfl⟩⟩; (try first | exact ⟨rfl, _, World.drewN_drewN _ _ _⟩ | exact ⟨rfl, _, Eq.trans (World.drewN_drewN _ _ _) (congrArg (World.drewN _) (Nat.add_assoc _ _ _))⟩)) | (go_at_call 93; (with_reducible refine (impl_placesOk.calls k _ _ l2 a1 true _ ?side1 ?side2 A9.out).mono ?_); (case side1 => exact cv ((Kd.V_reads' HO2.out).2.2)); (case side2 => exact (Kd.V_reads' HO2.out).2.1); rintro e w' ⟨rfl, ⟨nd, rfl⟩⟩; (try first | exact ⟨rfl, _, World.drewN_drewN _ _ _⟩ | exact ⟨rfl, _, Eq.trans (World.drewN_drewN _ _ _) (congrArg (World.drewN _) (Nat.add_assoc _ _ _))⟩)) | (go_at_call 63; (with_reducible refine (impl_leavesOk.calls a0 _ _ l3 true _ ?side1 ?side2 A12.out).mono ?_); (case side1 => exact cv ((Kd.C_below HR3.out (bt)))); (case side2 => exact HC3.out); rintro e w' ⟨rfl, ⟨nd, rfl⟩⟩; (try first | exact ⟨rfl, _, World.drewN_drewN _ _ _⟩ | exact ⟨rfl, _, Eq.trans (World.drewN_drewN _ _ _) (congrArg (World.drewN _) (Nat.add_assoc _ _ _))⟩)) | (go_at_call 105; (with_reducible refine (impl_digests.calls a0 _ _ l4 t396 _ ?side1 ?side2 A14.out).mono ?_); (case side1 => exact cv ((Kd.V_reads' HO4.out).2.2)); (case side2 => exact (Kd.V_reads' HO4.out).2.1); rintro e w15 ⟨rfl, hb⟩; (try (replace HM13 := Aside0.mk (MR_below (by (with_reducible repeat (first | apply MR_alloc | apply MR_drewN | apply MR_drew)); exact HM13.out) hb))); (try (replace HM17 := Aside0.mk (MR_below (by (with_reducible repeat (first | apply MR_alloc | apply MR_drewN | apply MR_drew)); exact HM17.out) hb))); replace HO2 := Aside0.mk (Kd.V_below (mv HO2.out) hb); replace HO4 := Aside0.mk (Kd.V_below (mv HO4.out) hb); replace HB := Aside0.mk (below_step (bt) hb); (try clear hb); (try clear hb2); (try clear hk); (try clear hi))))
      go_meet
      case rel => exact ⟨_, (!t396), (by first | rfl | (simp; done) | (simp [*]; done)), H', ⟨by first | omega | exact Nat.le_refl _⟩, ⟨mv HO2.out⟩, ⟨mv HO4.out⟩, ⟨bt⟩⟩
     ·replace c13 := Bool.eq_false_iff.mpr c13
      subst c13
      rw [if_neg (show ¬ (false = true) by decide)] at H
      have H' := Aside0.mk H
      clear H
      go_wp2_with (first | (go_at_call 65; (with_reducible refine (impl_in.calls a1 1 16 true _ A7.out).mono ?_); rintro e w' ⟨rfl, ⟨nd, rfl⟩⟩; (try first | exact ⟨rfl, _, World.drewN_drewN _ _ _⟩ | exact ⟨rfl, _, Eq.trans (World.drewN_drewN _ _ _) (congrArg (World.drewN _) (Nat.add_assoc _ _ _))⟩)) | (go_at_call 93; (with_reducible refine (impl_placesOk.calls k _ _ l2 a1 true _ ?side1 ?side2 A9.out).mono ?_); (case side1 => exact cv ((Kd.V_reads' HO2.out).2.2)); (case side2 => exact (Kd.V_reads' HO2.out).2.1); rintro e w' ⟨rfl, ⟨nd, rfl⟩⟩; (try first | exact ⟨rfl, _, World.drewN_drewN _ _ _⟩ | exact ⟨rfl, _, Eq.trans (World.drewN_drewN _ _ _) (congrArg (World.drewN _) (Nat.add_assoc _ _ _))⟩)) | (go_at_call 63; (with_reducible refine (impl_leavesOk.calls a0 _ _ l3 false _ ?side1 ?side2 A12.out).mono ?_); (case side1 => exact cv ((Kd.C_below HR3.out (bt)))); (case side2 => exact HC3.out); rintro e w' ⟨rfl, ⟨nd, rfl⟩⟩; (try first | exact ⟨rfl, _, World.drewN_drewN _ _ _⟩ | exact ⟨rfl, _, Eq.trans (World.drewN_drewN _ _ _) (congrArg (World.drewN _) (Nat.add_assoc _ _ _))⟩)))
      repeat (go_quiet (first | (go_at_call 65; (with_reducible refine (impl_in.calls a1 1 16 true _ A7.out).mono ?_); rintro e w' ⟨rfl, ⟨nd, rfl⟩⟩; (try first | exact ⟨rfl, _, World.drewN_drewN _ _ _⟩ | exact ⟨rfl, _, Eq.trans (World.drewN_drewN _ _ _) (congrArg (World.drewN _) (Nat.add_assoc _ _ _))⟩)) | (go_at_call 93; (with_reducible refine (impl_placesOk.calls k _ _ l2 a1 true _ ?side1 ?side2 A9.out).mono ?_); (case side1 => exact cv ((Kd.V_reads' HO2.out).2.2)); (case side2 => exact (Kd.V_reads' HO2.out).2.1); rintro e w' ⟨rfl, ⟨nd, rfl⟩⟩; (try first | exact ⟨rfl, _, World.drewN_drewN _ _ _⟩ | exact ⟨rfl, _, Eq.trans (World.drewN_drewN _ _ _) (congrArg (World.drewN _) (Nat.add_assoc _ _ _))⟩)) | (go_at_call 63; (with_reducible refine (impl_leavesOk.calls a0 _ _ l3 false _ ?side1 ?side2 A12.out).mono ?_); (case side1 => exact cv ((Kd.C_below HR3.out (bt)))); (case side2 => exact HC3.out); rintro e w' ⟨rfl, ⟨nd, rfl⟩⟩; (try first | exact ⟨rfl, _, World.drewN_drewN _ _ _⟩ | exact ⟨rfl, _, Eq.trans (World.drewN_drewN _ _ _) (congrArg (World.drewN _) (Nat.add_assoc _ _ _))⟩))); try go_wp2_with (first | (go_at_call 65; (with_reducible refine (impl_in.calls a1 1 16 true _ A7.out).mono ?_); rintro e w' ⟨rfl, ⟨nd, rfl⟩⟩; (try first | exact ⟨rfl, _, World.drewN_drewN _ _ _⟩ | exact ⟨rfl, _, Eq.trans (World.drewN_drewN _ _ _) (congrArg (World.drewN _) (Nat.add_assoc _ _ _))⟩)) | (go_at_call 93; (with_reducible refine (impl_placesOk.calls k _ _ l2 a1 true _ ?side1 ?side2 A9.out).mono ?_); (case side1 => exact cv ((Kd.V_reads' HO2.out).2.2)); (case side2 => exact (Kd.V_reads' HO2.out).2.1); rintro e w' ⟨rfl, ⟨nd, rfl⟩⟩; (try first | exact ⟨rfl, _, World.drewN_drewN _ _ _⟩ | exact ⟨rfl, _, Eq.trans (World.drewN_drewN _ _ _) (congrArg (World.drewN _) (Nat.add_assoc _ _ _))⟩)) | (go_at_call 63; (with_reducible refine (impl_leavesOk.calls a0 _ _ l3 false _ ?side1 ?side2 A12.out).mono ?_); (case side1 => exact cv ((Kd.C_below HR3.out (bt)))); (case side2 => exact HC3.out); rintro e w' ⟨rfl, ⟨nd, rfl⟩⟩; (try first | exact ⟨rfl, _, World.drewN_drewN _ _ _⟩ | exact ⟨rfl, _, Eq.trans (World.drewN_drewN _ _ _) (congrArg (World.drewN _) (Nat.add_assoc _ _ _))⟩))))
      go_meet
      case rel => exact ⟨_, (true), (by first | rfl | (simp; done) | (simp [*]; done)), H', ⟨by first | omega | exact Nat.le_refl _⟩, ⟨mv HO2.out⟩, ⟨mv HO4.out⟩, ⟨bt⟩⟩
    ·rw [if_neg c11] at H
     have c11b0 : ((l3.length : Int) == (l2.length : Int)) = false := beq_eq_false_iff_ne.mpr c11
     have c11b1 : ((l3.length : Int) != (l2.length : Int)) = true := bne_iff_ne.mpr c11
     have c11b2 : (l3.length == l2.length) = false := by first | simpa using c11 | (simp at c11 ⊢; omega)
     (first | rw [c11b0] | (simp only [i64_w, i32_w]; rw [c11b0]) | skip)
     have H' := Aside0.mk H
     clear H
     go_wp2_with (first | (go_at_call 65; (with_reducible refine (impl_in.calls a1 1 16 true _ A7.out).mono ?_); rintro e w' ⟨rfl, ⟨nd, rfl⟩⟩; (try first | exact ⟨rfl, _, World.drewN_drewN _ _ _⟩ | exact ⟨rfl, _, Eq.trans (World.drewN_drewN _ _ _) (congrArg (World.drewN _) (Nat.add_assoc _ _ _))⟩)) | (go_at_call 93; (with_reducible refine (impl_placesOk.calls k _ _ l2 a1 true _ ?side1 ?side2 A9.out).mono ?_); (case side1 => exact cv ((Kd.V_reads' HO2.out).2.2)); (case side2 => exact (Kd.V_reads' HO2.out).2.1); rintro e w' ⟨rfl, ⟨nd, rfl⟩⟩; (try first | exact ⟨rfl, _, World.drewN_drewN _ _ _⟩ | exact ⟨rfl, _, Eq.trans (World.drewN_drewN _ _ _) (congrArg (World.drewN _) (Nat.add_assoc _ _ _))⟩)))
     repeat (go_quiet (first | (go_at_call 65; (with_reducible refine (impl_in.calls a1 1 16 true _ A7.out).mono ?_); rintro e w' ⟨rfl, ⟨nd, rfl⟩⟩; (try first | exact ⟨rfl, _, World.drewN_drewN _ _ _⟩ | exact ⟨rfl, _, Eq.trans (World.drewN_drewN _ _ _) (congrArg (World.drewN _) (Nat.add_assoc _ _ _))⟩)) | (go_at_call 93; (with_reducible refine (impl_placesOk.calls k _ _ l2 a1 true _ ?side1 ?side2 A9.out).mono ?_); (case side1 => exact cv ((Kd.V_reads' HO2.out).2.2)); (case side2 => exact (Kd.V_reads' HO2.out).2.1); rintro e w' ⟨rfl, ⟨nd, rfl⟩⟩; (try first | exact ⟨rfl, _, World.drewN_drewN _ _ _⟩ | exact ⟨rfl, _, Eq.trans (World.drewN_drewN _ _ _) (congrArg (World.drewN _) (Nat.add_assoc _ _ _))⟩))); try go_wp2_with (first | (go_at_call 65; (with_reducible refine (impl_in.calls a1 1 16 true _ A7.out).mono ?_); rintro e w' ⟨rfl, ⟨nd, rfl⟩⟩; (try first | exact ⟨rfl, _, World.drewN_drewN _ _ _⟩ | exact ⟨rfl, _, Eq.trans (World.drewN_drewN _ _ _) (congrArg (World.drewN _) (Nat.add_assoc _ _ _))⟩)) | (go_at_call 93; (with_reducible refine (impl_placesOk.calls k _ _ l2 a1 true _ ?side1 ?side2 A9.out).mono ?_); (case side1 => exact cv ((Kd.V_reads' HO2.out).2.2)); (case side2 => exact (Kd.V_reads' HO2.out).2.1); rintro e w' ⟨rfl, ⟨nd, rfl⟩⟩; (try first | exact ⟨rfl, _, World.drewN_drewN _ _ _⟩ | exact ⟨rfl, _, Eq.trans (World.drewN_drewN _ _ _) (congrArg (World.drewN _) (Nat.add_assoc _ _ _))⟩))))
     go_meet
     case rel => exact ⟨_, (true), (by first | rfl | (simp; done) | (simp [*]; done)), H', ⟨by first | omega | exact Nat.le_refl _⟩, ⟨mv HO2.out⟩, ⟨mv HO4.out⟩, ⟨bt⟩⟩
   ·replace c10 := Bool.eq_false_iff.mpr c10
    subst c10
    rw [if_neg (show ¬ (false = true) by decide)] at H
    have H' := Aside0.mk H
    clear H
    go_wp2_with (first | (go_at_call 65; (with_reducible refine (impl_in.calls a1 1 16 true _ A7.out).mono ?_); rintro e w' ⟨rfl, ⟨nd, rfl⟩⟩; (try first | exact ⟨rfl, _, World.drewN_drewN _ _ _⟩ | exact ⟨rfl, _, Eq.trans (World.drewN_drewN _ _ _) (congrArg (World.drewN _) (Nat.add_assoc _ _ _))⟩)) | (go_at_call 93; (with_reducible refine (impl_placesOk.calls k _ _ l2 a1 false _ ?side1 ?side2 A9.out).mono ?_); (case side1 => exact cv ((Kd.V_reads' HO2.out).2.2)); (case side2 => exact (Kd.V_reads' HO2.out).2.1); rintro e w' ⟨rfl, ⟨nd, rfl⟩⟩; (try first | exact ⟨rfl, _, World.drewN_drewN _ _ _⟩ | exact ⟨rfl, _, Eq.trans (World.drewN_drewN _ _ _) (congrArg (World.drewN _) (Nat.add_assoc _ _ _))⟩)))
    repeat (go_quiet (first | (go_at_call 65; (with_reducible refine (impl_in.calls a1 1 16 true _ A7.out).mono ?_); rintro e w' ⟨rfl, ⟨nd, rfl⟩⟩; (try first | exact ⟨rfl, _, World.drewN_drewN _ _ _⟩ | exact ⟨rfl, _, Eq.trans (World.drewN_drewN _ _ _) (congrArg (World.drewN _) (Nat.add_assoc _ _ _))⟩)) | (go_at_call 93; (with_reducible refine (impl_placesOk.calls k _ _ l2 a1 false _ ?side1 ?side2 A9.out).mono ?_); (case side1 => exact cv ((Kd.V_reads' HO2.out).2.2)); (case side2 => exact (Kd.V_reads' HO2.out).2.1); rintro e w' ⟨rfl, ⟨nd, rfl⟩⟩; (try first | exact ⟨rfl, _, World.drewN_drewN _ _ _⟩ | exact ⟨rfl, _, Eq.trans (World.drewN_drewN _ _ _) (congrArg (World.drewN _) (Nat.add_assoc _ _ _))⟩))); try go_wp2_with (first | (go_at_call 65; (with_reducible refine (impl_in.calls a1 1 16 true _ A7.out).mono ?_); rintro e w' ⟨rfl, ⟨nd, rfl⟩⟩; (try first | exact ⟨rfl, _, World.drewN_drewN _ _ _⟩ | exact ⟨rfl, _, Eq.trans (World.drewN_drewN _ _ _) (congrArg (World.drewN _) (Nat.add_assoc _ _ _))⟩)) | (go_at_call 93; (with_reducible refine (impl_placesOk.calls k _ _ l2 a1 false _ ?side1 ?side2 A9.out).mono ?_); (case side1 => exact cv ((Kd.V_reads' HO2.out).2.2)); (case side2 => exact (Kd.V_reads' HO2.out).2.1); rintro e w' ⟨rfl, ⟨nd, rfl⟩⟩; (try first | exact ⟨rfl, _, World.drewN_drewN _ _ _⟩ | exact ⟨rfl, _, Eq.trans (World.drewN_drewN _ _ _) (congrArg (World.drewN _) (Nat.add_assoc _ _ _))⟩))))
    go_meet
    case rel => exact ⟨_, (true), (by first | rfl | (simp; done) | (simp [*]; done)), H', ⟨by first | omega | exact Nat.le_refl _⟩, ⟨mv HO2.out⟩, ⟨mv HO4.out⟩, ⟨bt⟩⟩
  ·replace c8 := Bool.eq_false_iff.mpr c8
   subst c8
   rw [if_neg (show ¬ (false = true) by decide)] at H
   have H' := Aside0.mk H
   clear H
   go_wp2_with (first | (go_at_call 65; (with_reducible refine (impl_in.calls a1 1 16 false _ A7.out).mono ?_); rintro e w' ⟨rfl, ⟨nd, rfl⟩⟩; (try first | exact ⟨rfl, _, World.drewN_drewN _ _ _⟩ | exact ⟨rfl, _, Eq.trans (World.drewN_drewN _ _ _) (congrArg (World.drewN _) (Nat.add_assoc _ _ _))⟩)))
   repeat (go_quiet (first | (go_at_call 65; (with_reducible refine (impl_in.calls a1 1 16 false _ A7.out).mono ?_); rintro e w' ⟨rfl, ⟨nd, rfl⟩⟩; (try first | exact ⟨rfl, _, World.drewN_drewN _ _ _⟩ | exact ⟨rfl, _, Eq.trans (World.drewN_drewN _ _ _) (congrArg (World.drewN _) (Nat.add_assoc _ _ _))⟩))); try go_wp2_with (first | (go_at_call 65; (with_reducible refine (impl_in.calls a1 1 16 false _ A7.out).mono ?_); rintro e w' ⟨rfl, ⟨nd, rfl⟩⟩; (try first | exact ⟨rfl, _, World.drewN_drewN _ _ _⟩ | exact ⟨rfl, _, Eq.trans (World.drewN_drewN _ _ _) (congrArg (World.drewN _) (Nat.add_assoc _ _ _))⟩))))
   go_meet
   case rel => exact ⟨_, (true), (by first | rfl | (simp; done) | (simp [*]; done)), H', ⟨by first | omega | exact Nat.le_refl _⟩, ⟨mv HO2.out⟩, ⟨mv HO4.out⟩, ⟨bt⟩⟩
 case rest =>
  clear HC6
  try clear c1
  try clear c2
  try clear p2
  try clear c3
  try clear c4
  try clear c8
  try clear c10
  try clear c11
  try clear c11b0
  try clear c11b1
  try clear c11b2
  try clear c13
  obtain ⟨kq, x51_5, rfl, HA, HJ5, HO_2, HO_4, HB⟩ := hcut
  cases kq with
  | zero => exact absurd HA.out (by simp [impl_climbMany.j0])
  | succ kj5 =>
   have H := HA.out
   clear HA
   simp only [impl_climbMany.j0] at H
   by_cases c16 : x51_5 = true
   ·subst c16
    rw [if_pos rfl] at H
    simp only [Option.some.injEq, Prod.mk.injEq] at H
    obtain ⟨rfl, rfl⟩ := H
    go_wp2
    repeat (go_quiet (fail); try go_wp2)
    go_ret2
    exact ⟨_, by first | rfl | (simp [errW_none, errW_some] <;> rfl) | (simp [*, errW_none, errW_some] <;> rfl), by first | exact Kd.S_nil _ _ _ _ _ | exact Kd.N_nil _ _ _ _ _ | exact Kd.V_nil _ _ _ _ _ | exact Kd.Q_nil _ _ _ _ _ | exact Kd.R_nil _ _ _ _ _, bt⟩
   ·replace c16 := Bool.eq_false_iff.mpr c16
    subst c16
    rw [if_neg (show ¬ (false = true) by decide)] at H
    obtain ⟨y397, hy397⟩ : ∃ y_ : List (List Int), y_ = (([] : List (List Int))) := ⟨_, rfl⟩
    replace H : ((fake_mp_new.f).bind fun t400 => (impl_climbMany.l0 kj5 a0 a1 l2 l4 y397 t400 l3 (l3.length : Int) 0)) = some (r1, r2) := by first | (rw [hy397]; exact H) | exact H
    have Ny397 := Aside0.mk hy397
    clear hy397
    replace H := Option.bind_eq_some_iff.mp H
    obtain ⟨t400, A170, H⟩ := H
    (try dsimp -simprocs only at H)
    have A17 := Aside0.mk A170
    clear A170
    have H' := Aside0.mk H
    clear H
    go_wp2_with (first | ((with_reducible refine gate_dst (N := 52) rfl ?_); (try (refine gate_guard (by rfl) ?_; dsimp only)); refine Kd.S_lit (Kd.slice 5 (Kd.int .u8)) _ 22 ?hg (N := 52) ?hd (xs := ([] : List (List Int))) (inner := []) (ok := fun _ => True) (okp := fun _ => True) ?hr ?hp (fun _ hk => hk) trivial (Below.refl _ _) (Nat.le_refl _) (by simp) ?_; (case hd => rfl); (case hg => rfl); (case hr => first | (go_simp; done) | (go_simp; rfl)); (case hp => exact (Reps.none _ _)); intro v398 w18 ho19 hb hg_ hnew_; (try (replace HM13 := Aside0.mk (MR_below (by (with_reducible repeat (first | apply MR_alloc | apply MR_drewN | apply MR_drew)); exact HM13.out) hb))); (try (replace HM17 := Aside0.mk (MR_below (by (with_reducible repeat (first | apply MR_alloc | apply MR_drewN | apply MR_drew)); exact HM17.out) hb))); clear hg_ hnew_; (first | rw [← Ny397.out] at ho19 | (simp only [Int.reduceToNat] at ho19; rw [← Ny397.out] at ho19)); replace HO_2 := Aside0.mk (Kd.V_elder' (mv HO_2.out) (Kd.S_base ho19) hb); replace HO_4 := Aside0.mk (Kd.V_elder' (mv HO_4.out) (Kd.S_base ho19) hb); have HO399 := Aside0.mk (Kd.S_lower (Kd.S_newM (M := fun k_ => (w.heap.size ≤ k_)) ho19 (below_size (bt)) (fun k_ h_ => h_)) (below_size (bt))); replace HB := Aside0.mk (below_step (bt) hb); clear hb ho19) | ((with_reducible refine gate_dst (N := 53) rfl ?_); refine wp_mnew rfl rfl rfl w.heap.size (below_size (bt)) ?_; intro b13 wm hbn_ hM_ hb hne_; obtain rfl := Option.some.inj A17.out; (try (replace HO_2 := Aside0.mk (Kd.V_below (mv HO_2.out) hb))); (try (replace HO_4 := Aside0.mk (Kd.V_below (mv HO_4.out) hb))); (try (replace HO_12 := Aside0.mk (Kd.S_below (mv HO_12.out) hb))); (try (replace HO399 := Aside0.mk (Kd.S_below (mv HO399.out) hb))); replace HB := Aside0.mk (below_step (bt) hb); have HM13 := Aside0.mk hM_; clear hM_ hb hne_; clear hbn_))
    repeat (go_quiet (first | ((with_reducible refine gate_dst (N := 52) rfl ?_); (try (refine gate_guard (by rfl) ?_; dsimp only)); refine Kd.S_lit (Kd.slice 5 (Kd.int .u8)) _ 22 ?hg (N := 52) ?hd (xs := ([] : List (List Int))) (inner := []) (ok := fun _ => True) (okp := fun _ => True) ?hr ?hp (fun _ hk => hk) trivial (Below.refl _ _) (Nat.le_refl _) (by simp) ?_; (case hd => rfl); (case hg => rfl); (case hr => first | (go_simp; done) | (go_simp; rfl)); (case hp => exact (Reps.none _ _)); intro v398 w18 ho19 hb hg_ hnew_; (try (replace HM13 := Aside0.mk (MR_below (by (with_reducible repeat (first | apply MR_alloc | apply MR_drewN | apply MR_drew)); exact HM13.out) hb))); (try (replace HM17 := Aside0.mk (MR_below (by (with_reducible repeat (first | apply MR_alloc | apply MR_drewN | apply MR_drew)); exact HM17.out) hb))); clear hg_ hnew_; (first | rw [← Ny397.out] at ho19 | (simp only [Int.reduceToNat] at ho19; rw [← Ny397.out] at ho19)); replace HO_2 := Aside0.mk (Kd.V_elder' (mv HO_2.out) (Kd.S_base ho19) hb); replace HO_4 := Aside0.mk (Kd.V_elder' (mv HO_4.out) (Kd.S_base ho19) hb); have HO399 := Aside0.mk (Kd.S_lower (Kd.S_newM (M := fun k_ => (w.heap.size ≤ k_)) ho19 (below_size (bt)) (fun k_ h_ => h_)) (below_size (bt))); replace HB := Aside0.mk (below_step (bt) hb); clear hb ho19) | ((with_reducible refine gate_dst (N := 53) rfl ?_); refine wp_mnew rfl rfl rfl w.heap.size (below_size (bt)) ?_; intro b13 wm hbn_ hM_ hb hne_; obtain rfl := Option.some.inj A17.out; (try (replace HO_2 := Aside0.mk (Kd.V_below (mv HO_2.out) hb))); (try (replace HO_4 := Aside0.mk (Kd.V_below (mv HO_4.out) hb))); (try (replace HO_12 := Aside0.mk (Kd.S_below (mv HO_12.out) hb))); (try (replace HO399 := Aside0.mk (Kd.S_below (mv HO399.out) hb))); replace HB := Aside0.mk (below_step (bt) hb); have HM13 := Aside0.mk hM_; clear hM_ hb hne_; clear hbn_)); try go_wp2_with (first | ((with_reducible refine gate_dst (N := 52) rfl ?_); (try (refine gate_guard (by rfl) ?_; dsimp only)); refine Kd.S_lit (Kd.slice 5 (Kd.int .u8)) _ 22 ?hg (N := 52) ?hd (xs := ([] : List (List Int))) (inner := []) (ok := fun _ => True) (okp := fun _ => True) ?hr ?hp (fun _ hk => hk) trivial (Below.refl _ _) (Nat.le_refl _) (by simp) ?_; (case hd => rfl); (case hg => rfl); (case hr => first | (go_simp; done) | (go_simp; rfl)); (case hp => exact (Reps.none _ _)); intro v398 w18 ho19 hb hg_ hnew_; (try (replace HM13 := Aside0.mk (MR_below (by (with_reducible repeat (first | apply MR_alloc | apply MR_drewN | apply MR_drew)); exact HM13.out) hb))); (try (replace HM17 := Aside0.mk (MR_below (by (with_reducible repeat (first | apply MR_alloc | apply MR_drewN | apply MR_drew)); exact HM17.out) hb))); clear hg_ hnew_; (first | rw [← Ny397.out] at ho19 | (simp only [Int.reduceToNat] at ho19; rw [← Ny397.out] at ho19)); replace HO_2 := Aside0.mk (Kd.V_elder' (mv HO_2.out) (Kd.S_base ho19) hb); replace HO_4 := Aside0.mk (Kd.V_elder' (mv HO_4.out) (Kd.S_base ho19) hb); have HO399 := Aside0.mk (Kd.S_lower (Kd.S_newM (M := fun k_ => (w.heap.size ≤ k_)) ho19 (below_size (bt)) (fun k_ h_ => h_)) (below_size (bt))); replace HB := Aside0.mk (below_step (bt) hb); clear hb ho19) | ((with_reducible refine gate_dst (N := 53) rfl ?_); refine wp_mnew rfl rfl rfl w.heap.size (below_size (bt)) ?_; intro b13 wm hbn_ hM_ hb hne_; obtain rfl := Option.some.inj A17.out; (try (replace HO_2 := Aside0.mk (Kd.V_below (mv HO_2.out) hb))); (try (replace HO_4 := Aside0.mk (Kd.V_below (mv HO_4.out) hb))); (try (replace HO_12 := Aside0.mk (Kd.S_below (mv HO_12.out) hb))); (try (replace HO399 := Aside0.mk (Kd.S_below (mv HO399.out) hb))); replace HB := Aside0.mk (below_step (bt) hb); have HM13 := Aside0.mk hM_; clear hM_ hb hne_; clear hbn_)))
    go_loopg [12, 56] kj5 (fun kq v12 v56 w' => ∃ (x12_2 : List (List Int)) (x13_2 : Mp) (x56_2 : Int), v56 = .int .i64 x56_2 ∧ Aside0 (impl_climbMany.l0 kq a0 a1 l2 l4 x12_2 x13_2 l3 (l3.length : Int) x56_2 = some (r1, r2)) ∧ Aside0 (kq ≤ kj5) ∧ Aside0 (Kd.V (Kd.int .i64) 3 w' w.heap.size (fun k_ => ((P2_ k_ ∨ P4_ k_) ∨ w.heap.size ≤ k_) ∧ some k_ ≠ (v12 : Value).ownBlock) (.slice A2 l2.length c2) l2) ∧ Aside0 (Kd.V (Kd.int .i64) 3 w' w.heap.size (fun k_ => ((P2_ k_ ∨ P4_ k_) ∨ w.heap.size ≤ k_) ∧ some k_ ≠ (v12 : Value).ownBlock) (.slice A4 l4.length c4) l4) ∧ Aside0 (Kd.S (Kd.slice 5 (Kd.int .u8)) 22 w' w.heap.size (fun k_ => (w.heap.size ≤ k_)) v12 x12_2) ∧ Aside0 (Below w.heap.size w w') ∧ Aside0 (MR w' w.heap.size b13 x13_2))
    case atStart => exact ⟨(y397), _, (0), (by first | rfl | (simp; done) | (simp [*]; done)), H', ⟨Nat.le_refl _⟩, ⟨mv HO_2.out⟩, ⟨mv HO_4.out⟩, ⟨by (with_reducible repeat (first | apply Kd.S_alloc | apply Kd.S_drewN | apply Kd.S_drew)); exact Kd.S_mono HO399.out (fun _ hk => hk.1)⟩, ⟨bt⟩, ⟨(by (with_reducible repeat (first | apply MR_alloc | apply MR_drewN | apply MR_drew)); exact HM13.out)⟩⟩
    case round =>
     clear H'
     try clear c1
     try clear c2
     try clear p2
     try clear c3
     try clear c4
     try clear c8
     try clear c10
     try clear c11
     try clear c11b0
     try clear c11b1
     try clear c11b2
     try clear c13
     try clear c16
     try clear p2
     obtain ⟨x12_2, x13_2, x56_2, rfl, HA, HK2, HO_2, HO_4, HO_12, HB, HM13⟩ := hrel
     cases gk with
     | zero => exact absurd HA.out (by simp [impl_climbMany.l0])
     | succ k2 =>
      have H := HA.out
      clear HA
      simp only [impl_climbMany.l0] at H
      by_cases c20 : x56_2 < (l3.length : Int)
      ·rw [if_pos c20] at H
       have c20b0 : decide (x56_2 < (l3.length : Int)) = true := decide_eq_true c20
       clear c20
       by_cases c21 : 0 ≤ x56_2
       ·rw [if_pos c21] at H
        have c21b0 : decide (0 ≤ x56_2) = true := decide_eq_true c21
        clear c21
        by_cases c22 : x56_2 < (l3.length : Int)
        ·rw [if_pos c22] at H
         have c22b0 : decide (x56_2 < (l3.length : Int)) = true := decide_eq_true c22
         clear c22
         replace H := Option.bind_eq_some_iff.mp H
         obtain ⟨t402, A230, H⟩ := H
         (try dsimp -simprocs only at H)
         have A23 := Aside0.mk A230
         clear A230
         by_cases c24 : x12_2.length < 5864062014805
         ·rw [if_pos c24] at H
          have LMc24 := Aside0.mk c24
          clear c24
          obtain ⟨y405, hy405⟩ : ∃ y_ : List (List Int), y_ = (x12_2 ++ [t402]) := ⟨_, rfl⟩
          replace H : (if x56_2 < (l2.length : Int) then (if x56_2 < (y405.length : Int) then ((impl_Digest.f a0 (rd_L2 y405 x56_2)).bind fun t410 => ((fake_mp_put.f x13_2 (rd l2 x56_2) t410).bind fun t411 => (impl_climbMany.l0 k2 a0 a1 l2 l4 y405 t411 l3 (l3.length : Int) (wrap64 (x56_2 + 1))))) else (none)) else (none)) = some (r1, r2) := by first | (rw [hy405]; exact H) | exact H
          have Ny405 := Aside0.mk hy405
          clear hy405
          by_cases c25 : x56_2 < (l2.length : Int)
          ·rw [if_pos c25] at H
           have c25b0 : decide (x56_2 < (l2.length : Int)) = true := decide_eq_true c25
           clear c25
           by_cases c26 : x56_2 < (y405.length : Int)
           ·rw [if_pos c26] at H
            have c26b0 : decide (x56_2 < (y405.length : Int)) = true := decide_eq_true c26
            clear c26
            replace H := Option.bind_eq_some_iff.mp H
            obtain ⟨t410, A270, H⟩ := H
            (try dsimp -simprocs only at H)
            have A27 := Aside0.mk A270
            clear A270
            replace H := Option.bind_eq_some_iff.mp H
            obtain ⟨t411, A280, H⟩ := H
            (try dsimp -simprocs only at H)
            have A28 := Aside0.mk A280
            clear A280
            have H' := Aside0.mk H
            clear H
            have p401 : 0 ≤ (x56_2 : Int) := of_decide_eq_true asm
            have q401 : x56_2 < (l3.length : Int) := of_decide_eq_true asm
            obtain ⟨ad401, A401_0, c401_0, e401, hx401_0, hl401_0, hi401_0⟩ := at_L2 HR3.out x56_2 p401 q401
            cases e401
            replace hx401_0 := (HB.out.cell (World.block_lt_of_cell? w _ hx401_0)).trans hx401_0
            have HR401_0 := Aside0.mk hi401_0
            have HC401_0 := Aside0.mk hl401_0
            clear hi401_0 hl401_0
            replace p401 := eq_true p401
            replace q401 := eq_true q401
            go_upto_region 8 with (first | (go_at_call 70; (with_reducible refine (impl_leafInput.calls _ _ (rd_L2 l3 x56_2) t402 _ ?side1 ?side2 A23.out).mono ?_); (case side1 => exact cv ((Kd.C_below HR401_0.out HB.out))); (case side2 => exact HC401_0.out); rintro e w29 ⟨v403, rfl, ho0, hb⟩; (try (replace HM13 := Aside0.mk (MR_below (by (with_reducible repeat (first | apply MR_alloc | apply MR_drewN | apply MR_drew)); exact HM13.out) hb))); (try (replace HM17 := Aside0.mk (MR_below (by (with_reducible repeat (first | apply MR_alloc | apply MR_drewN | apply MR_drew)); exact HM17.out) hb))); replace HO_2 := Aside0.mk (Kd.V_elder' (mv HO_2.out) (Kd.R_base ho0) hb); replace HO_4 := Aside0.mk (Kd.V_elder' (mv HO_4.out) (Kd.R_base ho0) hb); replace HO_12 := Aside0.mk (Kd.S_elder' (mv HO_12.out) (Kd.R_base ho0) hb); have HO404 := Aside0.mk (Kd.R_lower (Kd.R_newM (M := fun k_ => (w.heap.size ≤ k_)) ho0 (below_size (bt)) (fun k_ h_ => h_)) (below_size (bt))); replace HB := Aside0.mk (below_step (bt) hb); (try clear hb); (try clear hb2); (try clear hk); (try clear hi); (try clear ho0); obtain ⟨Ao31, co31, eo31⟩ := Kd.R_slice HO404.out; subst eo31) | ((with_reducible refine gate_builtin (b := .append) (xs := #[.tmp 61, .tmp 64]) rfl ?_); (try (refine gate_guard (by rfl) ?_; dsimp only)); at_builtin; refine Kd.S_append (Kd.slice 5 (Kd.int .u8)) (w0 := w) w.heap.size rfl (.tmp 61) (.tmp 64) 30 22 (.slice none 0 0) 24 rfl Try.underlying30 info22 rfl (by decide) (by omega) u12 x12_2 t402 [.slice Ao31 t402.length co31] (fun k_ => (w.heap.size ≤ k_)) (fun k_ => some k_ = (.slice Ao31 t402.length co31 : Value).ownBlock) rfl rfl ?aP (fun k_ hk_ => ((Kd.R_mono (ok' := fun k_ => ((fun k_ => (w.heap.size ≤ k_))) k_ ∧ some k_ ≠ (u12 : Value).ownBlock) (Kd.R_apart' (HO404.out) (Kd.S_typed HO_12.out) (by decide)) (fun k_ hk => ⟨hk.1.1, hk.2⟩))).1 k_ hk_.symm) ?aF ?aO ?aB ?aS ?aL ?_; (case aP => exact Kd.M_row (Kd.R_mono (Kd.R_tight rfl (Kd.R_mono (ok' := fun k_ => ((fun k_ => (w.heap.size ≤ k_))) k_ ∧ some k_ ≠ (u12 : Value).ownBlock) (Kd.R_apart' (HO404.out) (Kd.S_typed HO_12.out) (by decide)) (fun k_ hk => ⟨hk.1.1, hk.2⟩))) (fun _ h_ => h_))); (case aB => exact (bt)); (case aF => exact (fun k_ hk => (Nat.le_trans (below_size (bt)) hk))); (case aO => exact (by (with_reducible repeat (first | apply Kd.S_alloc | apply Kd.S_drewN | apply Kd.S_drew)); exact Kd.S_mono HO_12.out (fun k_ hk => ⟨hk.1, fun e_ => hk.2 e_⟩))); (case aS => exact (below_size (bt))); (case aL => have := LMc24.out; omega); intro v406 w30 ho hb hg hat; (try (replace HM13 := Aside0.mk (MR_grown (by (with_reducible repeat (first | apply MR_alloc | apply MR_drewN | apply MR_drew)); exact HM13.out) hg (MR_ne HM13.out (Kd.S_typed (by (with_reducible repeat (first | apply Kd.S_alloc | apply Kd.S_drewN | apply Kd.S_drew)); exact HO_12.out)))))); (try (replace HM17 := Aside0.mk (MR_grown (by (with_reducible repeat (first | apply MR_alloc | apply MR_drewN | apply MR_drew)); exact HM17.out) hg (MR_ne HM17.out (Kd.S_typed (by (with_reducible repeat (first | apply Kd.S_alloc | apply Kd.S_drewN | apply Kd.S_drew)); exact HO_12.out)))))); rw [← Ny405.out] at ho; replace HO_2 := Aside0.mk (Kd.V_afterv (ok := (fun k_ => ((P2_ k_ ∨ P4_ k_) ∨ w.heap.size ≤ k_) ∧ some k_ ≠ (.slice Ao31 t402.length co31 : Value).ownBlock)) (by (with_reducible repeat (first | apply Kd.V_alloc | apply Kd.V_drewN | apply Kd.V_drew)); exact Kd.V_mono HO_2.out (fun _ hk => ⟨⟨hk.1.1, hk.2⟩, hk.1.2⟩)) hg hat); replace HO_4 := Aside0.mk (Kd.V_afterv (ok := (fun k_ => ((P2_ k_ ∨ P4_ k_) ∨ w.heap.size ≤ k_) ∧ some k_ ≠ (.slice Ao31 t402.length co31 : Value).ownBlock)) (by (with_reducible repeat (first | apply Kd.V_alloc | apply Kd.V_drewN | apply Kd.V_drew)); exact Kd.V_mono HO_4.out (fun _ hk => ⟨⟨hk.1.1, hk.2⟩, hk.1.2⟩)) hg hat); replace HB := Aside0.mk (hb); have HO407 := Aside0.mk (ho); clear HO_12 HO404; clear ho hb hg hat; have p408 : 0 ≤ (x56_2 : Int) := of_decide_eq_true asm; have q408 : x56_2 < (l2.length : Int) := of_decide_eq_true asm; obtain ⟨ad408, e408, hx408_0⟩ := Kd.at_int (Kd.V_reads' HO_2.out).2.2 x56_2 p408 q408; cases e408; replace p408 := eq_true p408; replace q408 := eq_true q408; obtain ⟨Ao32, co32, eo32⟩ := Kd.S_slice HO407.out; subst eo32; have p409 : 0 ≤ (x56_2 : Int) := of_decide_eq_true asm; have q409 : x56_2 < (y405.length : Int) := of_decide_eq_true asm; obtain ⟨ad409, A409_0, c409_0, e409, hx409_0, hl409_0, hi409_0⟩ := at_L2 (Kd.S_reads' HO407.out).2.2 x56_2 p409 q409; cases e409; obtain ⟨ce409, hce409, hMe409, hcc409⟩ := Kd.S_get HO407.out [] x56_2 p409 (by first | exact q409 | exact of_decide_eq_true asm | (have e_ := (Kd.S_reads' HO407.out).1; omega)); obtain ⟨ve409_0, rfl, ge409_0⟩ := hMe409; have hv409_0 := hcc409 0 _ rfl; rw [Nat.add_zero, show ((Kd.slice 5 (Kd.int .u8))).sz = 1 from rfl, Nat.mul_one] at hv409_0; replace hv409_0 := Option.some.inj (hv409_0.symm.trans hx409_0); rw [hv409_0] at ge409_0; have HL409_0 := Aside0.mk (show Kd.R (Kd.int .u8) 5 _ _ _ _ (rd_L2 y405 x56_2) from ge409_0); clear hv409_0 ge409_0; clear hcc409 hce409; have HR409_0 := Aside0.mk hi409_0; have HC409_0 := Aside0.mk hl409_0; clear hi409_0 hl409_0; replace p409 := eq_true p409; replace q409 := eq_true q409) | (go_at_call 29; (with_reducible refine (impl_Digest.calls a0 _ _ (rd_L2 y405 x56_2) t410 _ ?side1 ?side2 A27.out).mono ?_); (case side1 => repeat (first | exact (by repeat (first | (with_reducible exact HR409_0.out) | (with_reducible refine Kd.C_alloc ?_ _) | (with_reducible refine Kd.C_drewN ?_ _) | (with_reducible refine Kd.C_drew ?_) | exact HR409_0.out)) | (with_reducible refine Kd.C_alloc ?_ _) | (with_reducible refine Kd.C_drewN ?_ _) | (with_reducible refine Kd.C_drew ?_))); (case side2 => exact HC409_0.out); rintro e w33 ⟨rfl, hb⟩; (try (replace HM13 := Aside0.mk (MR_below (by (with_reducible repeat (first | apply MR_alloc | apply MR_drewN | apply MR_drew)); exact HM13.out) hb))); (try (replace HM17 := Aside0.mk (MR_below (by (with_reducible repeat (first | apply MR_alloc | apply MR_drewN | apply MR_drew)); exact HM17.out) hb))); replace HO_2 := Aside0.mk (Kd.V_below (mv HO_2.out) hb); replace HO_4 := Aside0.mk (Kd.V_below (mv HO_4.out) hb); replace HO407 := Aside0.mk (Kd.S_below (mv HO407.out) hb); replace HL409_0 := Aside0.mk (Kd.R_below (mv HL409_0.out) hb); replace HR409_0 := Aside0.mk (Kd.C_below (by repeat (first | (with_reducible exact HR409_0.out) | (with_reducible refine Kd.C_alloc ?_ _) | (with_reducible refine Kd.C_drewN ?_ _) | (with_reducible refine Kd.C_drew ?_) | exact HR409_0.out)) hb); replace HB := Aside0.mk (below_step (bt) hb); (try clear hb); (try clear hb2); (try clear hk); (try clear hi)) | (at_mapUpdate; refine wp_mput rfl rfl _ _ _ rfl rfl rfl rfl (by (with_reducible repeat (first | apply MR_alloc | apply MR_drewN | apply MR_drew)); exact HM17.out) A28.out ?_; intro wm hM_ ht_; (first | replace HO407 := Aside0.mk (V_turn (mv HO407.out) ht_) | replace HO407 := Aside0.mk (S_turn (mv HO407.out) ht_)); (first | replace HO_2 := Aside0.mk (V_turn (mv HO_2.out) ht_) | replace HO_2 := Aside0.mk (S_turn (mv HO_2.out) ht_)); (first | replace HO_4 := Aside0.mk (V_turn (mv HO_4.out) ht_) | replace HO_4 := Aside0.mk (S_turn (mv HO_4.out) ht_)); replace HM13 := Aside0.mk (MR_turn (by (with_reducible repeat (first | apply MR_alloc | apply MR_drewN | apply MR_drew)); exact HM13.out) ht_ HNE.out); replace HB := Aside0.mk (below_turn (bt) ht_); replace HM17 := Aside0.mk hM_; clear hM_ ht_))
            refine start_ (n := 12) (S := (fun w' => w'.cell? (ad408.add x56_2.toNat) = some (.int .i64 (rd l2 x56_2)) ∧ w'.cell? (ad409.add x56_2.toNat) = some (.slice A409_0 (rd_L2 y405 x56_2).length c409_0))) (ds := [11]) #[false, false, false, false, false, false, false, false, false, false, false, false] (by kernel_rfl) rfl rfl ⟨hx408_0, hx409_0⟩ (fun hHeld => ?_)
            refine with_tabW mp_tab8 mp_bits8 (fun HT_ HW_ => ?_)
            refine pz (i := 0) (N := some 66) #[true, false, false, false, false, false, false, false, false, false, false, false] rfl rfl HT_.out ?_
            refine pz (i := 1) (N := some 67) #[true, true, false, false, false, false, false, false, false, false, false, false] rfl rfl HT_.out ?_
            refine pz (i := 2) (N := some 68) #[true, true, true, false, false, false, false, false, false, false, false, false] rfl rfl HT_.out ?_
            refine pz (i := 3) (N := some 69) #[true, true, true, true, false, false, false, false, false, false, false, false] rfl rfl HT_.out ?_
            refine tz (i := 4) (N := some 70) #[true, true, true, true, true, false, false, false, false, false, false, false] rfl rfl HT_.out HW_.out hHeld (Or.inl ⟨by rfl, by rintro w' ⟨s0, s1⟩; go_simp; with_reducible rfl⟩) ?_
            refine pz (i := 5) (N := some 71) #[true, true, true, true, true, true, false, false, false, false, false, false] rfl rfl HT_.out ?_
            refine pz (i := 6) (N := some 72) #[true, true, true, true, true, true, true, false, false, false, false, false] rfl rfl HT_.out ?_
            refine pz (i := 7) (N := some 73) #[true, true, true, true, true, true, true, true, false, false, false, false] rfl rfl HT_.out ?_
            refine pz (i := 8) (N := some 74) #[true, true, true, true, true, true, true, true, true, false, false, false] rfl rfl HT_.out ?_
            refine tz (i := 9) (N := some 75) #[true, true, true, true, true, true, true, true, true, true, false, false] rfl rfl HT_.out HW_.out hHeld (Or.inl ⟨by rfl, by rintro w' ⟨s0, s1⟩; go_simp; with_reducible rfl⟩) ?_
            refine one_ (i := 10) (N := some 76) #[true, true, true, true, true, true, true, true, true, true, true, false] rfl rfl (one_of HT_.out (by kernel_rfl)) (by decide) (fun K hK => ?_)
            refine goes_ Try.func29 (by kernel_rfl) rfl #[.int .i64 a0, .slice A409_0 (rd_L2 y405 x56_2).length c409_0] (by rfl) rfl rfl av ?_
            refine (impl_Digest.calls a0 _ _ (rd_L2 y405 x56_2) t410 _ (cv (HR409_0.out)) HC409_0.out A27.out).mono ?_
            rintro e w33 ⟨rfl, hb⟩
            refine ⟨_, rfl, ?_⟩
            replace HO_2 := Aside0.mk (Kd.V_below (mv HO_2.out) hb)
            replace HO_4 := Aside0.mk (Kd.V_below (mv HO_4.out) hb)
            replace HO407 := Aside0.mk (Kd.S_below (mv HO407.out) hb)
            replace HM13 := Aside0.mk (MR_below (by (with_reducible repeat (first | apply MR_alloc | apply MR_drewN | apply MR_drew)); exact HM13.out) hb)
            replace HB := Aside0.mk (below_step (bt) hb)
            have HS : (fun w' => w'.cell? (ad408.add x56_2.toNat) = some (.int .i64 (rd l2 x56_2)) ∧ w'.cell? (ad409.add x56_2.toNat) = some (.slice A409_0 (rd_L2 y405 x56_2).length c409_0)) w33 := ⟨(hb.cell (World.block_lt_of_cell? _ _ hHeld.1)).trans hHeld.1, (hb.cell (World.block_lt_of_cell? _ _ hHeld.2)).trans hHeld.2⟩
            refine hK.out _ _ HS (fun hHeld => ?_)
            clear hK K HS hHeld hb
            refine nz (N := some 76) ?_
            refine last_ (i := 11) (N := none) #[true, true, true, true, true, true, true, true, true, true, true, true] rfl rfl (one_of HT_.out (by kernel_rfl)) (by decide) (fun K hK => ?_)
            obtain ⟨w34, hrun_, hM_, ht_⟩ := MR_put HM13.out A28.out
            refine skip_ (w1 := w34) (by rfl) rfl (put_run rfl rfl rfl rfl hrun_) ?_
            refine hK.out _ _ ?_
            clear hK K hrun_
            refine done_ (done_of HT_.out (by kernel_rfl)) ?_
            replace HO_2 := Aside0.mk (V_turn HO_2.out ht_)
            replace HO_4 := Aside0.mk (V_turn HO_4.out ht_)
            replace HO407 := Aside0.mk (S_turn HO407.out ht_)
            replace HB := Aside0.mk (below_turn HB.out ht_)
            have HM13 := Aside0.mk hM_
            clear hM_ ht_ HT_ HW_
            go_wp2
            go_roundg k2
            case measure => have := HJ5.out; have := HK2.out; omega
            case rel => exact ⟨(y405), (t411), (wrap64 (x56_2 + 1)), (by first | rfl | (simp; done) | (simp [*]; done)), H', ⟨by have := HJ5.out; have := HK2.out; omega⟩, ⟨by (with_reducible repeat (first | apply Kd.V_alloc | apply Kd.V_drewN | apply Kd.V_drew)); exact Kd.V_mono HO_2.out (fun _ hk => ⟨hk.1.1, hk.2⟩)⟩, ⟨by (with_reducible repeat (first | apply Kd.V_alloc | apply Kd.V_drewN | apply Kd.V_drew)); exact Kd.V_mono HO_4.out (fun _ hk => ⟨hk.1.1, hk.2⟩)⟩, ⟨mv HO407.out⟩, ⟨bt⟩, ⟨(by (with_reducible repeat (first | apply MR_alloc | apply MR_drewN | apply MR_drew)); exact HM13.out)⟩⟩
           ·rw [if_neg c26] at H
            exact absurd H (by simp)
          ·rw [if_neg c25] at H
           exact absurd H (by simp)
         ·rw [if_neg c24] at H
          exact absurd H (by simp)
        ·rw [if_neg c22] at H
         exact absurd H (by simp)
       ·rw [if_neg c21] at H
        exact absurd H (by simp)
      ·rw [if_neg c20] at H
       have c20b0 : decide (x56_2 < (l3.length : Int)) = false := decide_eq_false c20
       clear c20
       have H' := Aside0.mk H
       clear H
       go_wp2
       repeat (go_quiet (fail); try go_wp2)
       go_loopg [2, 4, 12, 13, 16] k2 (fun kq v2 v4 v12 v13 v16 w' => ∃ (x2_3 : List Int) (x4_3 : List Int) (x12_3 : List (List Int)) (x13_3 : Mp) (b13_3 : Nat) (x16_3 : Int), v13 = .map (some b13_3) ∧ v16 = .int .i64 x16_3 ∧ Aside0 (impl_climbMany.l1 kq a0 a1 x2_3 x4_3 x12_3 x13_3 x16_3 = some (r1, r2)) ∧ Aside0 (kq ≤ k2) ∧ Aside0 (Kd.V (Kd.int .i64) 3 w' w.heap.size (fun k_ => ((P2_ k_ ∨ P4_ k_) ∨ w.heap.size ≤ k_) ∧ some k_ ≠ (v12 : Value).ownBlock) v2 x2_3) ∧ Aside0 (Kd.V (Kd.int .i64) 3 w' w.heap.size (fun k_ => ((P2_ k_ ∨ P4_ k_) ∨ w.heap.size ≤ k_) ∧ some k_ ≠ (v12 : Value).ownBlock) v4 x4_3) ∧ Aside0 (Kd.S (Kd.slice 5 (Kd.int .u8)) 22 w' w.heap.size (fun k_ => (w.heap.size ≤ k_)) v12 x12_3) ∧ Aside0 (Below w.heap.size w w') ∧ Aside0 (MR w' w.heap.size b13_3 x13_3))
       case atStart => exact ⟨(l2), (l4), (x12_2), (x13_2), _, (a1), (by first | rfl | (simp; done) | (simp [*]; done)), (by first | rfl | (simp; done) | (simp [*]; done)), H', ⟨Nat.le_refl _⟩, ⟨mv HO_2.out⟩, ⟨mv HO_4.out⟩, ⟨mv HO_12.out⟩, ⟨bt⟩, ⟨(by (with_reducible repeat (first | apply MR_alloc | apply MR_drewN | apply MR_drew)); exact HM13.out)⟩⟩
       case round =>
        clear H'
        try clear c1
        try clear c2
        try clear p2
        try clear c3
        try clear c4
        try clear p4
        try clear q4
        try clear hx4
        try clear p6
        try clear c8
        try clear c10
        try clear c11
        try clear c11b0
        try clear c11b1
        try clear c11b2
        try clear c13
        try clear c16
        try clear c20
        try clear c20b0
        try clear c21
        try clear c21b0
        try clear c22
        try clear c22b0
        try clear c24
        try clear c25
        try clear c25b0
        try clear c26
        try clear c26b0
        try clear hx401_0
        try clear hx408_0
        try clear hx409_0
        try clear p2
        try clear p401
        try clear p408
        try clear p409
        try clear q401
        try clear q408
        try clear q409
        obtain ⟨x2_3, x4_3, x12_3, x13_3, b13_3, x16_3, rfl, rfl, HA, HK3, HO_2, HO_4, HO_12, HB, HM13⟩ := hrel
        cases gk with
        | zero => exact absurd HA.out (by simp [impl_climbMany.l1])
        | succ k3 =>
         have H := HA.out
         clear HA
         simp only [impl_climbMany.l1] at H
         by_cases c34 : x16_3 > 1
         ·rw [if_pos c34] at H
          have c34b0 : decide (1 < x16_3) = true := decide_eq_true c34
          clear c34
          replace H := Option.bind_eq_some_iff.mp H
          obtain ⟨t419, A350, H⟩ := H
          (try dsimp -simprocs only at H)
          have A35 := Aside0.mk A350
          clear A350
          have H' := Aside0.mk H
          clear H
          go_wp2_with (first | ((with_reducible refine gate_dst (N := 84) rfl ?_); refine wp_mnew rfl rfl rfl w.heap.size (below_size (bt)) ?_; intro b17 wm hbn_ hM_ hb hne_; obtain rfl := Option.some.inj A35.out; have HNE := Aside0.mk (hne_ _ _ _ (by (with_reducible repeat (first | apply MR_alloc | apply MR_drewN | apply MR_drew)); exact HM13.out)); replace HM13 := Aside0.mk (MR_below (by (with_reducible repeat (first | apply MR_alloc | apply MR_drewN | apply MR_drew)); exact HM13.out) hb); (try (replace HO_2 := Aside0.mk (Kd.V_below (mv HO_2.out) hb))); (try (replace HO_4 := Aside0.mk (Kd.V_below (mv HO_4.out) hb))); (try (replace HO_12 := Aside0.mk (Kd.S_below (mv HO_12.out) hb))); (try (replace HO399 := Aside0.mk (Kd.S_below (mv HO399.out) hb))); replace HB := Aside0.mk (below_step (bt) hb); have HM17 := Aside0.mk hM_; clear hM_ hb hne_; clear hbn_; obtain ⟨Ao36, co36, eo36⟩ := Kd.V_slice HO_2.out; subst eo36))
          repeat (go_quiet (first | ((with_reducible refine gate_dst (N := 84) rfl ?_); refine wp_mnew rfl rfl rfl w.heap.size (below_size (bt)) ?_; intro b17 wm hbn_ hM_ hb hne_; obtain rfl := Option.some.inj A35.out; have HNE := Aside0.mk (hne_ _ _ _ (by (with_reducible repeat (first | apply MR_alloc | apply MR_drewN | apply MR_drew)); exact HM13.out)); replace HM13 := Aside0.mk (MR_below (by (with_reducible repeat (first | apply MR_alloc | apply MR_drewN | apply MR_drew)); exact HM13.out) hb); (try (replace HO_2 := Aside0.mk (Kd.V_below (mv HO_2.out) hb))); (try (replace HO_4 := Aside0.mk (Kd.V_below (mv HO_4.out) hb))); (try (replace HO_12 := Aside0.mk (Kd.S_below (mv HO_12.out) hb))); (try (replace HO399 := Aside0.mk (Kd.S_below (mv HO399.out) hb))); replace HB := Aside0.mk (below_step (bt) hb); have HM17 := Aside0.mk hM_; clear hM_ hb hne_; clear hbn_; obtain ⟨Ao36, co36, eo36⟩ := Kd.V_slice HO_2.out; subst eo36)); try go_wp2_with (first | ((with_reducible refine gate_dst (N := 84) rfl ?_); refine wp_mnew rfl rfl rfl w.heap.size (below_size (bt)) ?_; intro b17 wm hbn_ hM_ hb hne_; obtain rfl := Option.some.inj A35.out; have HNE := Aside0.mk (hne_ _ _ _ (by (with_reducible repeat (first | apply MR_alloc | apply MR_drewN | apply MR_drew)); exact HM13.out)); replace HM13 := Aside0.mk (MR_below (by (with_reducible repeat (first | apply MR_alloc | apply MR_drewN | apply MR_drew)); exact HM13.out) hb); (try (replace HO_2 := Aside0.mk (Kd.V_below (mv HO_2.out) hb))); (try (replace HO_4 := Aside0.mk (Kd.V_below (mv HO_4.out) hb))); (try (replace HO_12 := Aside0.mk (Kd.S_below (mv HO_12.out) hb))); (try (replace HO399 := Aside0.mk (Kd.S_below (mv HO399.out) hb))); replace HB := Aside0.mk (below_step (bt) hb); have HM17 := Aside0.mk hM_; clear hM_ hb hne_; clear hbn_; obtain ⟨Ao36, co36, eo36⟩ := Kd.V_slice HO_2.out; subst eo36)))
          go_loopg [4, 12, 87] k3 (fun kq v4 v12 v87 w' => ∃ (x4_4 : List Int) (x12_4 : List (List Int)) (x17_4 : Mp) (x87_4 : Int), v87 = .int .i64 x87_4 ∧ Aside0 (impl_climbMany.l2 kq a0 a1 x2_3 x4_4 x12_4 x13_3 x16_3 x17_4 x2_3 (x2_3.length : Int) x87_4 = some (r1, r2)) ∧ Aside0 (kq ≤ k3) ∧ Aside0 (Kd.V (Kd.int .i64) 3 w' w.heap.size (fun k_ => ((P2_ k_ ∨ P4_ k_) ∨ w.heap.size ≤ k_) ∧ some k_ ≠ (v12 : Value).ownBlock) (.slice Ao36 x2_3.length co36) x2_3) ∧ Aside0 (Kd.V (Kd.int .i64) 3 w' w.heap.size (fun k_ => ((P2_ k_ ∨ P4_ k_) ∨ w.heap.size ≤ k_) ∧ some k_ ≠ (v12 : Value).ownBlock) v4 x4_4) ∧ Aside0 (Kd.S (Kd.slice 5 (Kd.int .u8)) 22 w' w.heap.size (fun k_ => (w.heap.size ≤ k_)) v12 x12_4) ∧ Aside0 (Kd.V (Kd.int .i64) 3 w' w.heap.size (fun k_ => ((P2_ k_ ∨ P4_ k_) ∨ w.heap.size ≤ k_) ∧ some k_ ≠ (v12 : Value).ownBlock) (.slice Ao36 x2_3.length co36) x2_3) ∧ Aside0 (Below w.heap.size w w') ∧ Aside0 (MR w' w.heap.size b13_3 x13_3) ∧ Aside0 (MR w' w.heap.size b17 x17_4) ∧ Aside0 (b13_3 ≠ b17))
          case atStart => exact ⟨(x4_3), (x12_3), _, (0), (by first | rfl | (simp; done) | (simp [*]; done)), H', ⟨Nat.le_refl _⟩, ⟨mv HO_2.out⟩, ⟨mv HO_4.out⟩, ⟨mv HO_12.out⟩, ⟨mv HO_2.out⟩, ⟨bt⟩, ⟨(by (with_reducible repeat (first | apply MR_alloc | apply MR_drewN | apply MR_drew)); exact HM13.out)⟩, ⟨(by (with_reducible repeat (first | apply MR_alloc | apply MR_drewN | apply MR_drew)); exact HM17.out)⟩, HNE⟩
          case round =>
           clear H'
           try clear c1
           try clear c2
           try clear p2
           try clear c3
           try clear c4
           try clear p4
           try clear q4
           try clear hx4
           try clear p6
           try clear c8
           try clear c10
           try clear c11
           try clear c11b0
           try clear c11b1
           try clear c11b2
           try clear c13
           try clear c16
           try clear c20
           try clear c20b0
           try clear c21
           try clear c21b0
           try clear c22
           try clear c22b0
           try clear c24
           try clear c25
           try clear c25b0
           try clear c26
           try clear c26b0
           try clear c34
           try clear c34b0
           try clear hx401_0
           try clear hx408_0
           try clear hx409_0
           try clear p2
           try clear p4
           try clear p401
           try clear p408
           try clear p409
           try clear p6
           try clear q4
           try clear q401
           try clear q408
           try clear q409
           obtain ⟨x4_4, x12_4, x17_4, x87_4, rfl, HA, HK4, HO_2, HO_4, HO_12, HO_85, HB, HM13, HM17, HNE⟩ := hrel
           cases gk with
           | zero => exact absurd HA.out (by simp [impl_climbMany.l2])
           | succ k4 =>
            have H := HA.out
            clear HA
            simp only [impl_climbMany.l2] at H
            by_cases c37 : x87_4 < (x2_3.length : Int)
            ·rw [if_pos c37] at H
             have c37b0 : decide (x87_4 < (x2_3.length : Int)) = true := decide_eq_true c37
             clear c37
             by_cases c38 : 0 ≤ x87_4
             ·rw [if_pos c38] at H
              have c38b0 : decide (0 ≤ x87_4) = true := decide_eq_true c38
              clear c38
              by_cases c39 : x87_4 < (x2_3.length : Int)
              ·rw [if_pos c39] at H
               have c39b0 : decide (x87_4 < (x2_3.length : Int)) = true := decide_eq_true c39
               clear c39
               replace H := Option.bind_eq_some_iff.mp H
               obtain ⟨⟨t424, t425⟩, A400, H⟩ := H
               (try dsimp -simprocs only at H)
               have A40 := Aside0.mk A400
               clear A400
               have HC41 := Aside0.mk H
               clear H
               have p423 : 0 ≤ (x87_4 : Int) := of_decide_eq_true asm
               have q423 : x87_4 < (x2_3.length : Int) := of_decide_eq_true asm
               obtain ⟨ad423, e423, hx423_0⟩ := Kd.at_int (Kd.V_reads' HO_85.out).2.2 x87_4 p423 q423
               cases e423
               replace p423 := eq_true p423
               replace q423 := eq_true q423
               go_upto_block 6 with (first | (at_lookup; refine wp_mlook rfl _ _ rfl rfl rfl (by (with_reducible repeat (first | apply MR_alloc | apply MR_drewN | apply MR_drew)); exact HM13.out) A40.out ?_))
               repeat (go_quiet (first | (at_lookup; refine wp_mlook rfl _ _ rfl rfl rfl (by (with_reducible repeat (first | apply MR_alloc | apply MR_drewN | apply MR_drew)); exact HM13.out) A40.out ?_)); go_upto_block 6 with (first | (at_lookup; refine wp_mlook rfl _ _ rfl rfl rfl (by (with_reducible repeat (first | apply MR_alloc | apply MR_drewN | apply MR_drew)); exact HM13.out) A40.out ?_)))
               (try simp only [Act.put, List.setIfInBounds_toArray, List.set_cons_zero, List.set_cons_succ])
               go_cut [4, 20] (fun v4 v20 wc => ∃ (kq : Nat) (x4_40 : List Int) (x17_40 : Mp) (x20_40 : Int), v20 = .int .i64 x20_40 ∧ Aside0 (impl_climbMany.j6 kq a0 a1 x2_3 x4_40 x12_4 x13_3 x16_3 x17_40 (rd x2_3 x87_4) x20_40 x2_3 (x2_3.length : Int) x87_4 = some (r1, r2)) ∧ Aside0 (kq ≤ k4) ∧ Aside0 (Kd.V (Kd.int .i64) 3 wc w.heap.size (fun k_ => ((P2_ k_ ∨ P4_ k_) ∨ w.heap.size ≤ k_) ∧ some k_ ≠ (u12 : Value).ownBlock) (.slice (some ad423) x2_3.length co36) x2_3) ∧ Aside0 (Kd.V (Kd.int .i64) 3 wc w.heap.size (fun k_ => ((P2_ k_ ∨ P4_ k_) ∨ w.heap.size ≤ k_) ∧ some k_ ≠ (u12 : Value).ownBlock) v4 x4_40) ∧ Aside0 (Kd.S (Kd.slice 5 (Kd.int .u8)) 22 wc w.heap.size (fun k_ => (w.heap.size ≤ k_)) u12 x12_4) ∧ Aside0 (Kd.V (Kd.int .i64) 3 wc w.heap.size (fun k_ => ((P2_ k_ ∨ P4_ k_) ∨ w.heap.size ≤ k_) ∧ some k_ ≠ (u12 : Value).ownBlock) (.slice (some ad423) x2_3.length co36) x2_3) ∧ Aside0 (Below w.heap.size w wc) ∧ Aside0 (MR wc w.heap.size b13_3 x13_3) ∧ Aside0 (MR wc w.heap.size b17 x17_40) ∧ Aside0 (b13_3 ≠ b17))
               case first =>
                have H := HC41.out
                clear HC41
                by_cases c42 : (Go.bits .xor .i64 (rd x2_3 x87_4) 1) ≥ x16_3
                ·rw [if_pos c42] at H
                 have c42b0 : decide (x16_3 ≤ (Go.bits .xor .i64 (rd x2_3 x87_4) 1)) = true := decide_eq_true c42
                 clear c42
                 (first | rw [c42b0] | (simp only [i64_w, i32_w]; rw [c42b0]) | skip)
                 replace H := Option.bind_eq_some_iff.mp H
                 obtain ⟨t426, A430, H⟩ := H
                 (try dsimp -simprocs only at H)
                 have A43 := Aside0.mk A430
                 clear A430
                 replace H := Option.bind_eq_some_iff.mp H
                 obtain ⟨t427, A440, H⟩ := H
                 (try dsimp -simprocs only at H)
                 have A44 := Aside0.mk A440
                 clear A440
                 have H' := Aside0.mk H
                 clear H
                 go_wp2_with (first | (at_lookup; refine wp_mget rfl _ _ rfl rfl rfl (by (with_reducible repeat (first | apply MR_alloc | apply MR_drewN | apply MR_drew)); exact HM13.out) A43.out ?_) | (at_mapUpdate; refine wp_mput rfl rfl _ _ _ rfl rfl rfl rfl (by (with_reducible repeat (first | apply MR_alloc | apply MR_drewN | apply MR_drew)); exact HM17.out) A44.out ?_; intro wm hM_ ht_; (first | replace HO_12 := Aside0.mk (V_turn (mv HO_12.out) ht_) | replace HO_12 := Aside0.mk (S_turn (mv HO_12.out) ht_)); (first | replace HO_2 := Aside0.mk (V_turn (mv HO_2.out) ht_) | replace HO_2 := Aside0.mk (S_turn (mv HO_2.out) ht_)); (first | replace HO_4 := Aside0.mk (V_turn (mv HO_4.out) ht_) | replace HO_4 := Aside0.mk (S_turn (mv HO_4.out) ht_)); (first | replace HO_85 := Aside0.mk (V_turn (mv HO_85.out) ht_) | replace HO_85 := Aside0.mk (S_turn (mv HO_85.out) ht_)); replace HM13 := Aside0.mk (MR_turn (by (with_reducible repeat (first | apply MR_alloc | apply MR_drewN | apply MR_drew)); exact HM13.out) ht_ HNE.out); replace HB := Aside0.mk (below_turn (bt) ht_); replace HM17 := Aside0.mk hM_; clear hM_ ht_))
                 repeat (go_quiet (first | (at_lookup; refine wp_mget rfl _ _ rfl rfl rfl (by (with_reducible repeat (first | apply MR_alloc | apply MR_drewN | apply MR_drew)); exact HM13.out) A43.out ?_) | (at_mapUpdate; refine wp_mput rfl rfl _ _ _ rfl rfl rfl rfl (by (with_reducible repeat (first | apply MR_alloc | apply MR_drewN | apply MR_drew)); exact HM17.out) A44.out ?_; intro wm hM_ ht_; (first | replace HO_12 := Aside0.mk (V_turn (mv HO_12.out) ht_) | replace HO_12 := Aside0.mk (S_turn (mv HO_12.out) ht_)); (first | replace HO_2 := Aside0.mk (V_turn (mv HO_2.out) ht_) | replace HO_2 := Aside0.mk (S_turn (mv HO_2.out) ht_)); (first | replace HO_4 := Aside0.mk (V_turn (mv HO_4.out) ht_) | replace HO_4 := Aside0.mk (S_turn (mv HO_4.out) ht_)); (first | replace HO_85 := Aside0.mk (V_turn (mv HO_85.out) ht_) | replace HO_85 := Aside0.mk (S_turn (mv HO_85.out) ht_)); replace HM13 := Aside0.mk (MR_turn (by (with_reducible repeat (first | apply MR_alloc | apply MR_drewN | apply MR_drew)); exact HM13.out) ht_ HNE.out); replace HB := Aside0.mk (below_turn (bt) ht_); replace HM17 := Aside0.mk hM_; clear hM_ ht_)); try go_wp2_with (first | (at_lookup; refine wp_mget rfl _ _ rfl rfl rfl (by (with_reducible repeat (first | apply MR_alloc | apply MR_drewN | apply MR_drew)); exact HM13.out) A43.out ?_) | (at_mapUpdate; refine wp_mput rfl rfl _ _ _ rfl rfl rfl rfl (by (with_reducible repeat (first | apply MR_alloc | apply MR_drewN | apply MR_drew)); exact HM17.out) A44.out ?_; intro wm hM_ ht_; (first | replace HO_12 := Aside0.mk (V_turn (mv HO_12.out) ht_) | replace HO_12 := Aside0.mk (S_turn (mv HO_12.out) ht_)); (first | replace HO_2 := Aside0.mk (V_turn (mv HO_2.out) ht_) | replace HO_2 := Aside0.mk (S_turn (mv HO_2.out) ht_)); (first | replace HO_4 := Aside0.mk (V_turn (mv HO_4.out) ht_) | replace HO_4 := Aside0.mk (S_turn (mv HO_4.out) ht_)); (first | replace HO_85 := Aside0.mk (V_turn (mv HO_85.out) ht_) | replace HO_85 := Aside0.mk (S_turn (mv HO_85.out) ht_)); replace HM13 := Aside0.mk (MR_turn (by (with_reducible repeat (first | apply MR_alloc | apply MR_drewN | apply MR_drew)); exact HM13.out) ht_ HNE.out); replace HB := Aside0.mk (below_turn (bt) ht_); replace HM17 := Aside0.mk hM_; clear hM_ ht_)))
                 go_roundg k4
                 case measure => have := HJ5.out; have := HK2.out; have := HK3.out; have := HK4.out; omega
                 case rel => exact ⟨(x4_4), (x12_4), (t427), (wrap64 (x87_4 + 1)), (by first | rfl | (simp; done) | (simp [*]; done)), H', ⟨by have := HJ5.out; have := HK2.out; have := HK3.out; have := HK4.out; omega⟩, ⟨mv HO_2.out⟩, ⟨mv HO_4.out⟩, ⟨mv HO_12.out⟩, ⟨mv HO_85.out⟩, ⟨bt⟩, ⟨(by (with_reducible repeat (first | apply MR_alloc | apply MR_drewN | apply MR_drew)); exact HM13.out)⟩, ⟨(by (with_reducible repeat (first | apply MR_alloc | apply MR_drewN | apply MR_drew)); exact HM17.out)⟩, HNE⟩
                ·rw [if_neg c42] at H
                 have c42b0 : decide (x16_3 ≤ (Go.bits .xor .i64 (rd x2_3 x87_4) 1)) = false := decide_eq_false c42
                 clear c42
                 (first | rw [c42b0] | (simp only [i64_w, i32_w]; rw [c42b0]) | skip)
                 have HC45 := Aside0.mk H
                 clear H
                 go_upto_region 20 with (fail)
                 repeat (go_quiet (fail); go_upto_region 20 with (fail))
                 go_cut [109] (fun v109 wc => ∃ (kq : Nat) (x109_44 : Bool), v109 = .bool x109_44 ∧ Aside0 (impl_climbMany.j4 kq a0 a1 x2_3 x4_4 x12_4 x13_3 x16_3 x17_4 (rd x2_3 x87_4) t424 t425 x2_3 (x2_3.length : Int) x87_4 x109_44 = some (r1, r2)) ∧ Aside0 (kq ≤ k4) ∧ Aside0 (Kd.V (Kd.int .i64) 3 wc w.heap.size (fun k_ => ((P2_ k_ ∨ P4_ k_) ∨ w.heap.size ≤ k_) ∧ some k_ ≠ (u12 : Value).ownBlock) (.slice (some ad423) x2_3.length co36) x2_3) ∧ Aside0 (Kd.V (Kd.int .i64) 3 wc w.heap.size (fun k_ => ((P2_ k_ ∨ P4_ k_) ∨ w.heap.size ≤ k_) ∧ some k_ ≠ (u12 : Value).ownBlock) u4 x4_4) ∧ Aside0 (Kd.S (Kd.slice 5 (Kd.int .u8)) 22 wc w.heap.size (fun k_ => (w.heap.size ≤ k_)) u12 x12_4) ∧ Aside0 (Kd.V (Kd.int .i64) 3 wc w.heap.size (fun k_ => ((P2_ k_ ∨ P4_ k_) ∨ w.heap.size ≤ k_) ∧ some k_ ≠ (u12 : Value).ownBlock) (.slice (some ad423) x2_3.length co36) x2_3) ∧ Aside0 (Below w.heap.size w wc) ∧ Aside0 (MR wc w.heap.size b13_3 x13_3) ∧ Aside0 (MR wc w.heap.size b17 x17_4) ∧ Aside0 (b13_3 ≠ b17))
                 case first =>
                  have H := HC45.out
                  clear HC45
                  by_cases c46 : t425 = true
                  ·subst c46
                   rw [if_pos rfl] at H
                   have H' := Aside0.mk H
                   clear H
                   go_wp2
                   repeat (go_quiet (fail); try go_wp2)
                   go_meet
                   case rel => exact ⟨_, (((Int.tmod (rd x2_3 x87_4) 2) == 1)), (by first | rfl | (simp; done) | (simp [*]; done)), H', ⟨by have := HJ5.out; have := HK2.out; have := HK3.out; have := HK4.out; first | omega | exact Nat.le_refl _⟩, ⟨mv HO_2.out⟩, ⟨mv HO_4.out⟩, ⟨mv HO_12.out⟩, ⟨mv HO_85.out⟩, ⟨bt⟩, ⟨(by (with_reducible repeat (first | apply MR_alloc | apply MR_drewN | apply MR_drew)); exact HM13.out)⟩, ⟨(by (with_reducible repeat (first | apply MR_alloc | apply MR_drewN | apply MR_drew)); exact HM17.out)⟩, HNE⟩
                  ·replace c46 := Bool.eq_false_iff.mpr c46
                   subst c46
                   rw [if_neg (show ¬ (false = true) by decide)] at H
                   have H' := Aside0.mk H
                   clear H
                   go_wp2
                   repeat (go_quiet (fail); try go_wp2)
                   go_meet
                   case rel => exact ⟨_, (false), (by first | rfl | (simp; done) | (simp [*]; done)), H', ⟨by have := HJ5.out; have := HK2.out; have := HK3.out; have := HK4.out; first | omega | exact Nat.le_refl _⟩, ⟨mv HO_2.out⟩, ⟨mv HO_4.out⟩, ⟨mv HO_12.out⟩, ⟨mv HO_85.out⟩, ⟨bt⟩, ⟨(by (with_reducible repeat (first | apply MR_alloc | apply MR_drewN | apply MR_drew)); exact HM13.out)⟩, ⟨(by (with_reducible repeat (first | apply MR_alloc | apply MR_drewN | apply MR_drew)); exact HM17.out)⟩, HNE⟩
                 case rest =>
                  clear HC45
                  try clear c1
                  try clear c2
                  try clear p2
                  try clear c3
                  try clear c4
                  try clear p4
                  try clear q4
                  try clear hx4
                  try clear p6
                  try clear c8
                  try clear c10
                  try clear c11
                  try clear c11b0
                  try clear c11b1
                  try clear c11b2
                  try clear c13
                  try clear c16
                  try clear c20
                  try clear c20b0
                  try clear c21
                  try clear c21b0
                  try clear c22
                  try clear c22b0
                  try clear c24
                  try clear c25
                  try clear c25b0
                  try clear c26
                  try clear c26b0
                  try clear c34
                  try clear c34b0
                  try clear c37
                  try clear c37b0
                  try clear c38
                  try clear c38b0
                  try clear c39
                  try clear c39b0
                  try clear c40
                  try clear p40
                  try clear q40
                  try clear hx40
                  try clear c42
                  try clear c42b0
                  try clear p42
                  try clear q42
                  try clear hx42
                  try clear c46
                  try clear hx401_0
                  try clear hx408_0
                  try clear hx409_0
                  try clear hx423_0
                  try clear p2
                  try clear p4
                  try clear p401
                  try clear p408
                  try clear p409
                  try clear p423
                  try clear p6
                  try clear q4
                  try clear q401
                  try clear q408
                  try clear q409
                  try clear q423
                  obtain ⟨kq, x109_44, rfl, HA, HJ44, HO_2, HO_4, HO_12, HO_85, HB, HM13, HM17, HNE⟩ := hcut
                  cases kq with
                  | zero => exact absurd HA.out (by simp [impl_climbMany.j4])
                  | succ kj44 =>
                   have H := HA.out
                   clear HA
                   simp only [impl_climbMany.j4] at H
                   by_cases c47 : x109_44 = true
                   ·subst c47
                    rw [if_pos rfl] at H
                    have H' := Aside0.mk H
                    clear H
                    go_wp2
                    repeat (go_quiet (fail); try go_wp2)
                    go_roundg kj44
                    case measure => have := HJ5.out; have := HK2.out; have := HK3.out; have := HK4.out; have := HJ44.out; omega
                    case rel => exact ⟨(x4_4), (x12_4), (x17_4), (wrap64 (x87_4 + 1)), (by first | rfl | (simp; done) | (simp [*]; done)), H', ⟨by have := HJ5.out; have := HK2.out; have := HK3.out; have := HK4.out; have := HJ44.out; omega⟩, ⟨mv HO_2.out⟩, ⟨mv HO_4.out⟩, ⟨mv HO_12.out⟩, ⟨mv HO_85.out⟩, ⟨bt⟩, ⟨(by (with_reducible repeat (first | apply MR_alloc | apply MR_drewN | apply MR_drew)); exact HM13.out)⟩, ⟨(by (with_reducible repeat (first | apply MR_alloc | apply MR_drewN | apply MR_drew)); exact HM17.out)⟩, HNE⟩
                   ·replace c47 := Bool.eq_false_iff.mpr c47
                    subst c47
                    rw [if_neg (show ¬ (false = true) by decide)] at H
                    have HC48 := Aside0.mk H
                    clear H
                    go_upto_region 21 with (fail)
                    repeat (go_quiet (fail); go_upto_region 21 with (fail))
                    go_cut [116] (fun v116 wc => ∃ (kq : Nat) (x116_47 : Bool), v116 = .bool x116_47 ∧ Aside0 (impl_climbMany.j5 kq a0 a1 x2_3 x4_4 x12_4 x13_3 x16_3 x17_4 (rd x2_3 x87_4) t424 t425 x2_3 (x2_3.length : Int) x87_4 x116_47 = some (r1, r2)) ∧ Aside0 (kq ≤ kj44) ∧ Aside0 (Kd.V (Kd.int .i64) 3 wc w.heap.size (fun k_ => ((P2_ k_ ∨ P4_ k_) ∨ w.heap.size ≤ k_) ∧ some k_ ≠ (u12 : Value).ownBlock) (.slice (some ad423) x2_3.length co36) x2_3) ∧ Aside0 (Kd.V (Kd.int .i64) 3 wc w.heap.size (fun k_ => ((P2_ k_ ∨ P4_ k_) ∨ w.heap.size ≤ k_) ∧ some k_ ≠ (u12 : Value).ownBlock) u4 x4_4) ∧ Aside0 (Kd.S (Kd.slice 5 (Kd.int .u8)) 22 wc w.heap.size (fun k_ => (w.heap.size ≤ k_)) u12 x12_4) ∧ Aside0 (Kd.V (Kd.int .i64) 3 wc w.heap.size (fun k_ => ((P2_ k_ ∨ P4_ k_) ∨ w.heap.size ≤ k_) ∧ some k_ ≠ (u12 : Value).ownBlock) (.slice (some ad423) x2_3.length co36) x2_3) ∧ Aside0 (Below w.heap.size w wc) ∧ Aside0 (MR wc w.heap.size b13_3 x13_3) ∧ Aside0 (MR wc w.heap.size b17 x17_4) ∧ Aside0 (b13_3 ≠ b17))
                    case first =>
                     have H := HC48.out
                     clear HC48
                     by_cases c49 : t425 = true
                     ·subst c49
                      rw [if_pos rfl] at H
                      have H' := Aside0.mk H
                      clear H
                      go_wp2
                      repeat (go_quiet (fail); try go_wp2)
                      go_meet
                      case rel => exact ⟨_, (false), (by first | rfl | (simp; done) | (simp [*]; done)), H', ⟨by have := HJ5.out; have := HK2.out; have := HK3.out; have := HK4.out; have := HJ44.out; first | omega | exact Nat.le_refl _⟩, ⟨mv HO_2.out⟩, ⟨mv HO_4.out⟩, ⟨mv HO_12.out⟩, ⟨mv HO_85.out⟩, ⟨bt⟩, ⟨(by (with_reducible repeat (first | apply MR_alloc | apply MR_drewN | apply MR_drew)); exact HM13.out)⟩, ⟨(by (with_reducible repeat (first | apply MR_alloc | apply MR_drewN | apply MR_drew)); exact HM17.out)⟩, HNE⟩
                     ·replace c49 := Bool.eq_false_iff.mpr c49
                      subst c49
                      rw [if_neg (show ¬ (false = true) by decide)] at H
                      have H' := Aside0.mk H
                      clear H
                      obtain ⟨Ao50, co50, eo50⟩ := Kd.V_slice HO_4.out
                      subst eo50
                      go_wp2
                      repeat (go_quiet (fail); try go_wp2)
                      go_meet
                      case rel => exact ⟨_, (((x4_4.length : Int) == 0)), (by first | rfl | (simp; done) | (simp [*]; done)), H', ⟨by have := HJ5.out; have := HK2.out; have := HK3.out; have := HK4.out; have := HJ44.out; first | omega | exact Nat.le_refl _⟩, ⟨mv HO_2.out⟩, ⟨mv HO_4.out⟩, ⟨mv HO_12.out⟩, ⟨mv HO_85.out⟩, ⟨bt⟩, ⟨(by (with_reducible repeat (first | apply MR_alloc | apply MR_drewN | apply MR_drew)); exact HM13.out)⟩, ⟨(by (with_reducible repeat (first | apply MR_alloc | apply MR_drewN | apply MR_drew)); exact HM17.out)⟩, HNE⟩
                    case rest =>
                     clear HC48
                     try clear c1
                     try clear c2
                     try clear p2
                     try clear c3
                     try clear c4
                     try clear p4
                     try clear q4
                     try clear hx4
                     try clear p6
                     try clear c8
                     try clear c10
                     try clear c11
                     try clear c11b0
                     try clear c11b1
                     try clear c11b2
                     try clear c13
                     try clear c16
                     try clear c20
                     try clear c20b0
                     try clear c21
                     try clear c21b0
                     try clear c22
                     try clear c22b0
                     try clear c24
                     try clear c25
                     try clear c25b0
                     try clear c26
                     try clear c26b0
                     try clear c34
                     try clear c34b0
                     try clear c37
                     try clear c37b0
                     try clear c38
                     try clear c38b0
                     try clear c39
                     try clear c39b0
                     try clear c40
                     try clear p40
                     try clear q40
                     try clear hx40
                     try clear c42
                     try clear c42b0
                     try clear p42
                     try clear q42
                     try clear hx42
                     try clear c46
                     try clear c47
                     try clear c49
                     try clear hx401_0
                     try clear hx408_0
                     try clear hx409_0
                     try clear hx423_0
                     try clear p2
                     try clear p4
                     try clear p40
                     try clear p401
                     try clear p408
                     try clear p409
                     try clear p42
                     try clear p423
                     try clear p6
                     try clear q4
                     try clear q40
                     try clear q401
                     try clear q408
                     try clear q409
                     try clear q42
                     try clear q423
                     obtain ⟨kq, x116_47, rfl, HA, HJ47, HO_2, HO_4, HO_12, HO_85, HB, HM13, HM17, HNE⟩ := hcut
                     cases kq with
                     | zero => exact absurd HA.out (by simp [impl_climbMany.j5])
                     | succ kj47 =>
                      have H := HA.out
                      clear HA
                      simp only [impl_climbMany.j5] at H
                      by_cases c51 : x116_47 = true
                      ·subst c51
                       rw [if_pos rfl] at H
                       simp only [Option.some.injEq, Prod.mk.injEq] at H
                       obtain ⟨rfl, rfl⟩ := H
                       go_wp2
                       repeat (go_quiet (fail); try go_wp2)
                       go_ret2
                       exact ⟨_, by first | rfl | (simp [errW_none, errW_some] <;> rfl) | (simp [*, errW_none, errW_some] <;> rfl), by first | exact Kd.S_nil _ _ _ _ _ | exact Kd.N_nil _ _ _ _ _ | exact Kd.V_nil _ _ _ _ _ | exact Kd.Q_nil _ _ _ _ _ | exact Kd.R_nil _ _ _ _ _, bt⟩
                      ·replace c51 := Bool.eq_false_iff.mpr c51
                       subst c51
                       rw [if_neg (show ¬ (false = true) by decide)] at H
                       by_cases c52 : t425 = true
                       ·subst c52
                        rw [if_pos rfl] at H
                        have H' := Aside0.mk H
                        clear H
                        go_wp2
                        repeat (go_quiet (fail); try go_wp2)
                        go_meet
                        case rel => exact ⟨_, (x4_4), (x17_4), (t424), (by first | rfl | (simp; done) | (simp [*]; done)), H', ⟨by have := HJ5.out; have := HK2.out; have := HK3.out; have := HK4.out; have := HJ44.out; have := HJ47.out; first | omega | exact Nat.le_refl _⟩, ⟨mv HO_2.out⟩, ⟨mv HO_4.out⟩, ⟨mv HO_12.out⟩, ⟨mv HO_85.out⟩, ⟨bt⟩, ⟨(by (with_reducible repeat (first | apply MR_alloc | apply MR_drewN | apply MR_drew)); exact HM13.out)⟩, ⟨(by (with_reducible repeat (first | apply MR_alloc | apply MR_drewN | apply MR_drew)); exact HM17.out)⟩, HNE⟩
                       ·replace c52 := Bool.eq_false_iff.mpr c52
                        subst c52
                        rw [if_neg (show ¬ (false = true) by decide)] at H
                        by_cases c53 : 0 < (x4_4.length : Int)
                        ·rw [if_pos c53] at H
                         have c53b0 : decide (0 < (x4_4.length : Int)) = true := decide_eq_true c53
                         have c53b1 : decide (0 < x4_4.length) = true := decide_eq_true (by omega)
                         clear c53
                         by_cases c54 : 1 ≤ (x4_4.length : Int)
                         ·rw [if_pos c54] at H
                          have c54b0 := eq_true c54
                          have c54b1 : decide (1 ≤ (x4_4.length : Int)) = true := decide_eq_true c54
                          clear c54
                          obtain ⟨y429, hy429⟩ : ∃ y_ : List Int, y_ = (x4_4.drop 1) := ⟨_, rfl⟩
                          replace H : (impl_climbMany.j6 kj47 a0 a1 x2_3 y429 x12_4 x13_3 x16_3 x17_4 (rd x2_3 x87_4) (rd x4_4 0) x2_3 (x2_3.length : Int) x87_4) = some (r1, r2) := by first | (rw [hy429]; exact H) | exact H
                          have Ny429 := Aside0.mk hy429
                          clear hy429
                          have H' := Aside0.mk H
                          clear H
                          obtain ⟨Ao55, co55, eo55⟩ := Kd.V_slice HO_4.out
                          subst eo55
                          have p428 : 0 ≤ (0 : Int) := (by omega)
                          have q428 : 0 < (x4_4.length : Int) := of_decide_eq_true asm
                          obtain ⟨ad428, e428, hx428_0⟩ := Kd.at_int (Kd.V_reads' HO_4.out).2.2 0 p428 q428
                          cases e428
                          have qi428 : (0 < x4_4.length) = True := eq_true (by omega)
                          (try rw [show ((0 : Int)).toNat = 0 from rfl] at hx428_0)
                          (try rw [Addr.add_zero'] at hx428_0)
                          replace p428 := eq_true p428
                          replace q428 := eq_true q428
                          have q56 : (1 : Int) ≤ ((x4_4.length : Int) : Int) := of_decide_eq_true asm
                          obtain ⟨i056, hi056, _, hsz56, _⟩ := info_parts info3
                          have hroom56 : x4_4.length ≤ co55 := (Kd.V_reads' HO_4.out).2.1
                          have hC56 : Kd.F (Kd.int .i64) _ _ (some ad428) x4_4.length x4_4 := (Kd.V_at (base := w.heap.size) HO_4.out).2.2
                          have hcut56 := cut_from (P := Try.prog) 23 3 .i64 Try.underlying23 hi056 1 hsz56 (some ad428) x4_4.length co55 1 (by omega) q56
                          have hr56 := Kd.F_cut (m := (1 : Int).toNat) (c := co55) hC56 (by omega) hroom56
                          obtain ⟨A56, hA56⟩ : ∃ A1, A1 = (if co55 = (1 : Int).toNat then (some ad428) else ((some ad428) : Option Addr).map (·.add ((1 : Int).toNat * 1))) := ⟨_, rfl⟩
                          obtain ⟨c56, hc56⟩ : ∃ c1, c1 = co55 - (1 : Int).toNat := ⟨_, rfl⟩
                          have hy56 : y429.length = x4_4.length - (1 : Int).toNat := (by rw [Ny429.out, List.length_drop] <;> omega)
                          rw [show (x4_4).drop (1 : Int).toNat = y429 from Ny429.out.symm] at hr56
                          replace hr56 : Kd.F (Kd.int .i64) _ _ A56 y429.length y429 := (by rw [hA56]; exact hr56)
                          rw [← hy56, ← hA56, ← hc56] at hcut56
                          have HO433 := Aside0.mk (show Kd.V (Kd.int .i64) 3 _ w.heap.size _ (.slice A56 y429.length c56) y429 from Kd.V_mk (by rw [hy56, hc56]; exact Nat.sub_le_sub_right hroom56 _) hr56)
                          have HC433 := Aside0.mk (show y429.length ≤ c56 from by rw [hy56, hc56]; exact Nat.sub_le_sub_right hroom56 _)
                          clear hr56 hC56 hroom56 hi056 hsz56 hc56
                          have KY56 := Aside0.mk hy56
                          have KA56 := Aside0.mk hA56
                          clear hy56 hA56
                          replace q56 := eq_true q56
                          go_wp2
                          repeat (go_quiet (fail); try go_wp2)
                          go_meet
                          case rel => exact ⟨_, (y429), (x17_4), (rd x4_4 0), (by first | rfl | (simp; done) | (simp [*]; done)), H', ⟨by have := HJ5.out; have := HK2.out; have := HK3.out; have := HK4.out; have := HJ44.out; have := HJ47.out; first | omega | exact Nat.le_refl _⟩, ⟨mv HO_2.out⟩, ⟨mv HO433.out⟩, ⟨mv HO_12.out⟩, ⟨mv HO_85.out⟩, ⟨bt⟩, ⟨(by (with_reducible repeat (first | apply MR_alloc | apply MR_drewN | apply MR_drew)); exact HM13.out)⟩, ⟨(by (with_reducible repeat (first | apply MR_alloc | apply MR_drewN | apply MR_drew)); exact HM17.out)⟩, HNE⟩
                         ·rw [if_neg c54] at H
                          exact absurd H (by simp)
                        ·rw [if_neg c53] at H
                         exact absurd H (by simp)
               case rest =>
                clear HC41
                try clear c1
                try clear c2
                try clear p2
                try clear c3
                try clear c4
                try clear p4
                try clear q4
                try clear hx4
                try clear qi4
                try clear c5
                try clear q5
                try clear p6
                try clear c8
                try clear c10
                try clear c11
                try clear c11b0
                try clear c11b1
                try clear c11b2
                try clear c13
                try clear c16
                try clear c20
                try clear c20b0
                try clear c21
                try clear c21b0
                try clear c22
                try clear c22b0
                try clear c24
                try clear c25
                try clear c25b0
                try clear c26
                try clear c26b0
                try clear c34
                try clear c34b0
                try clear c37
                try clear c37b0
                try clear c38
                try clear c38b0
                try clear c39
                try clear c39b0
                try clear c40
                try clear p40
                try clear q40
                try clear hx40
                try clear c42
                try clear c42b0
                try clear p42
                try clear q42
                try clear hx42
                try clear qi42
                try clear c46
                try clear c47
                try clear c49
                try clear c51
                try clear c52
                try clear c53
                try clear c53b0
                try clear c53b1
                try clear c54
                try clear c54b0
                try clear c54b1
                try clear c56
                try clear q56
                try clear hx401_0
                try clear hx408_0
                try clear hx409_0
                try clear hx423_0
                try clear hx428_0
                try clear p2
                try clear p4
                try clear p40
                try clear p401
                try clear p408
                try clear p409
                try clear p42
                try clear p423
                try clear p428
                try clear p6
                try clear q4
                try clear q40
                try clear q401
                try clear q408
                try clear q409
                try clear q42
                try clear q423
                try clear q428
                try clear q56
                obtain ⟨kq, x4_40, x17_40, x20_40, rfl, HA, HJ40, HO_2, HO_4, HO_12, HO_85, HB, HM13, HM17, HNE⟩ := hcut
                cases kq with
                | zero => exact absurd HA.out (by simp [impl_climbMany.j6])
                | succ kj40 =>
                 have H := HA.out
                 clear HA
                 simp only [impl_climbMany.j6] at H
                 replace H := Option.bind_eq_some_iff.mp H
                 obtain ⟨t434, A570, H⟩ := H
                 (try dsimp -simprocs only at H)
                 have A57 := Aside0.mk A570
                 clear A570
                 by_cases c58 : (Int.tmod (rd x2_3 x87_4) 2) = 1
                 ·rw [if_pos c58] at H
                  have c58b0 : ((Int.tmod (rd x2_3 x87_4) 2) == 1) = true := beq_iff_eq.mpr c58
                  have c58b1 : ((Int.tmod (rd x2_3 x87_4) 2) != 1) = false := bne_eq_false_iff_eq.mpr c58
                  clear c58
                  replace H := Option.bind_eq_some_iff.mp H
                  obtain ⟨t435, A590, H⟩ := H
                  (try dsimp -simprocs only at H)
                  have A59 := Aside0.mk A590
                  clear A590
                  by_cases c60 : x12_4.length < 5864062014805
                  ·rw [if_pos c60] at H
                   have LMc60 := Aside0.mk c60
                   clear c60
                   obtain ⟨y438, hy438⟩ : ∃ y_ : List (List Int), y_ = (x12_4 ++ [t435]) := ⟨_, rfl⟩
                   replace H : (if 0 ≤ (wrap64 ((y438.length : Int) - 1)) then (if (wrap64 ((y438.length : Int) - 1)) < (y438.length : Int) then ((impl_Digest.f a0 (rd_L2 y438 (wrap64 ((y438.length : Int) - 1)))).bind fun t442 => ((fake_mp_put.f x17_40 (wrap64 (Int.tdiv (rd x2_3 x87_4) 2)) t442).bind fun t443 => (impl_climbMany.l2 kj40 a0 a1 x2_3 x4_40 y438 x13_3 x16_3 t443 x2_3 (x2_3.length : Int) (wrap64 (x87_4 + 1))))) else (none)) else (none)) = some (r1, r2) := by first | (rw [hy438]; exact H) | exact H
                   have Ny438 := Aside0.mk hy438
                   clear hy438
                   obtain ⟨ji61, hji61⟩ : ∃ j_ : Int, (wrap64 ((y438.length : Int) - 1)) = j_ := ⟨_, rfl⟩
                   replace H : (if 0 ≤ (ji61) then (if (ji61) < (y438.length : Int) then ((impl_Digest.f a0 (rd_L2 y438 (ji61))).bind fun t442 => ((fake_mp_put.f x17_40 (wrap64 (Int.tdiv (rd x2_3 x87_4) 2)) t442).bind fun t443 => (impl_climbMany.l2 kj40 a0 a1 x2_3 x4_40 y438 x13_3 x16_3 t443 x2_3 (x2_3.length : Int) (wrap64 (x87_4 + 1))))) else (none)) else (none)) = some (r1, r2) := by first | (rw [hji61] at H; exact H) | (simp only [hji61] at H ⊢; exact H)
                   (try rw [hji61] at A57)
                   (try rw [hji61] at A59)
                   have hji61w : (IntKind.i64.wrap ((y438.length : Int) - 1)) = ji61 := (i64_w _).trans hji61
                   by_cases c62 : 0 ≤ (ji61)
                   ·rw [if_pos c62] at H
                    have c62b0 : decide (0 ≤ (ji61)) = true := decide_eq_true c62
                    clear c62
                    by_cases c63 : (ji61) < (y438.length : Int)
                    ·rw [if_pos c63] at H
                     have c63b0 : decide ((ji61) < (y438.length : Int)) = true := decide_eq_true c63
                     clear c63
                     replace H := Option.bind_eq_some_iff.mp H
                     obtain ⟨t442, A640, H⟩ := H
                     (try dsimp -simprocs only at H)
                     have A64 := Aside0.mk A640
                     clear A640
                     replace H := Option.bind_eq_some_iff.mp H
                     obtain ⟨t443, A650, H⟩ := H
                     (try dsimp -simprocs only at H)
                     have A65 := Aside0.mk A650
                     clear A650
                     have H' := Aside0.mk H
                     clear H
                     go_wp2_with (first | (at_lookup; refine wp_mget rfl _ _ rfl rfl rfl (by (with_reducible repeat (first | apply MR_alloc | apply MR_drewN | apply MR_drew)); exact HM13.out) A57.out ?_) | (go_at_call 72; (with_reducible refine (impl_nodeInput.calls kj40 x20_40 t434 t435 _ A59.out).mono ?_); rintro e w66 ⟨v436, rfl, ho0, hb⟩; (try (replace HM13 := Aside0.mk (MR_below (by (with_reducible repeat (first | apply MR_alloc | apply MR_drewN | apply MR_drew)); exact HM13.out) hb))); (try (replace HM17 := Aside0.mk (MR_below (by (with_reducible repeat (first | apply MR_alloc | apply MR_drewN | apply MR_drew)); exact HM17.out) hb))); replace HO_2 := Aside0.mk (Kd.V_elder' (mv HO_2.out) (Kd.R_base ho0) hb); replace HO_4 := Aside0.mk (Kd.V_elder' (mv HO_4.out) (Kd.R_base ho0) hb); replace HO_12 := Aside0.mk (Kd.S_elder' (mv HO_12.out) (Kd.R_base ho0) hb); replace HO_85 := Aside0.mk (Kd.V_elder' (mv HO_85.out) (Kd.R_base ho0) hb); have HO437 := Aside0.mk (Kd.R_lower (Kd.R_newM (M := fun k_ => (w.heap.size ≤ k_)) ho0 (below_size (bt)) (fun k_ h_ => h_)) (below_size (bt))); replace HB := Aside0.mk (below_step (bt) hb); (try clear hb); (try clear hb2); (try clear hk); (try clear hi); (try clear ho0); obtain ⟨Ao68, co68, eo68⟩ := Kd.R_slice HO437.out; subst eo68) | ((with_reducible refine gate_builtin (b := .append) (xs := #[.tmp 141, .tmp 145]) rfl ?_); (try (refine gate_guard (by rfl) ?_; dsimp only)); at_builtin; refine Kd.S_append (Kd.slice 5 (Kd.int .u8)) (w0 := w) w.heap.size rfl (.tmp 141) (.tmp 145) 30 22 (.slice none 0 0) 24 rfl Try.underlying30 info22 rfl (by decide) (by omega) u12 x12_4 t435 [.slice Ao68 t435.length co68] (fun k_ => (w.heap.size ≤ k_)) (fun k_ => some k_ = (.slice Ao68 t435.length co68 : Value).ownBlock) rfl rfl ?aP (fun k_ hk_ => ((Kd.R_mono (ok' := fun k_ => ((fun k_ => (w.heap.size ≤ k_))) k_ ∧ some k_ ≠ (u12 : Value).ownBlock) (Kd.R_apart' (HO437.out) (Kd.S_typed HO_12.out) (by decide)) (fun k_ hk => ⟨hk.1.1, hk.2⟩))).1 k_ hk_.symm) ?aF ?aO ?aB ?aS ?aL ?_; (case aP => exact Kd.M_row (Kd.R_mono (Kd.R_tight rfl (Kd.R_mono (ok' := fun k_ => ((fun k_ => (w.heap.size ≤ k_))) k_ ∧ some k_ ≠ (u12 : Value).ownBlock) (Kd.R_apart' (HO437.out) (Kd.S_typed HO_12.out) (by decide)) (fun k_ hk => ⟨hk.1.1, hk.2⟩))) (fun _ h_ => h_))); (case aB => exact (bt)); (case aF => exact (fun k_ hk => (Nat.le_trans (below_size (bt)) hk))); (case aO => exact (by (with_reducible repeat (first | apply Kd.S_alloc | apply Kd.S_drewN | apply Kd.S_drew)); exact Kd.S_mono HO_12.out (fun k_ hk => ⟨hk.1, fun e_ => hk.2 e_⟩))); (case aS => exact (below_size (bt))); (case aL => have := LMc60.out; omega); intro v439 w67 ho hb hg hat; (try (replace HM13 := Aside0.mk (MR_grown (by (with_reducible repeat (first | apply MR_alloc | apply MR_drewN | apply MR_drew)); exact HM13.out) hg (MR_ne HM13.out (Kd.S_typed (by (with_reducible repeat (first | apply Kd.S_alloc | apply Kd.S_drewN | apply Kd.S_drew)); exact HO_12.out)))))); (try (replace HM17 := Aside0.mk (MR_grown (by (with_reducible repeat (first | apply MR_alloc | apply MR_drewN | apply MR_drew)); exact HM17.out) hg (MR_ne HM17.out (Kd.S_typed (by (with_reducible repeat (first | apply Kd.S_alloc | apply Kd.S_drewN | apply Kd.S_drew)); exact HO_12.out)))))); rw [← Ny438.out] at ho; replace HO_2 := Aside0.mk (Kd.V_afterv (ok := (fun k_ => ((P2_ k_ ∨ P4_ k_) ∨ w.heap.size ≤ k_) ∧ some k_ ≠ (.slice Ao68 t435.length co68 : Value).ownBlock)) (by (with_reducible repeat (first | apply Kd.V_alloc | apply Kd.V_drewN | apply Kd.V_drew)); exact Kd.V_mono HO_2.out (fun _ hk => ⟨⟨hk.1.1, hk.2⟩, hk.1.2⟩)) hg hat); replace HO_4 := Aside0.mk (Kd.V_afterv (ok := (fun k_ => ((P2_ k_ ∨ P4_ k_) ∨ w.heap.size ≤ k_) ∧ some k_ ≠ (.slice Ao68 t435.length co68 : Value).ownBlock)) (by (with_reducible repeat (first | apply Kd.V_alloc | apply Kd.V_drewN | apply Kd.V_drew)); exact Kd.V_mono HO_4.out (fun _ hk => ⟨⟨hk.1.1, hk.2⟩, hk.1.2⟩)) hg hat); replace HO_85 := Aside0.mk (Kd.V_afterv (ok := (fun k_ => ((P2_ k_ ∨ P4_ k_) ∨ w.heap.size ≤ k_) ∧ some k_ ≠ (.slice Ao68 t435.length co68 : Value).ownBlock)) (by (with_reducible repeat (first | apply Kd.V_alloc | apply Kd.V_drewN | apply Kd.V_drew)); exact Kd.V_mono HO_85.out (fun _ hk => ⟨⟨hk.1.1, hk.2⟩, hk.1.2⟩)) hg hat); replace HB := Aside0.mk (hb); have HO440 := Aside0.mk (ho); clear HO_12 HO437; clear ho hb hg hat; obtain ⟨Ao69, co69, eo69⟩ := Kd.S_slice HO440.out; subst eo69; have p441 : 0 ≤ ((ji61) : Int) := of_decide_eq_true asm; have q441 : (ji61) < (y438.length : Int) := of_decide_eq_true asm; obtain ⟨ad441, A441_0, c441_0, e441, hx441_0, hl441_0, hi441_0⟩ := at_L2 (Kd.S_reads' HO440.out).2.2 (ji61) p441 q441; cases e441; obtain ⟨ce441, hce441, hMe441, hcc441⟩ := Kd.S_get HO440.out [] (ji61) p441 (by first | exact q441 | exact of_decide_eq_true asm | (have e_ := (Kd.S_reads' HO440.out).1; omega)); obtain ⟨ve441_0, rfl, ge441_0⟩ := hMe441; have hv441_0 := hcc441 0 _ rfl; rw [Nat.add_zero, show ((Kd.slice 5 (Kd.int .u8))).sz = 1 from rfl, Nat.mul_one] at hv441_0; replace hv441_0 := Option.some.inj (hv441_0.symm.trans hx441_0); rw [hv441_0] at ge441_0; have HL441_0 := Aside0.mk (show Kd.R (Kd.int .u8) 5 _ _ _ _ (rd_L2 y438 (ji61)) from ge441_0); clear hv441_0 ge441_0; clear hcc441 hce441; have HR441_0 := Aside0.mk hi441_0; have HC441_0 := Aside0.mk hl441_0; clear hi441_0 hl441_0; replace p441 := eq_true p441; replace q441 := eq_true q441) | (go_at_call 29; (with_reducible refine (impl_Digest.calls a0 _ _ (rd_L2 y438 (ji61)) t442 _ ?side1 ?side2 A64.out).mono ?_); (case side1 => repeat (first | exact (by repeat (first | (with_reducible exact HR441_0.out) | (with_reducible refine Kd.C_alloc ?_ _) | (with_reducible refine Kd.C_drewN ?_ _) | (with_reducible refine Kd.C_drew ?_) | exact HR441_0.out)) | (with_reducible refine Kd.C_alloc ?_ _) | (with_reducible refine Kd.C_drewN ?_ _) | (with_reducible refine Kd.C_drew ?_))); (case side2 => exact HC441_0.out); rintro e w70 ⟨rfl, hb⟩; (try (replace HM13 := Aside0.mk (MR_below (by (with_reducible repeat (first | apply MR_alloc | apply MR_drewN | apply MR_drew)); exact HM13.out) hb))); (try (replace HM17 := Aside0.mk (MR_below (by (with_reducible repeat (first | apply MR_alloc | apply MR_drewN | apply MR_drew)); exact HM17.out) hb))); replace HO_2 := Aside0.mk (Kd.V_below (mv HO_2.out) hb); replace HO_4 := Aside0.mk (Kd.V_below (mv HO_4.out) hb); replace HO_85 := Aside0.mk (Kd.V_below (mv HO_85.out) hb); replace HO440 := Aside0.mk (Kd.S_below (mv HO440.out) hb); replace HL441_0 := Aside0.mk (Kd.R_below (mv HL441_0.out) hb); replace HR441_0 := Aside0.mk (Kd.C_below (by repeat (first | (with_reducible exact HR441_0.out) | (with_reducible refine Kd.C_alloc ?_ _) | (with_reducible refine Kd.C_drewN ?_ _) | (with_reducible refine Kd.C_drew ?_) | exact HR441_0.out)) hb); replace HB := Aside0.mk (below_step (bt) hb); (try clear hb); (try clear hb2); (try clear hk); (try clear hi)) | (at_mapUpdate; refine wp_mput rfl rfl _ _ _ rfl rfl rfl rfl (by (with_reducible repeat (first | apply MR_alloc | apply MR_drewN | apply MR_drew)); exact HM17.out) A65.out ?_; intro wm hM_ ht_; (first | replace HO440 := Aside0.mk (V_turn (mv HO440.out) ht_) | replace HO440 := Aside0.mk (S_turn (mv HO440.out) ht_)); (first | replace HO_2 := Aside0.mk (V_turn (mv HO_2.out) ht_) | replace HO_2 := Aside0.mk (S_turn (mv HO_2.out) ht_)); (first | replace HO_4 := Aside0.mk (V_turn (mv HO_4.out) ht_) | replace HO_4 := Aside0.mk (S_turn (mv HO_4.out) ht_)); (first | replace HO_85 := Aside0.mk (V_turn (mv HO_85.out) ht_) | replace HO_85 := Aside0.mk (S_turn (mv HO_85.out) ht_)); replace HM13 := Aside0.mk (MR_turn (by (with_reducible repeat (first | apply MR_alloc | apply MR_drewN | apply MR_drew)); exact HM13.out) ht_ HNE.out); replace HB := Aside0.mk (below_turn (bt) ht_); replace HM17 := Aside0.mk hM_; clear hM_ ht_))
                     repeat (go_quiet (first | (at_lookup; refine wp_mget rfl _ _ rfl rfl rfl (by (with_reducible repeat (first | apply MR_alloc | apply MR_drewN | apply MR_drew)); exact HM13.out) A57.out ?_) | (go_at_call 72; (with_reducible refine (impl_nodeInput.calls kj40 x20_40 t434 t435 _ A59.out).mono ?_); rintro e w66 ⟨v436, rfl, ho0, hb⟩; (try (replace HM13 := Aside0.mk (MR_below (by (with_reducible repeat (first | apply MR_alloc | apply MR_drewN | apply MR_drew)); exact HM13.out) hb))); (try (replace HM17 := Aside0.mk (MR_below (by (with_reducible repeat (first | apply MR_alloc | apply MR_drewN | apply MR_drew)); exact HM17.out) hb))); replace HO_2 := Aside0.mk (Kd.V_elder' (mv HO_2.out) (Kd.R_base ho0) hb); replace HO_4 := Aside0.mk (Kd.V_elder' (mv HO_4.out) (Kd.R_base ho0) hb); replace HO_12 := Aside0.mk (Kd.S_elder' (mv HO_12.out) (Kd.R_base ho0) hb); replace HO_85 := Aside0.mk (Kd.V_elder' (mv HO_85.out) (Kd.R_base ho0) hb); have HO437 := Aside0.mk (Kd.R_lower (Kd.R_newM (M := fun k_ => (w.heap.size ≤ k_)) ho0 (below_size (bt)) (fun k_ h_ => h_)) (below_size (bt))); replace HB := Aside0.mk (below_step (bt) hb); (try clear hb); (try clear hb2); (try clear hk); (try clear hi); (try clear ho0); obtain ⟨Ao68, co68, eo68⟩ := Kd.R_slice HO437.out; subst eo68) | ((with_reducible refine gate_builtin (b := .append) (xs := #[.tmp 141, .tmp 145]) rfl ?_); (try (refine gate_guard (by rfl) ?_; dsimp only)); at_builtin; refine Kd.S_append (Kd.slice 5 (Kd.int .u8)) (w0 := w) w.heap.size rfl (.tmp 141) (.tmp 145) 30 22 (.slice none 0 0) 24 rfl Try.underlying30 info22 rfl (by decide) (by omega) u12 x12_4 t435 [.slice Ao68 t435.length co68] (fun k_ => (w.heap.size ≤ k_)) (fun k_ => some k_ = (.slice Ao68 t435.length co68 : Value).ownBlock) rfl rfl ?aP (fun k_ hk_ => ((Kd.R_mono (ok' := fun k_ => ((fun k_ => (w.heap.size ≤ k_))) k_ ∧ some k_ ≠ (u12 : Value).ownBlock) (Kd.R_apart' (HO437.out) (Kd.S_typed HO_12.out) (by decide)) (fun k_ hk => ⟨hk.1.1, hk.2⟩))).1 k_ hk_.symm) ?aF ?aO ?aB ?aS ?aL ?_; (case aP => exact Kd.M_row (Kd.R_mono (Kd.R_tight rfl (Kd.R_mono (ok' := fun k_ => ((fun k_ => (w.heap.size ≤ k_))) k_ ∧ some k_ ≠ (u12 : Value).ownBlock) (Kd.R_apart' (HO437.out) (Kd.S_typed HO_12.out) (by decide)) (fun k_ hk => ⟨hk.1.1, hk.2⟩))) (fun _ h_ => h_))); (case aB => exact (bt)); (case aF => exact (fun k_ hk => (Nat.le_trans (below_size (bt)) hk))); (case aO => exact (by (with_reducible repeat (first | apply Kd.S_alloc | apply Kd.S_drewN | apply Kd.S_drew)); exact Kd.S_mono HO_12.out (fun k_ hk => ⟨hk.1, fun e_ => hk.2 e_⟩))); (case aS => exact (below_size (bt))); (case aL => have := LMc60.out; omega); intro v439 w67 ho hb hg hat; (try (replace HM13 := Aside0.mk (MR_grown (by (with_reducible repeat (first | apply MR_alloc | apply MR_drewN | apply MR_drew)); exact HM13.out) hg (MR_ne HM13.out (Kd.S_typed (by (with_reducible repeat (first | apply Kd.S_alloc | apply Kd.S_drewN | apply Kd.S_drew)); exact HO_12.out)))))); (try (replace HM17 := Aside0.mk (MR_grown (by (with_reducible repeat (first | apply MR_alloc | apply MR_drewN | apply MR_drew)); exact HM17.out) hg (MR_ne HM17.out (Kd.S_typed (by (with_reducible repeat (first | apply Kd.S_alloc | apply Kd.S_drewN | apply Kd.S_drew)); exact HO_12.out)))))); rw [← Ny438.out] at ho; replace HO_2 := Aside0.mk (Kd.V_afterv (ok := (fun k_ => ((P2_ k_ ∨ P4_ k_) ∨ w.heap.size ≤ k_) ∧ some k_ ≠ (.slice Ao68 t435.length co68 : Value).ownBlock)) (by (with_reducible repeat (first | apply Kd.V_alloc | apply Kd.V_drewN | apply Kd.V_drew)); exact Kd.V_mono HO_2.out (fun _ hk => ⟨⟨hk.1.1, hk.2⟩, hk.1.2⟩)) hg hat); replace HO_4 := Aside0.mk (Kd.V_afterv (ok := (fun k_ => ((P2_ k_ ∨ P4_ k_) ∨ w.heap.size ≤ k_) ∧ some k_ ≠ (.slice Ao68 t435.length co68 : Value).ownBlock)) (by (with_reducible repeat (first | apply Kd.V_alloc | apply Kd.V_drewN | apply Kd.V_drew)); exact Kd.V_mono HO_4.out (fun _ hk => ⟨⟨hk.1.1, hk.2⟩, hk.1.2⟩)) hg hat); replace HO_85 := Aside0.mk (Kd.V_afterv (ok := (fun k_ => ((P2_ k_ ∨ P4_ k_) ∨ w.heap.size ≤ k_) ∧ some k_ ≠ (.slice Ao68 t435.length co68 : Value).ownBlock)) (by (with_reducible repeat (first | apply Kd.V_alloc | apply Kd.V_drewN | apply Kd.V_drew)); exact Kd.V_mono HO_85.out (fun _ hk => ⟨⟨hk.1.1, hk.2⟩, hk.1.2⟩)) hg hat); replace HB := Aside0.mk (hb); have HO440 := Aside0.mk (ho); clear HO_12 HO437; clear ho hb hg hat; obtain ⟨Ao69, co69, eo69⟩ := Kd.S_slice HO440.out; subst eo69; have p441 : 0 ≤ ((ji61) : Int) := of_decide_eq_true asm; have q441 : (ji61) < (y438.length : Int) := of_decide_eq_true asm; obtain ⟨ad441, A441_0, c441_0, e441, hx441_0, hl441_0, hi441_0⟩ := at_L2 (Kd.S_reads' HO440.out).2.2 (ji61) p441 q441; cases e441; obtain ⟨ce441, hce441, hMe441, hcc441⟩ := Kd.S_get HO440.out [] (ji61) p441 (by first | exact q441 | exact of_decide_eq_true asm | (have e_ := (Kd.S_reads' HO440.out).1; omega)); obtain ⟨ve441_0, rfl, ge441_0⟩ := hMe441; have hv441_0 := hcc441 0 _ rfl; rw [Nat.add_zero, show ((Kd.slice 5 (Kd.int .u8))).sz = 1 from rfl, Nat.mul_one] at hv441_0; replace hv441_0 := Option.some.inj (hv441_0.symm.trans hx441_0); rw [hv441_0] at ge441_0; have HL441_0 := Aside0.mk (show Kd.R (Kd.int .u8) 5 _ _ _ _ (rd_L2 y438 (ji61)) from ge441_0); clear hv441_0 ge441_0; clear hcc441 hce441; have HR441_0 := Aside0.mk hi441_0; have HC441_0 := Aside0.mk hl441_0; clear hi441_0 hl441_0; replace p441 := eq_true p441; replace q441 := eq_true q441) | (go_at_call 29; (with_reducible refine (impl_Digest.calls a0 _ _ (rd_L2 y438 (ji61)) t442 _ ?side1 ?side2 A64.out).mono ?_); (case side1 => repeat (first | exact (by repeat (first | (with_reducible exact HR441_0.out) | (with_reducible refine Kd.C_alloc ?_ _) | (with_reducible refine Kd.C_drewN ?_ _) | (with_reducible refine Kd.C_drew ?_) | exact HR441_0.out)) | (with_reducible refine Kd.C_alloc ?_ _) | (with_reducible refine Kd.C_drewN ?_ _) | (with_reducible refine Kd.C_drew ?_))); (case side2 => exact HC441_0.out); rintro e w70 ⟨rfl, hb⟩; (try (replace HM13 := Aside0.mk (MR_below (by (with_reducible repeat (first | apply MR_alloc | apply MR_drewN | apply MR_drew)); exact HM13.out) hb))); (try (replace HM17 := Aside0.mk (MR_below (by (with_reducible repeat (first | apply MR_alloc | apply MR_drewN | apply MR_drew)); exact HM17.out) hb))); replace HO_2 := Aside0.mk (Kd.V_below (mv HO_2.out) hb); replace HO_4 := Aside0.mk (Kd.V_below (mv HO_4.out) hb); replace HO_85 := Aside0.mk (Kd.V_below (mv HO_85.out) hb); replace HO440 := Aside0.mk (Kd.S_below (mv HO440.out) hb); replace HL441_0 := Aside0.mk (Kd.R_below (mv HL441_0.out) hb); replace HR441_0 := Aside0.mk (Kd.C_below (by repeat (first | (with_reducible exact HR441_0.out) | (with_reducible refine Kd.C_alloc ?_ _) | (with_reducible refine Kd.C_drewN ?_ _) | (with_reducible refine Kd.C_drew ?_) | exact HR441_0.out)) hb); replace HB := Aside0.mk (below_step (bt) hb); (try clear hb); (try clear hb2); (try clear hk); (try clear hi)) | (at_mapUpdate; refine wp_mput rfl rfl _ _ _ rfl rfl rfl rfl (by (with_reducible repeat (first | apply MR_alloc | apply MR_drewN | apply MR_drew)); exact HM17.out) A65.out ?_; intro wm hM_ ht_; (first | replace HO440 := Aside0.mk (V_turn (mv HO440.out) ht_) | replace HO440 := Aside0.mk (S_turn (mv HO440.out) ht_)); (first | replace HO_2 := Aside0.mk (V_turn (mv HO_2.out) ht_) | replace HO_2 := Aside0.mk (S_turn (mv HO_2.out) ht_)); (first | replace HO_4 := Aside0.mk (V_turn (mv HO_4.out) ht_) | replace HO_4 := Aside0.mk (S_turn (mv HO_4.out) ht_)); (first | replace HO_85 := Aside0.mk (V_turn (mv HO_85.out) ht_) | replace HO_85 := Aside0.mk (S_turn (mv HO_85.out) ht_)); replace HM13 := Aside0.mk (MR_turn (by (with_reducible repeat (first | apply MR_alloc | apply MR_drewN | apply MR_drew)); exact HM13.out) ht_ HNE.out); replace HB := Aside0.mk (below_turn (bt) ht_); replace HM17 := Aside0.mk hM_; clear hM_ ht_)); try go_wp2_with (first | (at_lookup; refine wp_mget rfl _ _ rfl rfl rfl (by (with_reducible repeat (first | apply MR_alloc | apply MR_drewN | apply MR_drew)); exact HM13.out) A57.out ?_) | (go_at_call 72; (with_reducible refine (impl_nodeInput.calls kj40 x20_40 t434 t435 _ A59.out).mono ?_); rintro e w66 ⟨v436, rfl, ho0, hb⟩; (try (replace HM13 := Aside0.mk (MR_below (by (with_reducible repeat (first | apply MR_alloc | apply MR_drewN | apply MR_drew)); exact HM13.out) hb))); (try (replace HM17 := Aside0.mk (MR_below (by (with_reducible repeat (first | apply MR_alloc | apply MR_drewN | apply MR_drew)); exact HM17.out) hb))); replace HO_2 := Aside0.mk (Kd.V_elder' (mv HO_2.out) (Kd.R_base ho0) hb); replace HO_4 := Aside0.mk (Kd.V_elder' (mv HO_4.out) (Kd.R_base ho0) hb); replace HO_12 := Aside0.mk (Kd.S_elder' (mv HO_12.out) (Kd.R_base ho0) hb); replace HO_85 := Aside0.mk (Kd.V_elder' (mv HO_85.out) (Kd.R_base ho0) hb); have HO437 := Aside0.mk (Kd.R_lower (Kd.R_newM (M := fun k_ => (w.heap.size ≤ k_)) ho0 (below_size (bt)) (fun k_ h_ => h_)) (below_size (bt))); replace HB := Aside0.mk (below_step (bt) hb); (try clear hb); (try clear hb2); (try clear hk); (try clear hi); (try clear ho0); obtain ⟨Ao68, co68, eo68⟩ := Kd.R_slice HO437.out; subst eo68) | ((with_reducible refine gate_builtin (b := .append) (xs := #[.tmp 141, .tmp 145]) rfl ?_); (try (refine gate_guard (by rfl) ?_; dsimp only)); at_builtin; refine Kd.S_append (Kd.slice 5 (Kd.int .u8)) (w0 := w) w.heap.size rfl (.tmp 141) (.tmp 145) 30 22 (.slice none 0 0) 24 rfl Try.underlying30 info22 rfl (by decide) (by omega) u12 x12_4 t435 [.slice Ao68 t435.length co68] (fun k_ => (w.heap.size ≤ k_)) (fun k_ => some k_ = (.slice Ao68 t435.length co68 : Value).ownBlock) rfl rfl ?aP (fun k_ hk_ => ((Kd.R_mono (ok' := fun k_ => ((fun k_ => (w.heap.size ≤ k_))) k_ ∧ some k_ ≠ (u12 : Value).ownBlock) (Kd.R_apart' (HO437.out) (Kd.S_typed HO_12.out) (by decide)) (fun k_ hk => ⟨hk.1.1, hk.2⟩))).1 k_ hk_.symm) ?aF ?aO ?aB ?aS ?aL ?_; (case aP => exact Kd.M_row (Kd.R_mono (Kd.R_tight rfl (Kd.R_mono (ok' := fun k_ => ((fun k_ => (w.heap.size ≤ k_))) k_ ∧ some k_ ≠ (u12 : Value).ownBlock) (Kd.R_apart' (HO437.out) (Kd.S_typed HO_12.out) (by decide)) (fun k_ hk => ⟨hk.1.1, hk.2⟩))) (fun _ h_ => h_))); (case aB => exact (bt)); (case aF => exact (fun k_ hk => (Nat.le_trans (below_size (bt)) hk))); (case aO => exact (by (with_reducible repeat (first | apply Kd.S_alloc | apply Kd.S_drewN | apply Kd.S_drew)); exact Kd.S_mono HO_12.out (fun k_ hk => ⟨hk.1, fun e_ => hk.2 e_⟩))); (case aS => exact (below_size (bt))); (case aL => have := LMc60.out; omega); intro v439 w67 ho hb hg hat; (try (replace HM13 := Aside0.mk (MR_grown (by (with_reducible repeat (first | apply MR_alloc | apply MR_drewN | apply MR_drew)); exact HM13.out) hg (MR_ne HM13.out (Kd.S_typed (by (with_reducible repeat (first | apply Kd.S_alloc | apply Kd.S_drewN | apply Kd.S_drew)); exact HO_12.out)))))); (try (replace HM17 := Aside0.mk (MR_grown (by (with_reducible repeat (first | apply MR_alloc | apply MR_drewN | apply MR_drew)); exact HM17.out) hg (MR_ne HM17.out (Kd.S_typed (by (with_reducible repeat (first | apply Kd.S_alloc | apply Kd.S_drewN | apply Kd.S_drew)); exact HO_12.out)))))); rw [← Ny438.out] at ho; replace HO_2 := Aside0.mk (Kd.V_afterv (ok := (fun k_ => ((P2_ k_ ∨ P4_ k_) ∨ w.heap.size ≤ k_) ∧ some k_ ≠ (.slice Ao68 t435.length co68 : Value).ownBlock)) (by (with_reducible repeat (first | apply Kd.V_alloc | apply Kd.V_drewN | apply Kd.V_drew)); exact Kd.V_mono HO_2.out (fun _ hk => ⟨⟨hk.1.1, hk.2⟩, hk.1.2⟩)) hg hat); replace HO_4 := Aside0.mk (Kd.V_afterv (ok := (fun k_ => ((P2_ k_ ∨ P4_ k_) ∨ w.heap.size ≤ k_) ∧ some k_ ≠ (.slice Ao68 t435.length co68 : Value).ownBlock)) (by (with_reducible repeat (first | apply Kd.V_alloc | apply Kd.V_drewN | apply Kd.V_drew)); exact Kd.V_mono HO_4.out (fun _ hk => ⟨⟨hk.1.1, hk.2⟩, hk.1.2⟩)) hg hat); replace HO_85 := Aside0.mk (Kd.V_afterv (ok := (fun k_ => ((P2_ k_ ∨ P4_ k_) ∨ w.heap.size ≤ k_) ∧ some k_ ≠ (.slice Ao68 t435.length co68 : Value).ownBlock)) (by (with_reducible repeat (first | apply Kd.V_alloc | apply Kd.V_drewN | apply Kd.V_drew)); exact Kd.V_mono HO_85.out (fun _ hk => ⟨⟨hk.1.1, hk.2⟩, hk.1.2⟩)) hg hat); replace HB := Aside0.mk (hb); have HO440 := Aside0.mk (ho); clear HO_12 HO437; clear ho hb hg hat; obtain ⟨Ao69, co69, eo69⟩ := Kd.S_slice HO440.out; subst eo69; have p441 : 0 ≤ ((ji61) : Int) := of_decide_eq_true asm; have q441 : (ji61) < (y438.length : Int) := of_decide_eq_true asm; obtain ⟨ad441, A441_0, c441_0, e441, hx441_0, hl441_0, hi441_0⟩ := at_L2 (Kd.S_reads' HO440.out).2.2 (ji61) p441 q441; cases e441; obtain ⟨ce441, hce441, hMe441, hcc441⟩ := Kd.S_get HO440.out [] (ji61) p441 (by first | exact q441 | exact of_decide_eq_true asm | (have e_ := (Kd.S_reads' HO440.out).1; omega)); obtain ⟨ve441_0, rfl, ge441_0⟩ := hMe441; have hv441_0 := hcc441 0 _ rfl; rw [Nat.add_zero, show ((Kd.slice 5 (Kd.int .u8))).sz = 1 from rfl, Nat.mul_one] at hv441_0; replace hv441_0 := Option.some.inj (hv441_0.symm.trans hx441_0); rw [hv441_0] at ge441_0; have HL441_0 := Aside0.mk (show Kd.R (Kd.int .u8) 5 _ _ _ _ (rd_L2 y438 (ji61)) from ge441_0); clear hv441_0 ge441_0; clear hcc441 hce441; have HR441_0 := Aside0.mk hi441_0; have HC441_0 := Aside0.mk hl441_0; clear hi441_0 hl441_0; replace p441 := eq_true p441; replace q441 := eq_true q441) | (go_at_call 29; (with_reducible refine (impl_Digest.calls a0 _ _ (rd_L2 y438 (ji61)) t442 _ ?side1 ?side2 A64.out).mono ?_); (case side1 => repeat (first | exact (by repeat (first | (with_reducible exact HR441_0.out) | (with_reducible refine Kd.C_alloc ?_ _) | (with_reducible refine Kd.C_drewN ?_ _) | (with_reducible refine Kd.C_drew ?_) | exact HR441_0.out)) | (with_reducible refine Kd.C_alloc ?_ _) | (with_reducible refine Kd.C_drewN ?_ _) | (with_reducible refine Kd.C_drew ?_))); (case side2 => exact HC441_0.out); rintro e w70 ⟨rfl, hb⟩; (try (replace HM13 := Aside0.mk (MR_below (by (with_reducible repeat (first | apply MR_alloc | apply MR_drewN | apply MR_drew)); exact HM13.out) hb))); (try (replace HM17 := Aside0.mk (MR_below (by (with_reducible repeat (first | apply MR_alloc | apply MR_drewN | apply MR_drew)); exact HM17.out) hb))); replace HO_2 := Aside0.mk (Kd.V_below (mv HO_2.out) hb); replace HO_4 := Aside0.mk (Kd.V_below (mv HO_4.out) hb); replace HO_85 := Aside0.mk (Kd.V_below (mv HO_85.out) hb); replace HO440 := Aside0.mk (Kd.S_below (mv HO440.out) hb); replace HL441_0 := Aside0.mk (Kd.R_below (mv HL441_0.out) hb); replace HR441_0 := Aside0.mk (Kd.C_below (by repeat (first | (with_reducible exact HR441_0.out) | (with_reducible refine Kd.C_alloc ?_ _) | (with_reducible refine Kd.C_drewN ?_ _) | (with_reducible refine Kd.C_drew ?_) | exact HR441_0.out)) hb); replace HB := Aside0.mk (below_step (bt) hb); (try clear hb); (try clear hb2); (try clear hk); (try clear hi)) | (at_mapUpdate; refine wp_mput rfl rfl _ _ _ rfl rfl rfl rfl (by (with_reducible repeat (first | apply MR_alloc | apply MR_drewN | apply MR_drew)); exact HM17.out) A65.out ?_; intro wm hM_ ht_; (first | replace HO440 := Aside0.mk (V_turn (mv HO440.out) ht_) | replace HO440 := Aside0.mk (S_turn (mv HO440.out) ht_)); (first | replace HO_2 := Aside0.mk (V_turn (mv HO_2.out) ht_) | replace HO_2 := Aside0.mk (S_turn (mv HO_2.out) ht_)); (first | replace HO_4 := Aside0.mk (V_turn (mv HO_4.out) ht_) | replace HO_4 := Aside0.mk (S_turn (mv HO_4.out) ht_)); (first | replace HO_85 := Aside0.mk (V_turn (mv HO_85.out) ht_) | replace HO_85 := Aside0.mk (S_turn (mv HO_85.out) ht_)); replace HM13 := Aside0.mk (MR_turn (by (with_reducible repeat (first | apply MR_alloc | apply MR_drewN | apply MR_drew)); exact HM13.out) ht_ HNE.out); replace HB := Aside0.mk (below_turn (bt) ht_); replace HM17 := Aside0.mk hM_; clear hM_ ht_)))
                     go_roundg kj40
                     case measure => have := HJ5.out; have := HK2.out; have := HK3.out; have := HK4.out; have := HJ40.out; omega
                     case rel => exact ⟨(x4_40), (y438), (t443), (wrap64 (x87_4 + 1)), (by first | rfl | (simp; done) | (simp [*]; done)), H', ⟨by have := HJ5.out; have := HK2.out; have := HK3.out; have := HK4.out; have := HJ40.out; omega⟩, ⟨by (with_reducible repeat (first | apply Kd.V_alloc | apply Kd.V_drewN | apply Kd.V_drew)); exact Kd.V_mono HO_2.out (fun _ hk => ⟨hk.1.1, hk.2⟩)⟩, ⟨by (with_reducible repeat (first | apply Kd.V_alloc | apply Kd.V_drewN | apply Kd.V_drew)); exact Kd.V_mono HO_4.out (fun _ hk => ⟨hk.1.1, hk.2⟩)⟩, ⟨mv HO440.out⟩, ⟨by (with_reducible repeat (first | apply Kd.V_alloc | apply Kd.V_drewN | apply Kd.V_drew)); exact Kd.V_mono HO_85.out (fun _ hk => ⟨hk.1.1, hk.2⟩)⟩, ⟨bt⟩, ⟨(by (with_reducible repeat (first | apply MR_alloc | apply MR_drewN | apply MR_drew)); exact HM13.out)⟩, ⟨(by (with_reducible repeat (first | apply MR_alloc | apply MR_drewN | apply MR_drew)); exact HM17.out)⟩, HNE⟩
                    ·rw [if_neg c63] at H
                     exact absurd H (by simp)
                   ·rw [if_neg c62] at H
                    exact absurd H (by simp)
                  ·rw [if_neg c60] at H
                   exact absurd H (by simp)
                 ·rw [if_neg c58] at H
                  have c58b0 : ((Int.tmod (rd x2_3 x87_4) 2) == 1) = false := beq_eq_false_iff_ne.mpr c58
                  have c58b1 : ((Int.tmod (rd x2_3 x87_4) 2) != 1) = true := bne_iff_ne.mpr c58
                  replace H := Option.bind_eq_some_iff.mp H
                  obtain ⟨t444, A710, H⟩ := H
                  (try dsimp -simprocs only at H)
                  have A71 := Aside0.mk A710
                  clear A710
                  by_cases c72 : x12_4.length < 5864062014805
                  ·rw [if_pos c72] at H
                   have LMc72 := Aside0.mk c72
                   clear c72
                   obtain ⟨y447, hy447⟩ : ∃ y_ : List (List Int), y_ = (x12_4 ++ [t444]) := ⟨_, rfl⟩
                   replace H : (if 0 ≤ (wrap64 ((y447.length : Int) - 1)) then (if (wrap64 ((y447.length : Int) - 1)) < (y447.length : Int) then ((impl_Digest.f a0 (rd_L2 y447 (wrap64 ((y447.length : Int) - 1)))).bind fun t451 => ((fake_mp_put.f x17_40 (wrap64 (Int.tdiv (rd x2_3 x87_4) 2)) t451).bind fun t452 => (impl_climbMany.l2 kj40 a0 a1 x2_3 x4_40 y447 x13_3 x16_3 t452 x2_3 (x2_3.length : Int) (wrap64 (x87_4 + 1))))) else (none)) else (none)) = some (r1, r2) := by first | (rw [hy447]; exact H) | exact H
                   have Ny447 := Aside0.mk hy447
                   clear hy447
                   obtain ⟨ji73, hji73⟩ : ∃ j_ : Int, (wrap64 ((y447.length : Int) - 1)) = j_ := ⟨_, rfl⟩
                   replace H : (if 0 ≤ (ji73) then (if (ji73) < (y447.length : Int) then ((impl_Digest.f a0 (rd_L2 y447 (ji73))).bind fun t451 => ((fake_mp_put.f x17_40 (wrap64 (Int.tdiv (rd x2_3 x87_4) 2)) t451).bind fun t452 => (impl_climbMany.l2 kj40 a0 a1 x2_3 x4_40 y447 x13_3 x16_3 t452 x2_3 (x2_3.length : Int) (wrap64 (x87_4 + 1))))) else (none)) else (none)) = some (r1, r2) := by first | (rw [hji73] at H; exact H) | (simp only [hji73] at H ⊢; exact H)
                   (try rw [hji73] at A57)
                   (try rw [hji73] at A71)
                   have hji73w : (IntKind.i64.wrap ((y447.length : Int) - 1)) = ji73 := (i64_w _).trans hji73
                   by_cases c74 : 0 ≤ (ji73)
                   ·rw [if_pos c74] at H
                    have c74b0 : decide (0 ≤ (ji73)) = true := decide_eq_true c74
                    clear c74
                    by_cases c75 : (ji73) < (y447.length : Int)
                    ·rw [if_pos c75] at H
                     have c75b0 : decide ((ji73) < (y447.length : Int)) = true := decide_eq_true c75
                     clear c75
                     replace H := Option.bind_eq_some_iff.mp H
                     obtain ⟨t451, A760, H⟩ := H
                     (try dsimp -simprocs only at H)
                     have A76 := Aside0.mk A760
                     clear A760
                     replace H := Option.bind_eq_some_iff.mp H
                     obtain ⟨t452, A770, H⟩ := H
                     (try dsimp -simprocs only at H)
                     have A77 := Aside0.mk A770
                     clear A770
                     have H' := Aside0.mk H
                     clear H
                     go_wp2_with (first | (at_lookup; refine wp_mget rfl _ _ rfl rfl rfl (by (with_reducible repeat (first | apply MR_alloc | apply MR_drewN | apply MR_drew)); exact HM13.out) A57.out ?_) | (go_at_call 72; (with_reducible refine (impl_nodeInput.calls kj40 t434 x20_40 t444 _ A71.out).mono ?_); rintro e w78 ⟨v445, rfl, ho0, hb⟩; (try (replace HM13 := Aside0.mk (MR_below (by (with_reducible repeat (first | apply MR_alloc | apply MR_drewN | apply MR_drew)); exact HM13.out) hb))); (try (replace HM17 := Aside0.mk (MR_below (by (with_reducible repeat (first | apply MR_alloc | apply MR_drewN | apply MR_drew)); exact HM17.out) hb))); replace HO_2 := Aside0.mk (Kd.V_elder' (mv HO_2.out) (Kd.R_base ho0) hb); replace HO_4 := Aside0.mk (Kd.V_elder' (mv HO_4.out) (Kd.R_base ho0) hb); replace HO_12 := Aside0.mk (Kd.S_elder' (mv HO_12.out) (Kd.R_base ho0) hb); replace HO_85 := Aside0.mk (Kd.V_elder' (mv HO_85.out) (Kd.R_base ho0) hb); have HO446 := Aside0.mk (Kd.R_lower (Kd.R_newM (M := fun k_ => (w.heap.size ≤ k_)) ho0 (below_size (bt)) (fun k_ h_ => h_)) (below_size (bt))); replace HB := Aside0.mk (below_step (bt) hb); (try clear hb); (try clear hb2); (try clear hk); (try clear hi); (try clear ho0); obtain ⟨Ao80, co80, eo80⟩ := Kd.R_slice HO446.out; subst eo80) | ((with_reducible refine gate_builtin (b := .append) (xs := #[.tmp 141, .tmp 145]) rfl ?_); (try (refine gate_guard (by rfl) ?_; dsimp only)); at_builtin; refine Kd.S_append (Kd.slice 5 (Kd.int .u8)) (w0 := w) w.heap.size rfl (.tmp 141) (.tmp 145) 30 22 (.slice none 0 0) 24 rfl Try.underlying30 info22 rfl (by decide) (by omega) u12 x12_4 t444 [.slice Ao80 t444.length co80] (fun k_ => (w.heap.size ≤ k_)) (fun k_ => some k_ = (.slice Ao80 t444.length co80 : Value).ownBlock) rfl rfl ?aP (fun k_ hk_ => ((Kd.R_mono (ok' := fun k_ => ((fun k_ => (w.heap.size ≤ k_))) k_ ∧ some k_ ≠ (u12 : Value).ownBlock) (Kd.R_apart' (HO446.out) (Kd.S_typed HO_12.out) (by decide)) (fun k_ hk => ⟨hk.1.1, hk.2⟩))).1 k_ hk_.symm) ?aF ?aO ?aB ?aS ?aL ?_; (case aP => exact Kd.M_row (Kd.R_mono (Kd.R_tight rfl (Kd.R_mono (ok' := fun k_ => ((fun k_ => (w.heap.size ≤ k_))) k_ ∧ some k_ ≠ (u12 : Value).ownBlock) (Kd.R_apart' (HO446.out) (Kd.S_typed HO_12.out) (by decide)) (fun k_ hk => ⟨hk.1.1, hk.2⟩))) (fun _ h_ => h_))); (case aB => exact (bt)); (case aF => exact (fun k_ hk => (Nat.le_trans (below_size (bt)) hk))); (case aO => exact (by (with_reducible repeat (first | apply Kd.S_alloc | apply Kd.S_drewN | apply Kd.S_drew)); exact Kd.S_mono HO_12.out (fun k_ hk => ⟨hk.1, fun e_ => hk.2 e_⟩))); (case aS => exact (below_size (bt))); (case aL => have := LMc72.out; omega); intro v448 w79 ho hb hg hat; (try (replace HM13 := Aside0.mk (MR_grown (by (with_reducible repeat (first | apply MR_alloc | apply MR_drewN | apply MR_drew)); exact HM13.out) hg (MR_ne HM13.out (Kd.S_typed (by (with_reducible repeat (first | apply Kd.S_alloc | apply Kd.S_drewN | apply Kd.S_drew)); exact HO_12.out)))))); (try (replace HM17 := Aside0.mk (MR_grown (by (with_reducible repeat (first | apply MR_alloc | apply MR_drewN | apply MR_drew)); exact HM17.out) hg (MR_ne HM17.out (Kd.S_typed (by (with_reducible repeat (first | apply Kd.S_alloc | apply Kd.S_drewN | apply Kd.S_drew)); exact HO_12.out)))))); rw [← Ny447.out] at ho; replace HO_2 := Aside0.mk (Kd.V_afterv (ok := (fun k_ => ((P2_ k_ ∨ P4_ k_) ∨ w.heap.size ≤ k_) ∧ some k_ ≠ (.slice Ao80 t444.length co80 : Value).ownBlock)) (by (with_reducible repeat (first | apply Kd.V_alloc | apply Kd.V_drewN | apply Kd.V_drew)); exact Kd.V_mono HO_2.out (fun _ hk => ⟨⟨hk.1.1, hk.2⟩, hk.1.2⟩)) hg hat); replace HO_4 := Aside0.mk (Kd.V_afterv (ok := (fun k_ => ((P2_ k_ ∨ P4_ k_) ∨ w.heap.size ≤ k_) ∧ some k_ ≠ (.slice Ao80 t444.length co80 : Value).ownBlock)) (by (with_reducible repeat (first | apply Kd.V_alloc | apply Kd.V_drewN | apply Kd.V_drew)); exact Kd.V_mono HO_4.out (fun _ hk => ⟨⟨hk.1.1, hk.2⟩, hk.1.2⟩)) hg hat); replace HO_85 := Aside0.mk (Kd.V_afterv (ok := (fun k_ => ((P2_ k_ ∨ P4_ k_) ∨ w.heap.size ≤ k_) ∧ some k_ ≠ (.slice Ao80 t444.length co80 : Value).ownBlock)) (by (with_reducible repeat (first | apply Kd.V_alloc | apply Kd.V_drewN | apply Kd.V_drew)); exact Kd.V_mono HO_85.out (fun _ hk => ⟨⟨hk.1.1, hk.2⟩, hk.1.2⟩)) hg hat); replace HB := Aside0.mk (hb); have HO449 := Aside0.mk (ho); clear HO_12 HO446; clear ho hb hg hat; obtain ⟨Ao81, co81, eo81⟩ := Kd.S_slice HO449.out; subst eo81; have p450 : 0 ≤ ((ji73) : Int) := of_decide_eq_true asm; have q450 : (ji73) < (y447.length : Int) := of_decide_eq_true asm; obtain ⟨ad450, A450_0, c450_0, e450, hx450_0, hl450_0, hi450_0⟩ := at_L2 (Kd.S_reads' HO449.out).2.2 (ji73) p450 q450; cases e450; obtain ⟨ce450, hce450, hMe450, hcc450⟩ := Kd.S_get HO449.out [] (ji73) p450 (by first | exact q450 | exact of_decide_eq_true asm | (have e_ := (Kd.S_reads' HO449.out).1; omega)); obtain ⟨ve450_0, rfl, ge450_0⟩ := hMe450; have hv450_0 := hcc450 0 _ rfl; rw [Nat.add_zero, show ((Kd.slice 5 (Kd.int .u8))).sz = 1 from rfl, Nat.mul_one] at hv450_0; replace hv450_0 := Option.some.inj (hv450_0.symm.trans hx450_0); rw [hv450_0] at ge450_0; have HL450_0 := Aside0.mk (show Kd.R (Kd.int .u8) 5 _ _ _ _ (rd_L2 y447 (ji73)) from ge450_0); clear hv450_0 ge450_0; clear hcc450 hce450; have HR450_0 := Aside0.mk hi450_0; have HC450_0 := Aside0.mk hl450_0; clear hi450_0 hl450_0; replace p450 := eq_true p450; replace q450 := eq_true q450) | (go_at_call 29; (with_reducible refine (impl_Digest.calls a0 _ _ (rd_L2 y447 (ji73)) t451 _ ?side1 ?side2 A76.out).mono ?_); (case side1 => repeat (first | exact (by repeat (first | (with_reducible exact HR450_0.out) | (with_reducible refine Kd.C_alloc ?_ _) | (with_reducible refine Kd.C_drewN ?_ _) | (with_reducible refine Kd.C_drew ?_) | exact HR450_0.out)) | (with_reducible refine Kd.C_alloc ?_ _) | (with_reducible refine Kd.C_drewN ?_ _) | (with_reducible refine Kd.C_drew ?_))); (case side2 => exact HC450_0.out); rintro e w82 ⟨rfl, hb⟩; (try (replace HM13 := Aside0.mk (MR_below (by (with_reducible repeat (first | apply MR_alloc | apply MR_drewN | apply MR_drew)); exact HM13.out) hb))); (try (replace HM17 := Aside0.mk (MR_below (by (with_reducible repeat (first | apply MR_alloc | apply MR_drewN | apply MR_drew)); exact HM17.out) hb))); replace HO_2 := Aside0.mk (Kd.V_below (mv HO_2.out) hb); replace HO_4 := Aside0.mk (Kd.V_below (mv HO_4.out) hb); replace HO_85 := Aside0.mk (Kd.V_below (mv HO_85.out) hb); replace HO449 := Aside0.mk (Kd.S_below (mv HO449.out) hb); replace HL450_0 := Aside0.mk (Kd.R_below (mv HL450_0.out) hb); replace HR450_0 := Aside0.mk (Kd.C_below (by repeat (first | (with_reducible exact HR450_0.out) | (with_reducible refine Kd.C_alloc ?_ _) | (with_reducible refine Kd.C_drewN ?_ _) | (with_reducible refine Kd.C_drew ?_) | exact HR450_0.out)) hb); replace HB := Aside0.mk (below_step (bt) hb); (try clear hb); (try clear hb2); (try clear hk); (try clear hi)) | (at_mapUpdate; refine wp_mput rfl rfl _ _ _ rfl rfl rfl rfl (by (with_reducible repeat (first | apply MR_alloc | apply MR_drewN | apply MR_drew)); exact HM17.out) A77.out ?_; intro wm hM_ ht_; (first | replace HO449 := Aside0.mk (V_turn (mv HO449.out) ht_) | replace HO449 := Aside0.mk (S_turn (mv HO449.out) ht_)); (first | replace HO_2 := Aside0.mk (V_turn (mv HO_2.out) ht_) | replace HO_2 := Aside0.mk (S_turn (mv HO_2.out) ht_)); (first | replace HO_4 := Aside0.mk (V_turn (mv HO_4.out) ht_) | replace HO_4 := Aside0.mk (S_turn (mv HO_4.out) ht_)); (first | replace HO_85 := Aside0.mk (V_turn (mv HO_85.out) ht_) | replace HO_85 := Aside0.mk (S_turn (mv HO_85.out) ht_)); replace HM13 := Aside0.mk (MR_turn (by (with_reducible repeat (first | apply MR_alloc | apply MR_drewN | apply MR_drew)); exact HM13.out) ht_ HNE.out); replace HB := Aside0.mk (below_turn (bt) ht_); replace HM17 := Aside0.mk hM_; clear hM_ ht_))
                     repeat (go_quiet (first | (at_lookup; refine wp_mget rfl _ _ rfl rfl rfl (by (with_reducible repeat (first | apply MR_alloc | apply MR_drewN | apply MR_drew)); exact HM13.out) A57.out ?_) | (go_at_call 72; (with_reducible refine (impl_nodeInput.calls kj40 t434 x20_40 t444 _ A71.out).mono ?_); rintro e w78 ⟨v445, rfl, ho0, hb⟩; (try (replace HM13 := Aside0.mk (MR_below (by (with_reducible repeat (first | apply MR_alloc | apply MR_drewN | apply MR_drew)); exact HM13.out) hb))); (try (replace HM17 := Aside0.mk (MR_below (by (with_reducible repeat (first | apply MR_alloc | apply MR_drewN | apply MR_drew)); exact HM17.out) hb))); replace HO_2 := Aside0.mk (Kd.V_elder' (mv HO_2.out) (Kd.R_base ho0) hb); replace HO_4 := Aside0.mk (Kd.V_elder' (mv HO_4.out) (Kd.R_base ho0) hb); replace HO_12 := Aside0.mk (Kd.S_elder' (mv HO_12.out) (Kd.R_base ho0) hb); replace HO_85 := Aside0.mk (Kd.V_elder' (mv HO_85.out) (Kd.R_base ho0) hb); have HO446 := Aside0.mk (Kd.R_lower (Kd.R_newM (M := fun k_ => (w.heap.size ≤ k_)) ho0 (below_size (bt)) (fun k_ h_ => h_)) (below_size (bt))); replace HB := Aside0.mk (below_step (bt) hb); (try clear hb); (try clear hb2); (try clear hk); (try clear hi); (try clear ho0); obtain ⟨Ao80, co80, eo80⟩ := Kd.R_slice HO446.out; subst eo80) | ((with_reducible refine gate_builtin (b := .append) (xs := #[.tmp 141, .tmp 145]) rfl ?_); (try (refine gate_guard (by rfl) ?_; dsimp only)); at_builtin; refine Kd.S_append (Kd.slice 5 (Kd.int .u8)) (w0 := w) w.heap.size rfl (.tmp 141) (.tmp 145) 30 22 (.slice none 0 0) 24 rfl Try.underlying30 info22 rfl (by decide) (by omega) u12 x12_4 t444 [.slice Ao80 t444.length co80] (fun k_ => (w.heap.size ≤ k_)) (fun k_ => some k_ = (.slice Ao80 t444.length co80 : Value).ownBlock) rfl rfl ?aP (fun k_ hk_ => ((Kd.R_mono (ok' := fun k_ => ((fun k_ => (w.heap.size ≤ k_))) k_ ∧ some k_ ≠ (u12 : Value).ownBlock) (Kd.R_apart' (HO446.out) (Kd.S_typed HO_12.out) (by decide)) (fun k_ hk => ⟨hk.1.1, hk.2⟩))).1 k_ hk_.symm) ?aF ?aO ?aB ?aS ?aL ?_; (case aP => exact Kd.M_row (Kd.R_mono (Kd.R_tight rfl (Kd.R_mono (ok' := fun k_ => ((fun k_ => (w.heap.size ≤ k_))) k_ ∧ some k_ ≠ (u12 : Value).ownBlock) (Kd.R_apart' (HO446.out) (Kd.S_typed HO_12.out) (by decide)) (fun k_ hk => ⟨hk.1.1, hk.2⟩))) (fun _ h_ => h_))); (case aB => exact (bt)); (case aF => exact (fun k_ hk => (Nat.le_trans (below_size (bt)) hk))); (case aO => exact (by (with_reducible repeat (first | apply Kd.S_alloc | apply Kd.S_drewN | apply Kd.S_drew)); exact Kd.S_mono HO_12.out (fun k_ hk => ⟨hk.1, fun e_ => hk.2 e_⟩))); (case aS => exact (below_size (bt))); (case aL => have := LMc72.out; omega); intro v448 w79 ho hb hg hat; (try (replace HM13 := Aside0.mk (MR_grown (by (with_reducible repeat (first | apply MR_alloc | apply MR_drewN | apply MR_drew)); exact HM13.out) hg (MR_ne HM13.out (Kd.S_typed (by (with_reducible repeat (first | apply Kd.S_alloc | apply Kd.S_drewN | apply Kd.S_drew)); exact HO_12.out)))))); (try (replace HM17 := Aside0.mk (MR_grown (by (with_reducible repeat (first | apply MR_alloc | apply MR_drewN | apply MR_drew)); exact HM17.out) hg (MR_ne HM17.out (Kd.S_typed (by (with_reducible repeat (first | apply Kd.S_alloc | apply Kd.S_drewN | apply Kd.S_drew)); exact HO_12.out)))))); rw [← Ny447.out] at ho; replace HO_2 := Aside0.mk (Kd.V_afterv (ok := (fun k_ => ((P2_ k_ ∨ P4_ k_) ∨ w.heap.size ≤ k_) ∧ some k_ ≠ (.slice Ao80 t444.length co80 : Value).ownBlock)) (by (with_reducible repeat (first | apply Kd.V_alloc | apply Kd.V_drewN | apply Kd.V_drew)); exact Kd.V_mono HO_2.out (fun _ hk => ⟨⟨hk.1.1, hk.2⟩, hk.1.2⟩)) hg hat); replace HO_4 := Aside0.mk (Kd.V_afterv (ok := (fun k_ => ((P2_ k_ ∨ P4_ k_) ∨ w.heap.size ≤ k_) ∧ some k_ ≠ (.slice Ao80 t444.length co80 : Value).ownBlock)) (by (with_reducible repeat (first | apply Kd.V_alloc | apply Kd.V_drewN | apply Kd.V_drew)); exact Kd.V_mono HO_4.out (fun _ hk => ⟨⟨hk.1.1, hk.2⟩, hk.1.2⟩)) hg hat); replace HO_85 := Aside0.mk (Kd.V_afterv (ok := (fun k_ => ((P2_ k_ ∨ P4_ k_) ∨ w.heap.size ≤ k_) ∧ some k_ ≠ (.slice Ao80 t444.length co80 : Value).ownBlock)) (by (with_reducible repeat (first | apply Kd.V_alloc | apply Kd.V_drewN | apply Kd.V_drew)); exact Kd.V_mono HO_85.out (fun _ hk => ⟨⟨hk.1.1, hk.2⟩, hk.1.2⟩)) hg hat); replace HB := Aside0.mk (hb); have HO449 := Aside0.mk (ho); clear HO_12 HO446; clear ho hb hg hat; obtain ⟨Ao81, co81, eo81⟩ := Kd.S_slice HO449.out; subst eo81; have p450 : 0 ≤ ((ji73) : Int) := of_decide_eq_true asm; have q450 : (ji73) < (y447.length : Int) := of_decide_eq_true asm; obtain ⟨ad450, A450_0, c450_0, e450, hx450_0, hl450_0, hi450_0⟩ := at_L2 (Kd.S_reads' HO449.out).2.2 (ji73) p450 q450; cases e450; obtain ⟨ce450, hce450, hMe450, hcc450⟩ := Kd.S_get HO449.out [] (ji73) p450 (by first | exact q450 | exact of_decide_eq_true asm | (have e_ := (Kd.S_reads' HO449.out).1; omega)); obtain ⟨ve450_0, rfl, ge450_0⟩ := hMe450; have hv450_0 := hcc450 0 _ rfl; rw [Nat.add_zero, show ((Kd.slice 5 (Kd.int .u8))).sz = 1 from rfl, Nat.mul_one] at hv450_0; replace hv450_0 := Option.some.inj (hv450_0.symm.trans hx450_0); rw [hv450_0] at ge450_0; have HL450_0 := Aside0.mk (show Kd.R (Kd.int .u8) 5 _ _ _ _ (rd_L2 y447 (ji73)) from ge450_0); clear hv450_0 ge450_0; clear hcc450 hce450; have HR450_0 := Aside0.mk hi450_0; have HC450_0 := Aside0.mk hl450_0; clear hi450_0 hl450_0; replace p450 := eq_true p450; replace q450 := eq_true q450) | (go_at_call 29; (with_reducible refine (impl_Digest.calls a0 _ _ (rd_L2 y447 (ji73)) t451 _ ?side1 ?side2 A76.out).mono ?_); (case side1 => repeat (first | exact (by repeat (first | (with_reducible exact HR450_0.out) | (with_reducible refine Kd.C_alloc ?_ _) | (with_reducible refine Kd.C_drewN ?_ _) | (with_reducible refine Kd.C_drew ?_) | exact HR450_0.out)) | (with_reducible refine Kd.C_alloc ?_ _) | (with_reducible refine Kd.C_drewN ?_ _) | (with_reducible refine Kd.C_drew ?_))); (case side2 => exact HC450_0.out); rintro e w82 ⟨rfl, hb⟩; (try (replace HM13 := Aside0.mk (MR_below (by (with_reducible repeat (first | apply MR_alloc | apply MR_drewN | apply MR_drew)); exact HM13.out) hb))); (try (replace HM17 := Aside0.mk (MR_below (by (with_reducible repeat (first | apply MR_alloc | apply MR_drewN | apply MR_drew)); exact HM17.out) hb))); replace HO_2 := Aside0.mk (Kd.V_below (mv HO_2.out) hb); replace HO_4 := Aside0.mk (Kd.V_below (mv HO_4.out) hb); replace HO_85 := Aside0.mk (Kd.V_below (mv HO_85.out) hb); replace HO449 := Aside0.mk (Kd.S_below (mv HO449.out) hb); replace HL450_0 := Aside0.mk (Kd.R_below (mv HL450_0.out) hb); replace HR450_0 := Aside0.mk (Kd.C_below (by repeat (first | (with_reducible exact HR450_0.out) | (with_reducible refine Kd.C_alloc ?_ _) | (with_reducible refine Kd.C_drewN ?_ _) | (with_reducible refine Kd.C_drew ?_) | exact HR450_0.out)) hb); replace HB := Aside0.mk (below_step (bt) hb); (try clear hb); (try clear hb2); (try clear hk); (try clear hi)) | (at_mapUpdate; refine wp_mput rfl rfl _ _ _ rfl rfl rfl rfl (by (with_reducible repeat (first | apply MR_alloc | apply MR_drewN | apply MR_drew)); exact HM17.out) A77.out ?_; intro wm hM_ ht_; (first | replace HO449 := Aside0.mk (V_turn (mv HO449.out) ht_) | replace HO449 := Aside0.mk (S_turn (mv HO449.out) ht_)); (first | replace HO_2 := Aside0.mk (V_turn (mv HO_2.out) ht_) | replace HO_2 := Aside0.mk (S_turn (mv HO_2.out) ht_)); (first | replace HO_4 := Aside0.mk (V_turn (mv HO_4.out) ht_) | replace HO_4 := Aside0.mk (S_turn (mv HO_4.out) ht_)); (first | replace HO_85 := Aside0.mk (V_turn (mv HO_85.out) ht_) | replace HO_85 := Aside0.mk (S_turn (mv HO_85.out) ht_)); replace HM13 := Aside0.mk (MR_turn (by (with_reducible repeat (first | apply MR_alloc | apply MR_drewN | apply MR_drew)); exact HM13.out) ht_ HNE.out); replace HB := Aside0.mk (below_turn (bt) ht_); replace HM17 := Aside0.mk hM_; clear hM_ ht_)); try go_wp2_with (first | (at_lookup; refine wp_mget rfl _ _ rfl rfl rfl (by (with_reducible repeat (first | apply MR_alloc | apply MR_drewN | apply MR_drew)); exact HM13.out) A57.out ?_) | (go_at_call 72; (with_reducible refine (impl_nodeInput.calls kj40 t434 x20_40 t444 _ A71.out).mono ?_); rintro e w78 ⟨v445, rfl, ho0, hb⟩; (try (replace HM13 := Aside0.mk (MR_below (by (with_reducible repeat (first | apply MR_alloc | apply MR_drewN | apply MR_drew)); exact HM13.out) hb))); (try (replace HM17 := Aside0.mk (MR_below (by (with_reducible repeat (first | apply MR_alloc | apply MR_drewN | apply MR_drew)); exact HM17.out) hb))); replace HO_2 := Aside0.mk (Kd.V_elder' (mv HO_2.out) (Kd.R_base ho0) hb); replace HO_4 := Aside0.mk (Kd.V_elder' (mv HO_4.out) (Kd.R_base ho0) hb); replace HO_12 := Aside0.mk (Kd.S_elder' (mv HO_12.out) (Kd.R_base ho0) hb); replace HO_85 := Aside0.mk (Kd.V_elder' (mv HO_85.out) (Kd.R_base ho0) hb); have HO446 := Aside0.mk (Kd.R_lower (Kd.R_newM (M := fun k_ => (w.heap.size ≤ k_)) ho0 (below_size (bt)) (fun k_ h_ => h_)) (below_size (bt))); replace HB := Aside0.mk (below_step (bt) hb); (try clear hb); (try clear hb2); (try clear hk); (try clear hi); (try clear ho0); obtain ⟨Ao80, co80, eo80⟩ := Kd.R_slice HO446.out; subst eo80) | ((with_reducible refine gate_builtin (b := .append) (xs := #[.tmp 141, .tmp 145]) rfl ?_); (try (refine gate_guard (by rfl) ?_; dsimp only)); at_builtin; refine Kd.S_append (Kd.slice 5 (Kd.int .u8)) (w0 := w) w.heap.size rfl (.tmp 141) (.tmp 145) 30 22 (.slice none 0 0) 24 rfl Try.underlying30 info22 rfl (by decide) (by omega) u12 x12_4 t444 [.slice Ao80 t444.length co80] (fun k_ => (w.heap.size ≤ k_)) (fun k_ => some k_ = (.slice Ao80 t444.length co80 : Value).ownBlock) rfl rfl ?aP (fun k_ hk_ => ((Kd.R_mono (ok' := fun k_ => ((fun k_ => (w.heap.size ≤ k_))) k_ ∧ some k_ ≠ (u12 : Value).ownBlock) (Kd.R_apart' (HO446.out) (Kd.S_typed HO_12.out) (by decide)) (fun k_ hk => ⟨hk.1.1, hk.2⟩))).1 k_ hk_.symm) ?aF ?aO ?aB ?aS ?aL ?_; (case aP => exact Kd.M_row (Kd.R_mono (Kd.R_tight rfl (Kd.R_mono (ok' := fun k_ => ((fun k_ => (w.heap.size ≤ k_))) k_ ∧ some k_ ≠ (u12 : Value).ownBlock) (Kd.R_apart' (HO446.out) (Kd.S_typed HO_12.out) (by decide)) (fun k_ hk => ⟨hk.1.1, hk.2⟩))) (fun _ h_ => h_))); (case aB => exact (bt)); (case aF => exact (fun k_ hk => (Nat.le_trans (below_size (bt)) hk))); (case aO => exact (by (with_reducible repeat (first | apply Kd.S_alloc | apply Kd.S_drewN | apply Kd.S_drew)); exact Kd.S_mono HO_12.out (fun k_ hk => ⟨hk.1, fun e_ => hk.2 e_⟩))); (case aS => exact (below_size (bt))); (case aL => have := LMc72.out; omega); intro v448 w79 ho hb hg hat; (try (replace HM13 := Aside0.mk (MR_grown (by (with_reducible repeat (first | apply MR_alloc | apply MR_drewN | apply MR_drew)); exact HM13.out) hg (MR_ne HM13.out (Kd.S_typed (by (with_reducible repeat (first | apply Kd.S_alloc | apply Kd.S_drewN | apply Kd.S_drew)); exact HO_12.out)))))); (try (replace HM17 := Aside0.mk (MR_grown (by (with_reducible repeat (first | apply MR_alloc | apply MR_drewN | apply MR_drew)); exact HM17.out) hg (MR_ne HM17.out (Kd.S_typed (by (with_reducible repeat (first | apply Kd.S_alloc | apply Kd.S_drewN | apply Kd.S_drew)); exact HO_12.out)))))); rw [← Ny447.out] at ho; replace HO_2 := Aside0.mk (Kd.V_afterv (ok := (fun k_ => ((P2_ k_ ∨ P4_ k_) ∨ w.heap.size ≤ k_) ∧ some k_ ≠ (.slice Ao80 t444.length co80 : Value).ownBlock)) (by (with_reducible repeat (first | apply Kd.V_alloc | apply Kd.V_drewN | apply Kd.V_drew)); exact Kd.V_mono HO_2.out (fun _ hk => ⟨⟨hk.1.1, hk.2⟩, hk.1.2⟩)) hg hat); replace HO_4 := Aside0.mk (Kd.V_afterv (ok := (fun k_ => ((P2_ k_ ∨ P4_ k_) ∨ w.heap.size ≤ k_) ∧ some k_ ≠ (.slice Ao80 t444.length co80 : Value).ownBlock)) (by (with_reducible repeat (first | apply Kd.V_alloc | apply Kd.V_drewN | apply Kd.V_drew)); exact Kd.V_mono HO_4.out (fun _ hk => ⟨⟨hk.1.1, hk.2⟩, hk.1.2⟩)) hg hat); replace HO_85 := Aside0.mk (Kd.V_afterv (ok := (fun k_ => ((P2_ k_ ∨ P4_ k_) ∨ w.heap.size ≤ k_) ∧ some k_ ≠ (.slice Ao80 t444.length co80 : Value).ownBlock)) (by (with_reducible repeat (first | apply Kd.V_alloc | apply Kd.V_drewN | apply Kd.V_drew)); exact Kd.V_mono HO_85.out (fun _ hk => ⟨⟨hk.1.1, hk.2⟩, hk.1.2⟩)) hg hat); replace HB := Aside0.mk (hb); have HO449 := Aside0.mk (ho); clear HO_12 HO446; clear ho hb hg hat; obtain ⟨Ao81, co81, eo81⟩ := Kd.S_slice HO449.out; subst eo81; have p450 : 0 ≤ ((ji73) : Int) := of_decide_eq_true asm; have q450 : (ji73) < (y447.length : Int) := of_decide_eq_true asm; obtain ⟨ad450, A450_0, c450_0, e450, hx450_0, hl450_0, hi450_0⟩ := at_L2 (Kd.S_reads' HO449.out).2.2 (ji73) p450 q450; cases e450; obtain ⟨ce450, hce450, hMe450, hcc450⟩ := Kd.S_get HO449.out [] (ji73) p450 (by first | exact q450 | exact of_decide_eq_true asm | (have e_ := (Kd.S_reads' HO449.out).1; omega)); obtain ⟨ve450_0, rfl, ge450_0⟩ := hMe450; have hv450_0 := hcc450 0 _ rfl; rw [Nat.add_zero, show ((Kd.slice 5 (Kd.int .u8))).sz = 1 from rfl, Nat.mul_one] at hv450_0; replace hv450_0 := Option.some.inj (hv450_0.symm.trans hx450_0); rw [hv450_0] at ge450_0; have HL450_0 := Aside0.mk (show Kd.R (Kd.int .u8) 5 _ _ _ _ (rd_L2 y447 (ji73)) from ge450_0); clear hv450_0 ge450_0; clear hcc450 hce450; have HR450_0 := Aside0.mk hi450_0; have HC450_0 := Aside0.mk hl450_0; clear hi450_0 hl450_0; replace p450 := eq_true p450; replace q450 := eq_true q450) | (go_at_call 29; (with_reducible refine (impl_Digest.calls a0 _ _ (rd_L2 y447 (ji73)) t451 _ ?side1 ?side2 A76.out).mono ?_); (case side1 => repeat (first | exact (by repeat (first | (with_reducible exact HR450_0.out) | (with_reducible refine Kd.C_alloc ?_ _) | (with_reducible refine Kd.C_drewN ?_ _) | (with_reducible refine Kd.C_drew ?_) | exact HR450_0.out)) | (with_reducible refine Kd.C_alloc ?_ _) | (with_reducible refine Kd.C_drewN ?_ _) | (with_reducible refine Kd.C_drew ?_))); (case side2 => exact HC450_0.out); rintro e w82 ⟨rfl, hb⟩; (try (replace HM13 := Aside0.mk (MR_below (by (with_reducible repeat (first | apply MR_alloc | apply MR_drewN | apply MR_drew)); exact HM13.out) hb))); (try (replace HM17 := Aside0.mk (MR_below (by (with_reducible repeat (first | apply MR_alloc | apply MR_drewN | apply MR_drew)); exact HM17.out) hb))); replace HO_2 := Aside0.mk (Kd.V_below (mv HO_2.out) hb); replace HO_4 := Aside0.mk (Kd.V_below (mv HO_4.out) hb); replace HO_85 := Aside0.mk (Kd.V_below (mv HO_85.out) hb); replace HO449 := Aside0.mk (Kd.S_below (mv HO449.out) hb); replace HL450_0 := Aside0.mk (Kd.R_below (mv HL450_0.out) hb); replace HR450_0 := Aside0.mk (Kd.C_below (by repeat (first | (with_reducible exact HR450_0.out) | (with_reducible refine Kd.C_alloc ?_ _) | (with_reducible refine Kd.C_drewN ?_ _) | (with_reducible refine Kd.C_drew ?_) | exact HR450_0.out)) hb); replace HB := Aside0.mk (below_step (bt) hb); (try clear hb); (try clear hb2); (try clear hk); (try clear hi)) | (at_mapUpdate; refine wp_mput rfl rfl _ _ _ rfl rfl rfl rfl (by (with_reducible repeat (first | apply MR_alloc | apply MR_drewN | apply MR_drew)); exact HM17.out) A77.out ?_; intro wm hM_ ht_; (first | replace HO449 := Aside0.mk (V_turn (mv HO449.out) ht_) | replace HO449 := Aside0.mk (S_turn (mv HO449.out) ht_)); (first | replace HO_2 := Aside0.mk (V_turn (mv HO_2.out) ht_) | replace HO_2 := Aside0.mk (S_turn (mv HO_2.out) ht_)); (first | replace HO_4 := Aside0.mk (V_turn (mv HO_4.out) ht_) | replace HO_4 := Aside0.mk (S_turn (mv HO_4.out) ht_)); (first | replace HO_85 := Aside0.mk (V_turn (mv HO_85.out) ht_) | replace HO_85 := Aside0.mk (S_turn (mv HO_85.out) ht_)); replace HM13 := Aside0.mk (MR_turn (by (with_reducible repeat (first | apply MR_alloc | apply MR_drewN | apply MR_drew)); exact HM13.out) ht_ HNE.out); replace HB := Aside0.mk (below_turn (bt) ht_); replace HM17 := Aside0.mk hM_; clear hM_ ht_)))
                     go_roundg kj40
                     case measure => have := HJ5.out; have := HK2.out; have := HK3.out; have := HK4.out; have := HJ40.out; omega
                     case rel => exact ⟨(x4_40), (y447), (t452), (wrap64 (x87_4 + 1)), (by first | rfl | (simp; done) | (simp [*]; done)), H', ⟨by have := HJ5.out; have := HK2.out; have := HK3.out; have := HK4.out; have := HJ40.out; omega⟩, ⟨by (with_reducible repeat (first | apply Kd.V_alloc | apply Kd.V_drewN | apply Kd.V_drew)); exact Kd.V_mono HO_2.out (fun _ hk => ⟨hk.1.1, hk.2⟩)⟩, ⟨by (with_reducible repeat (first | apply Kd.V_alloc | apply Kd.V_drewN | apply Kd.V_drew)); exact Kd.V_mono HO_4.out (fun _ hk => ⟨hk.1.1, hk.2⟩)⟩, ⟨mv HO449.out⟩, ⟨by (with_reducible repeat (first | apply Kd.V_alloc | apply Kd.V_drewN | apply Kd.V_drew)); exact Kd.V_mono HO_85.out (fun _ hk => ⟨hk.1.1, hk.2⟩)⟩, ⟨bt⟩, ⟨(by (with_reducible repeat (first | apply MR_alloc | apply MR_drewN | apply MR_drew)); exact HM13.out)⟩, ⟨(by (with_reducible repeat (first | apply MR_alloc | apply MR_drewN | apply MR_drew)); exact HM17.out)⟩, HNE⟩
                    ·rw [if_neg c75] at H
                     exact absurd H (by simp)
                   ·rw [if_neg c74] at H
                    exact absurd H (by simp)
                  ·rw [if_neg c72] at H
                   exact absurd H (by simp)
              ·rw [if_neg c39] at H
               exact absurd H (by simp)
             ·rw [if_neg c38] at H
              exact absurd H (by simp)
            ·rw [if_neg c37] at H
             have c37b0 : decide (x87_4 < (x2_3.length : Int)) = false := decide_eq_false c37
             clear c37
             replace H := Option.bind_eq_some_iff.mp H
             obtain ⟨t420, A830, H⟩ := H
             (try dsimp -simprocs only at H)
             have A83 := Aside0.mk A830
             clear A830
             have H' := Aside0.mk H
             clear H
             go_wp2_with (first | (go_at_call 96; (with_reducible refine (impl_above.calls _ _ x2_3 t420 _ ?side1 ?side2 A83.out).mono ?_); (case side1 => exact cv ((Kd.V_reads' HO_2.out).2.2)); (case side2 => exact (Kd.V_reads' HO_2.out).2.1); rintro e w84 ⟨v421, rfl, ho0, hb⟩; (try (replace HM13 := Aside0.mk (MR_below (by (with_reducible repeat (first | apply MR_alloc | apply MR_drewN | apply MR_drew)); exact HM13.out) hb))); (try (replace HM17 := Aside0.mk (MR_below (by (with_reducible repeat (first | apply MR_alloc | apply MR_drewN | apply MR_drew)); exact HM17.out) hb))); replace HO_2 := Aside0.mk (Kd.V_elder' (mv HO_2.out) (Kd.R_base ho0) hb); replace HO_4 := Aside0.mk (Kd.V_elder' (mv HO_4.out) (Kd.R_base ho0) hb); replace HO_12 := Aside0.mk (Kd.S_below (mv HO_12.out) hb); replace HO_85 := Aside0.mk (Kd.V_elder' (mv HO_85.out) (Kd.R_base ho0) hb); have HO422 := Aside0.mk (Kd.R_lower (Kd.R_newM (M := fun k_ => (w.heap.size ≤ k_)) ho0 (below_size (bt)) (fun k_ h_ => h_)) (below_size (bt))); replace HB := Aside0.mk (below_step (bt) hb); (try clear hb); (try clear hb2); (try clear hk); (try clear hi); (try clear ho0)))
             repeat (go_quiet (first | (go_at_call 96; (with_reducible refine (impl_above.calls _ _ x2_3 t420 _ ?side1 ?side2 A83.out).mono ?_); (case side1 => exact cv ((Kd.V_reads' HO_2.out).2.2)); (case side2 => exact (Kd.V_reads' HO_2.out).2.1); rintro e w84 ⟨v421, rfl, ho0, hb⟩; (try (replace HM13 := Aside0.mk (MR_below (by (with_reducible repeat (first | apply MR_alloc | apply MR_drewN | apply MR_drew)); exact HM13.out) hb))); (try (replace HM17 := Aside0.mk (MR_below (by (with_reducible repeat (first | apply MR_alloc | apply MR_drewN | apply MR_drew)); exact HM17.out) hb))); replace HO_2 := Aside0.mk (Kd.V_elder' (mv HO_2.out) (Kd.R_base ho0) hb); replace HO_4 := Aside0.mk (Kd.V_elder' (mv HO_4.out) (Kd.R_base ho0) hb); replace HO_12 := Aside0.mk (Kd.S_below (mv HO_12.out) hb); replace HO_85 := Aside0.mk (Kd.V_elder' (mv HO_85.out) (Kd.R_base ho0) hb); have HO422 := Aside0.mk (Kd.R_lower (Kd.R_newM (M := fun k_ => (w.heap.size ≤ k_)) ho0 (below_size (bt)) (fun k_ h_ => h_)) (below_size (bt))); replace HB := Aside0.mk (below_step (bt) hb); (try clear hb); (try clear hb2); (try clear hk); (try clear hi); (try clear ho0))); try go_wp2_with (first | (go_at_call 96; (with_reducible refine (impl_above.calls _ _ x2_3 t420 _ ?side1 ?side2 A83.out).mono ?_); (case side1 => exact cv ((Kd.V_reads' HO_2.out).2.2)); (case side2 => exact (Kd.V_reads' HO_2.out).2.1); rintro e w84 ⟨v421, rfl, ho0, hb⟩; (try (replace HM13 := Aside0.mk (MR_below (by (with_reducible repeat (first | apply MR_alloc | apply MR_drewN | apply MR_drew)); exact HM13.out) hb))); (try (replace HM17 := Aside0.mk (MR_below (by (with_reducible repeat (first | apply MR_alloc | apply MR_drewN | apply MR_drew)); exact HM17.out) hb))); replace HO_2 := Aside0.mk (Kd.V_elder' (mv HO_2.out) (Kd.R_base ho0) hb); replace HO_4 := Aside0.mk (Kd.V_elder' (mv HO_4.out) (Kd.R_base ho0) hb); replace HO_12 := Aside0.mk (Kd.S_below (mv HO_12.out) hb); replace HO_85 := Aside0.mk (Kd.V_elder' (mv HO_85.out) (Kd.R_base ho0) hb); have HO422 := Aside0.mk (Kd.R_lower (Kd.R_newM (M := fun k_ => (w.heap.size ≤ k_)) ho0 (below_size (bt)) (fun k_ h_ => h_)) (below_size (bt))); replace HB := Aside0.mk (below_step (bt) hb); (try clear hb); (try clear hb2); (try clear hk); (try clear hi); (try clear ho0))))
             go_roundg k4
             case measure => have := HJ5.out; have := HK2.out; have := HK3.out; have := HK4.out; omega
             case rel => exact ⟨(t420), (x4_4), (x12_4), (x17_4), _, (wrap64 (Int.tdiv (wrap64 (x16_3 + 1)) 2)), (by first | rfl | (simp; done) | (simp [*]; done)), (by first | rfl | (simp; done) | (simp [*]; done)), H', ⟨by have := HJ5.out; have := HK2.out; have := HK3.out; have := HK4.out; omega⟩, ⟨by have hR_ := (Kd.R_apart' HO422.out (Kd.S_typed HO_12.out) (by decide)); exact Kd.V_mono (Kd.R_V hR_) (fun k_ hk => ⟨.inr (hk.1.1), hk.2⟩)⟩, ⟨by (with_reducible repeat (first | apply Kd.V_alloc | apply Kd.V_drewN | apply Kd.V_drew)); exact Kd.V_mono HO_4.out (fun _ hk => ⟨hk.1.1, hk.1.2⟩)⟩, ⟨mv HO_12.out⟩, ⟨bt⟩, ⟨(by (with_reducible repeat (first | apply MR_alloc | apply MR_drewN | apply MR_drew)); exact HM17.out)⟩⟩
         ·rw [if_neg c34] at H
          have c34b0 : decide (1 < x16_3) = false := decide_eq_false c34
          clear c34
          replace H := Option.bind_eq_some_iff.mp H
          obtain ⟨t412, A850, H⟩ := H
          (try dsimp -simprocs only at H)
          have A85 := Aside0.mk A850
          clear A850
          replace H := Option.bind_eq_some_iff.mp H
          obtain ⟨t413, A860, H⟩ := H
          (try dsimp -simprocs only at H)
          have A86 := Aside0.mk A860
          clear A860
          by_cases c87 : x12_3.length < 5864062014805
          ·rw [if_pos c87] at H
           have LMc87 := Aside0.mk c87
           clear c87
           obtain ⟨y416, hy416⟩ : ∃ y_ : List (List Int), y_ = (x12_3 ++ [t413]) := ⟨_, rfl⟩
           replace H : (some (y416, ((x4_3.length : Int) == 0))) = some (r1, r2) := by first | (rw [hy416]; exact H) | exact H
           have Ny416 := Aside0.mk hy416
           clear hy416
           simp only [Option.some.injEq, Prod.mk.injEq] at H
           obtain ⟨rfl, rfl⟩ := H
           go_wp2_with (first | (at_lookup; refine wp_mget rfl _ _ rfl rfl rfl (by (with_reducible repeat (first | apply MR_alloc | apply MR_drewN | apply MR_drew)); exact HM13.out) A85.out ?_) | (go_at_call 104; (with_reducible refine (impl_topInput.calls k3 a1 t412 t413 _ A86.out).mono ?_); rintro e w88 ⟨v414, rfl, ho0, hb⟩; (try (replace HM13 := Aside0.mk (MR_below (by (with_reducible repeat (first | apply MR_alloc | apply MR_drewN | apply MR_drew)); exact HM13.out) hb))); (try (replace HM17 := Aside0.mk (MR_below (by (with_reducible repeat (first | apply MR_alloc | apply MR_drewN | apply MR_drew)); exact HM17.out) hb))); replace HO_2 := Aside0.mk (Kd.V_elder' (mv HO_2.out) (Kd.R_base ho0) hb); replace HO_4 := Aside0.mk (Kd.V_elder' (mv HO_4.out) (Kd.R_base ho0) hb); replace HO_12 := Aside0.mk (Kd.S_elder' (mv HO_12.out) (Kd.R_base ho0) hb); have HO415 := Aside0.mk (Kd.R_lower (Kd.R_newM (M := fun k_ => (w.heap.size ≤ k_)) ho0 (below_size (bt)) (fun k_ h_ => h_)) (below_size (bt))); replace HB := Aside0.mk (below_step (bt) hb); (try clear hb); (try clear hb2); (try clear hk); (try clear hi); (try clear ho0); obtain ⟨Ao90, co90, eo90⟩ := Kd.R_slice HO415.out; subst eo90) | ((with_reducible refine gate_builtin (b := .append) (xs := #[.tmp 162, .tmp 167]) rfl ?_); (try (refine gate_guard (by rfl) ?_; dsimp only)); at_builtin; refine Kd.S_append (Kd.slice 5 (Kd.int .u8)) (w0 := w) w.heap.size rfl (.tmp 162) (.tmp 167) 30 22 (.slice none 0 0) 24 rfl Try.underlying30 info22 rfl (by decide) (by omega) u12 x12_3 t413 [.slice Ao90 t413.length co90] (fun k_ => (w.heap.size ≤ k_)) (fun k_ => some k_ = (.slice Ao90 t413.length co90 : Value).ownBlock) rfl rfl ?aP (fun k_ hk_ => ((Kd.R_mono (ok' := fun k_ => ((fun k_ => (w.heap.size ≤ k_))) k_ ∧ some k_ ≠ (u12 : Value).ownBlock) (Kd.R_apart' (HO415.out) (Kd.S_typed HO_12.out) (by decide)) (fun k_ hk => ⟨hk.1.1, hk.2⟩))).1 k_ hk_.symm) ?aF ?aO ?aB ?aS ?aL ?_; (case aP => exact Kd.M_row (Kd.R_mono (Kd.R_tight rfl (Kd.R_mono (ok' := fun k_ => ((fun k_ => (w.heap.size ≤ k_))) k_ ∧ some k_ ≠ (u12 : Value).ownBlock) (Kd.R_apart' (HO415.out) (Kd.S_typed HO_12.out) (by decide)) (fun k_ hk => ⟨hk.1.1, hk.2⟩))) (fun _ h_ => h_))); (case aB => exact (bt)); (case aF => exact (fun k_ hk => (Nat.le_trans (below_size (bt)) hk))); (case aO => exact (by (with_reducible repeat (first | apply Kd.S_alloc | apply Kd.S_drewN | apply Kd.S_drew)); exact Kd.S_mono HO_12.out (fun k_ hk => ⟨hk.1, fun e_ => hk.2 e_⟩))); (case aS => exact (below_size (bt))); (case aL => have := LMc87.out; omega); intro v417 w89 ho hb hg hat; (try (replace HM13 := Aside0.mk (MR_grown (by (with_reducible repeat (first | apply MR_alloc | apply MR_drewN | apply MR_drew)); exact HM13.out) hg (MR_ne HM13.out (Kd.S_typed (by (with_reducible repeat (first | apply Kd.S_alloc | apply Kd.S_drewN | apply Kd.S_drew)); exact HO_12.out)))))); (try (replace HM17 := Aside0.mk (MR_grown (by (with_reducible repeat (first | apply MR_alloc | apply MR_drewN | apply MR_drew)); exact HM17.out) hg (MR_ne HM17.out (Kd.S_typed (by (with_reducible repeat (first | apply Kd.S_alloc | apply Kd.S_drewN | apply Kd.S_drew)); exact HO_12.out)))))); rw [← Ny416.out] at ho; replace HO_2 := Aside0.mk (Kd.V_afterv (ok := (fun k_ => ((P2_ k_ ∨ P4_ k_) ∨ w.heap.size ≤ k_) ∧ some k_ ≠ (.slice Ao90 t413.length co90 : Value).ownBlock)) (by (with_reducible repeat (first | apply Kd.V_alloc | apply Kd.V_drewN | apply Kd.V_drew)); exact Kd.V_mono HO_2.out (fun _ hk => ⟨⟨hk.1.1, hk.2⟩, hk.1.2⟩)) hg hat); replace HO_4 := Aside0.mk (Kd.V_afterv (ok := (fun k_ => ((P2_ k_ ∨ P4_ k_) ∨ w.heap.size ≤ k_) ∧ some k_ ≠ (.slice Ao90 t413.length co90 : Value).ownBlock)) (by (with_reducible repeat (first | apply Kd.V_alloc | apply Kd.V_drewN | apply Kd.V_drew)); exact Kd.V_mono HO_4.out (fun _ hk => ⟨⟨hk.1.1, hk.2⟩, hk.1.2⟩)) hg hat); replace HB := Aside0.mk (hb); have HO418 := Aside0.mk (ho); clear HO_12 HO415; clear ho hb hg hat; obtain ⟨Ao91, co91, eo91⟩ := Kd.V_slice HO_4.out; subst eo91))
           repeat (go_quiet (first | (at_lookup; refine wp_mget rfl _ _ rfl rfl rfl (by (with_reducible repeat (first | apply MR_alloc | apply MR_drewN | apply MR_drew)); exact HM13.out) A85.out ?_) | (go_at_call 104; (with_reducible refine (impl_topInput.calls k3 a1 t412 t413 _ A86.out).mono ?_); rintro e w88 ⟨v414, rfl, ho0, hb⟩; (try (replace HM13 := Aside0.mk (MR_below (by (with_reducible repeat (first | apply MR_alloc | apply MR_drewN | apply MR_drew)); exact HM13.out) hb))); (try (replace HM17 := Aside0.mk (MR_below (by (with_reducible repeat (first | apply MR_alloc | apply MR_drewN | apply MR_drew)); exact HM17.out) hb))); replace HO_2 := Aside0.mk (Kd.V_elder' (mv HO_2.out) (Kd.R_base ho0) hb); replace HO_4 := Aside0.mk (Kd.V_elder' (mv HO_4.out) (Kd.R_base ho0) hb); replace HO_12 := Aside0.mk (Kd.S_elder' (mv HO_12.out) (Kd.R_base ho0) hb); have HO415 := Aside0.mk (Kd.R_lower (Kd.R_newM (M := fun k_ => (w.heap.size ≤ k_)) ho0 (below_size (bt)) (fun k_ h_ => h_)) (below_size (bt))); replace HB := Aside0.mk (below_step (bt) hb); (try clear hb); (try clear hb2); (try clear hk); (try clear hi); (try clear ho0); obtain ⟨Ao90, co90, eo90⟩ := Kd.R_slice HO415.out; subst eo90) | ((with_reducible refine gate_builtin (b := .append) (xs := #[.tmp 162, .tmp 167]) rfl ?_); (try (refine gate_guard (by rfl) ?_; dsimp only)); at_builtin; refine Kd.S_append (Kd.slice 5 (Kd.int .u8)) (w0 := w) w.heap.size rfl (.tmp 162) (.tmp 167) 30 22 (.slice none 0 0) 24 rfl Try.underlying30 info22 rfl (by decide) (by omega) u12 x12_3 t413 [.slice Ao90 t413.length co90] (fun k_ => (w.heap.size ≤ k_)) (fun k_ => some k_ = (.slice Ao90 t413.length co90 : Value).ownBlock) rfl rfl ?aP (fun k_ hk_ => ((Kd.R_mono (ok' := fun k_ => ((fun k_ => (w.heap.size ≤ k_))) k_ ∧ some k_ ≠ (u12 : Value).ownBlock) (Kd.R_apart' (HO415.out) (Kd.S_typed HO_12.out) (by decide)) (fun k_ hk => ⟨hk.1.1, hk.2⟩))).1 k_ hk_.symm) ?aF ?aO ?aB ?aS ?aL ?_; (case aP => exact Kd.M_row (Kd.R_mono (Kd.R_tight rfl (Kd.R_mono (ok' := fun k_ => ((fun k_ => (w.heap.size ≤ k_))) k_ ∧ some k_ ≠ (u12 : Value).ownBlock) (Kd.R_apart' (HO415.out) (Kd.S_typed HO_12.out) (by decide)) (fun k_ hk => ⟨hk.1.1, hk.2⟩))) (fun _ h_ => h_))); (case aB => exact (bt)); (case aF => exact (fun k_ hk => (Nat.le_trans (below_size (bt)) hk))); (case aO => exact (by (with_reducible repeat (first | apply Kd.S_alloc | apply Kd.S_drewN | apply Kd.S_drew)); exact Kd.S_mono HO_12.out (fun k_ hk => ⟨hk.1, fun e_ => hk.2 e_⟩))); (case aS => exact (below_size (bt))); (case aL => have := LMc87.out; omega); intro v417 w89 ho hb hg hat; (try (replace HM13 := Aside0.mk (MR_grown (by (with_reducible repeat (first | apply MR_alloc | apply MR_drewN | apply MR_drew)); exact HM13.out) hg (MR_ne HM13.out (Kd.S_typed (by (with_reducible repeat (first | apply Kd.S_alloc | apply Kd.S_drewN | apply Kd.S_drew)); exact HO_12.out)))))); (try (replace HM17 := Aside0.mk (MR_grown (by (with_reducible repeat (first | apply MR_alloc | apply MR_drewN | apply MR_drew)); exact HM17.out) hg (MR_ne HM17.out (Kd.S_typed (by (with_reducible repeat (first | apply Kd.S_alloc | apply Kd.S_drewN | apply Kd.S_drew)); exact HO_12.out)))))); rw [← Ny416.out] at ho; replace HO_2 := Aside0.mk (Kd.V_afterv (ok := (fun k_ => ((P2_ k_ ∨ P4_ k_) ∨ w.heap.size ≤ k_) ∧ some k_ ≠ (.slice Ao90 t413.length co90 : Value).ownBlock)) (by (with_reducible repeat (first | apply Kd.V_alloc | apply Kd.V_drewN | apply Kd.V_drew)); exact Kd.V_mono HO_2.out (fun _ hk => ⟨⟨hk.1.1, hk.2⟩, hk.1.2⟩)) hg hat); replace HO_4 := Aside0.mk (Kd.V_afterv (ok := (fun k_ => ((P2_ k_ ∨ P4_ k_) ∨ w.heap.size ≤ k_) ∧ some k_ ≠ (.slice Ao90 t413.length co90 : Value).ownBlock)) (by (with_reducible repeat (first | apply Kd.V_alloc | apply Kd.V_drewN | apply Kd.V_drew)); exact Kd.V_mono HO_4.out (fun _ hk => ⟨⟨hk.1.1, hk.2⟩, hk.1.2⟩)) hg hat); replace HB := Aside0.mk (hb); have HO418 := Aside0.mk (ho); clear HO_12 HO415; clear ho hb hg hat; obtain ⟨Ao91, co91, eo91⟩ := Kd.V_slice HO_4.out; subst eo91)); try go_wp2_with (first | (at_lookup; refine wp_mget rfl _ _ rfl rfl rfl (by (with_reducible repeat (first | apply MR_alloc | apply MR_drewN | apply MR_drew)); exact HM13.out) A85.out ?_) | (go_at_call 104; (with_reducible refine (impl_topInput.calls k3 a1 t412 t413 _ A86.out).mono ?_); rintro e w88 ⟨v414, rfl, ho0, hb⟩; (try (replace HM13 := Aside0.mk (MR_below (by (with_reducible repeat (first | apply MR_alloc | apply MR_drewN | apply MR_drew)); exact HM13.out) hb))); (try (replace HM17 := Aside0.mk (MR_below (by (with_reducible repeat (first | apply MR_alloc | apply MR_drewN | apply MR_drew)); exact HM17.out) hb))); replace HO_2 := Aside0.mk (Kd.V_elder' (mv HO_2.out) (Kd.R_base ho0) hb); replace HO_4 := Aside0.mk (Kd.V_elder' (mv HO_4.out) (Kd.R_base ho0) hb); replace HO_12 := Aside0.mk (Kd.S_elder' (mv HO_12.out) (Kd.R_base ho0) hb); have HO415 := Aside0.mk (Kd.R_lower (Kd.R_newM (M := fun k_ => (w.heap.size ≤ k_)) ho0 (below_size (bt)) (fun k_ h_ => h_)) (below_size (bt))); replace HB := Aside0.mk (below_step (bt) hb); (try clear hb); (try clear hb2); (try clear hk); (try clear hi); (try clear ho0); obtain ⟨Ao90, co90, eo90⟩ := Kd.R_slice HO415.out; subst eo90) | ((with_reducible refine gate_builtin (b := .append) (xs := #[.tmp 162, .tmp 167]) rfl ?_); (try (refine gate_guard (by rfl) ?_; dsimp only)); at_builtin; refine Kd.S_append (Kd.slice 5 (Kd.int .u8)) (w0 := w) w.heap.size rfl (.tmp 162) (.tmp 167) 30 22 (.slice none 0 0) 24 rfl Try.underlying30 info22 rfl (by decide) (by omega) u12 x12_3 t413 [.slice Ao90 t413.length co90] (fun k_ => (w.heap.size ≤ k_)) (fun k_ => some k_ = (.slice Ao90 t413.length co90 : Value).ownBlock) rfl rfl ?aP (fun k_ hk_ => ((Kd.R_mono (ok' := fun k_ => ((fun k_ => (w.heap.size ≤ k_))) k_ ∧ some k_ ≠ (u12 : Value).ownBlock) (Kd.R_apart' (HO415.out) (Kd.S_typed HO_12.out) (by decide)) (fun k_ hk => ⟨hk.1.1, hk.2⟩))).1 k_ hk_.symm) ?aF ?aO ?aB ?aS ?aL ?_; (case aP => exact Kd.M_row (Kd.R_mono (Kd.R_tight rfl (Kd.R_mono (ok' := fun k_ => ((fun k_ => (w.heap.size ≤ k_))) k_ ∧ some k_ ≠ (u12 : Value).ownBlock) (Kd.R_apart' (HO415.out) (Kd.S_typed HO_12.out) (by decide)) (fun k_ hk => ⟨hk.1.1, hk.2⟩))) (fun _ h_ => h_))); (case aB => exact (bt)); (case aF => exact (fun k_ hk => (Nat.le_trans (below_size (bt)) hk))); (case aO => exact (by (with_reducible repeat (first | apply Kd.S_alloc | apply Kd.S_drewN | apply Kd.S_drew)); exact Kd.S_mono HO_12.out (fun k_ hk => ⟨hk.1, fun e_ => hk.2 e_⟩))); (case aS => exact (below_size (bt))); (case aL => have := LMc87.out; omega); intro v417 w89 ho hb hg hat; (try (replace HM13 := Aside0.mk (MR_grown (by (with_reducible repeat (first | apply MR_alloc | apply MR_drewN | apply MR_drew)); exact HM13.out) hg (MR_ne HM13.out (Kd.S_typed (by (with_reducible repeat (first | apply Kd.S_alloc | apply Kd.S_drewN | apply Kd.S_drew)); exact HO_12.out)))))); (try (replace HM17 := Aside0.mk (MR_grown (by (with_reducible repeat (first | apply MR_alloc | apply MR_drewN | apply MR_drew)); exact HM17.out) hg (MR_ne HM17.out (Kd.S_typed (by (with_reducible repeat (first | apply Kd.S_alloc | apply Kd.S_drewN | apply Kd.S_drew)); exact HO_12.out)))))); rw [← Ny416.out] at ho; replace HO_2 := Aside0.mk (Kd.V_afterv (ok := (fun k_ => ((P2_ k_ ∨ P4_ k_) ∨ w.heap.size ≤ k_) ∧ some k_ ≠ (.slice Ao90 t413.length co90 : Value).ownBlock)) (by (with_reducible repeat (first | apply Kd.V_alloc | apply Kd.V_drewN | apply Kd.V_drew)); exact Kd.V_mono HO_2.out (fun _ hk => ⟨⟨hk.1.1, hk.2⟩, hk.1.2⟩)) hg hat); replace HO_4 := Aside0.mk (Kd.V_afterv (ok := (fun k_ => ((P2_ k_ ∨ P4_ k_) ∨ w.heap.size ≤ k_) ∧ some k_ ≠ (.slice Ao90 t413.length co90 : Value).ownBlock)) (by (with_reducible repeat (first | apply Kd.V_alloc | apply Kd.V_drewN | apply Kd.V_drew)); exact Kd.V_mono HO_4.out (fun _ hk => ⟨⟨hk.1.1, hk.2⟩, hk.1.2⟩)) hg hat); replace HB := Aside0.mk (hb); have HO418 := Aside0.mk (ho); clear HO_12 HO415; clear ho hb hg hat; obtain ⟨Ao91, co91, eo91⟩ := Kd.V_slice HO_4.out; subst eo91)))
           go_ret2
           exact ⟨_, by first | rfl | (simp [errW_none, errW_some] <;> rfl) | (simp [*, errW_none, errW_some] <;> rfl), by (with_reducible repeat (first | apply Kd.S_alloc | apply Kd.S_drewN | apply Kd.S_drew)); exact HO418.out, bt⟩
          ·rw [if_neg c87] at H
           exact absurd H (by simp)

end Go.Proofs.Ytaacidhgnappdaa.PFnExactFromMany
