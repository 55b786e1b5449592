-- Written by a program of this workplace (wip/mp.py) out of the translation.
import Derived.Test.YtaacidhgnappdaaPFnExactManyFromx0
import Derived.Test.YtaacidhgnappdaaPFnExactManyFromx4
import Derived.Test.YtaacidhgnappdaaPFnExactManyFromx5
import Derived.Test.YtaacidhgnappdaaPFnExactManyFromx6
import Derived.Test.YtaacidhgnappdaaPFnExactManyFromx7
namespace Go.Proofs.Ytaacidhgnappdaa.PFnExactManyFrom
open Go.RowKit Go.Proofs.YtaacidhgnappdaaW.PrintWords Go.Proofs.YtaacidhgnappdaaW.PrintLast Go.Proofs.YtaacidhgnappdaaW.PrintMore Go.Proofs.Ytaacidhgnappdaa.Slim
attribute [local go_sem] max2_int min2_int max_two min_two max_three min_three max_four min_four   -- for this text's walks alone
set_option linter.unusedVariables false
set_option linter.unusedSimpArgs false

/-! ### impl_climbMany: function 89 -/
mutual
def impl_climbMany.j0 : Nat → Int → Int → List Int → List (List Int) → List Int → Bool → Option ((List (List Int)) × Bool)
 | 0, _, _, _, _, _, _ => none
 | k + 1, x0, x1, x2, x3, x4, x51 => if x51 = true then (some (([] : List (List Int)), false)) else ((fake_mp_new.f).bind fun t299 => (impl_climbMany.l0 k x0 x1 x2 x4 (([] : List (List Int))) t299 x3 (x3.length : Int) 0))
def impl_climbMany.l0 : Nat → Int → Int → List Int → List Int → List (List Int) → Mp → List (List Int) → Int → Int → Option ((List (List Int)) × Bool)
 | 0, _, _, _, _, _, _, _, _, _ => none
 | k + 1, x0, x1, x2, x4, x12, x13, x54, x55, x56 => if x56 < x55 then (if 0 ≤ x56 then (if x56 < (x54.length : Int) then ((impl_leafInput.f (rd_L2 x54 x56)).bind fun t301 => (if x12.length < 5864062014805 then ((some (x12 ++ [t301] : List (List Int))).bind fun y304 => (if x56 < (x2.length : Int) then (if x56 < (y304.length : Int) then ((impl_Digest.f x0 (rd_L2 y304 x56)).bind fun t309 => ((fake_mp_put.f x13 (rd x2 x56) t309).bind fun t310 => (impl_climbMany.l0 k x0 x1 x2 x4 y304 t310 x54 x55 (wrap64 (x56 + 1))))) else (none)) else (none))) else (none))) else (none)) else (none)) else (impl_climbMany.l1 k x0 x1 x2 x4 x12 x13 x1)
def impl_climbMany.l1 : Nat → Int → Int → List Int → List Int → List (List Int) → Mp → Int → Option ((List (List Int)) × Bool)
 | 0, _, _, _, _, _, _, _ => none
 | k + 1, x0, x1, x2, x4, x12, x13, x16 => if x16 > 1 then ((fake_mp_new.f).bind fun t318 => (impl_climbMany.l2 k x0 x1 x2 x4 x12 x13 x16 t318 x2 (x2.length : Int) 0)) else ((fake_mp_get.f x13 0).bind fun t311 => ((impl_topInput.f k x1 t311).bind fun t312 => (if x12.length < 5864062014805 then (some ((x12 ++ [t312]), ((x4.length : Int) == 0))) else (none))))
def impl_climbMany.l2 : Nat → Int → Int → List Int → List Int → List (List Int) → Mp → Int → Mp → List Int → Int → Int → Option ((List (List Int)) × Bool)
 | 0, _, _, _, _, _, _, _, _, _, _, _ => none
 | k + 1, x0, x1, x2, x4, x12, x13, x16, x17, x85, x86, x87 => if x87 < x86 then (if 0 ≤ x87 then (if x87 < (x85.length : Int) then ((fake_mp_look.f x13 (Go.bits .xor .i64 (rd x85 x87) 1)).bind fun bt323 => (if (Go.bits .xor .i64 (rd x85 x87) 1) ≥ x16 then ((fake_mp_get.f x13 (rd x85 x87)).bind fun t325 => ((fake_mp_put.f x17 (wrap64 (Int.tdiv (rd x85 x87) 2)) t325).bind fun t326 => (impl_climbMany.l2 k x0 x1 x2 x4 x12 x13 x16 t326 x85 x86 (wrap64 (x87 + 1))))) else (if bt323.2 = true then (impl_climbMany.j4 k x0 x1 x2 x4 x12 x13 x16 x17 (rd x85 x87) bt323.1 bt323.2 x85 x86 x87 ((Int.tmod (rd x85 x87) 2) == 1)) else (impl_climbMany.j4 k x0 x1 x2 x4 x12 x13 x16 x17 (rd x85 x87) bt323.1 bt323.2 x85 x86 x87 false)))) else (none)) else (none)) else ((impl_above.f x2).bind fun t319 => (impl_climbMany.l1 k x0 x1 t319 x4 x12 x17 (wrap64 (Int.tdiv (wrap64 (x16 + 1)) 2))))
def impl_climbMany.j6 : Nat → Int → Int → List Int → List Int → List (List Int) → Mp → Int → Mp → Int → Int → List Int → Int → Int → Option ((List (List Int)) × Bool)
 | 0, _, _, _, _, _, _, _, _, _, _, _, _, _ => none
 | k + 1, x0, x1, x2, x4, x12, x13, x16, x17, x19, x20, x85, x86, x87 => (fake_mp_get.f x13 x19).bind fun t333 => (if (Int.tmod x19 2) = 1 then ((impl_nodeInput.f k x20 t333).bind fun t334 => (if x12.length < 5864062014805 then ((some (x12 ++ [t334] : List (List Int))).bind fun y337 => (if 0 ≤ (wrap64 ((y337.length : Int) - 1)) then (if (wrap64 ((y337.length : Int) - 1)) < (y337.length : Int) then ((impl_Digest.f x0 (rd_L2 y337 (wrap64 ((y337.length : Int) - 1)))).bind fun t341 => ((fake_mp_put.f x17 (wrap64 (Int.tdiv x19 2)) t341).bind fun t342 => (impl_climbMany.l2 k x0 x1 x2 x4 y337 x13 x16 t342 x85 x86 (wrap64 (x87 + 1))))) else (none)) else (none))) else (none))) else ((impl_nodeInput.f k t333 x20).bind fun t343 => (if x12.length < 5864062014805 then ((some (x12 ++ [t343] : List (List Int))).bind fun y346 => (if 0 ≤ (wrap64 ((y346.length : Int) - 1)) then (if (wrap64 ((y346.length : Int) - 1)) < (y346.length : Int) then ((impl_Digest.f x0 (rd_L2 y346 (wrap64 ((y346.length : Int) - 1)))).bind fun t350 => ((fake_mp_put.f x17 (wrap64 (Int.tdiv x19 2)) t350).bind fun t351 => (impl_climbMany.l2 k x0 x1 x2 x4 y346 x13 x16 t351 x85 x86 (wrap64 (x87 + 1))))) else (none)) else (none))) else (none))))
def impl_climbMany.j4 : Nat → Int → Int → List Int → List Int → List (List Int) → Mp → Int → Mp → Int → Int → Bool → List Int → Int → Int → Bool → Option ((List (List Int)) × Bool)
 | 0, _, _, _, _, _, _, _, _, _, _, _, _, _, _, _ => none
 | k + 1, x0, x1, x2, x4, x12, x13, x16, x17, x19, x20, x21, x85, x86, x87, x109 => if x109 = true then (impl_climbMany.l2 k x0 x1 x2 x4 x12 x13 x16 x17 x85 x86 (wrap64 (x87 + 1))) else (if x21 = true then (impl_climbMany.j5 k x0 x1 x2 x4 x12 x13 x16 x17 x19 x20 x21 x85 x86 x87 false) else (impl_climbMany.j5 k x0 x1 x2 x4 x12 x13 x16 x17 x19 x20 x21 x85 x86 x87 ((x4.length : Int) == 0)))
def impl_climbMany.j5 : Nat → Int → Int → List Int → List Int → List (List Int) → Mp → Int → Mp → Int → Int → Bool → List Int → Int → Int → Bool → Option ((List (List Int)) × Bool)
 | 0, _, _, _, _, _, _, _, _, _, _, _, _, _, _, _ => none
 | k + 1, x0, x1, x2, x4, x12, x13, x16, x17, x19, x20, x21, x85, x86, x87, x116 => if x116 = true then (some (([] : List (List Int)), false)) else (if x21 = true then (impl_climbMany.j6 k x0 x1 x2 x4 x12 x13 x16 x17 x19 x20 x85 x86 x87) else (if 0 < (x4.length : Int) then (if 1 ≤ (x4.length : Int) then (impl_climbMany.j6 k x0 x1 x2 (x4.drop 1) x12 x13 x16 x17 x19 (rd x4 0) x85 x86 x87) else (none)) else (none)))
end
def impl_climbMany.f (k : Nat) (a0 : Int) (a1 : Int) (l2 : List Int) (l3 : List (List Int)) (l4 : List Int) : Option ((List (List Int)) × Bool) := (impl_in.f a1 1 16).bind fun t292 => (if t292 = true then ((impl_placesOk.f k l2 a1).bind fun t293 => (if t293 = true then (if (l3.length : Int) = (l2.length : Int) then ((impl_leavesOk.f a0 l3).bind fun t294 => (if t294 = true then ((impl_digests.f a0 l4).bind fun t295 => (impl_climbMany.j0 k a0 a1 l2 l3 l4 (!t295))) else (impl_climbMany.j0 k a0 a1 l2 l3 l4 true))) else (impl_climbMany.j0 k a0 a1 l2 l3 l4 true)) else (impl_climbMany.j0 k a0 a1 l2 l3 l4 true))) else (impl_climbMany.j0 k a0 a1 l2 l3 l4 true))
def mp_T8 : Bool × List (List Nat × List Nat) := (true, [([], []), ([], []), ([], []), ([1, 2], [1, 2]), ([3], [3]), ([], []), ([], []), ([], []), ([6, 7], [6, 7]), ([8], [8]), ([5, 9], [5, 9]), ([0, 4, 10, 10, 0, 1, 2, 3, 4, 5, 6, 7, 8, 9, 10], [0, 4, 10])])
def mp_B8 : List Nat := [0, 0, 0, 6, 14, 0, 0, 0, 192, 448, 992, 2047]
theorem mp_tab8 : rtab .any (opsOf Try.f89 8) = mp_T8 := by kernel_rfl
theorem mp_bits8 : waitsOk mp_T8.2 mp_B8 = true := by kernel_rfl
set_option maxHeartbeats 8000000 in
set_option maxRecDepth 100000 in
theorem impl_climbMany.calls (k : Nat) (a0 : Int) (a1 : Int) (P2_ : Nat → Prop) (A2 : Option Addr) (c2 : Nat) (l2 : List Int) (A3 : Option Addr) (c3 : Nat) (l3 : List (List Int)) (P4_ : Nat → Prop) (A4 : Option Addr) (c4 : Nat) (l4 : List Int) (r1 : List (List Int)) (r2 : Bool) (w : World) (hs2 : Kd.V (Kd.int .i64) 3 w w.heap.size (fun k_ => P2_ k_) (.slice A2 l2.length c2) l2) (hr3 : Kd.C (Kd.slice 5 (Kd.int .u8)) w A3 l3.length l3) (hc3 : l3.length ≤ c3) (hs4 : Kd.V (Kd.int .i64) 3 w w.heap.size (fun k_ => P4_ k_) (.slice A4 l4.length c4) l4) (h : impl_climbMany.f k a0 a1 l2 l3 l4 = some (r1, r2)) :
  Calls Try.prog 89 #[.int .i64 a0, .int .i64 a1, .slice A2 l2.length c2, .slice A3 l3.length c3, .slice A4 l4.length c4] w fun e w' => ∃ v0_ : Value, e = .returned (.tuple #[v0_, .bool r2]) ∧ Kd.S (Kd.slice 5 (Kd.int .u8)) 22 w' w.heap.size (fun k_ => (w.heap.size ≤ k_)) v0_ r1 ∧ Below w.heap.size w w' := by
 have HO2 := Aside0.mk (show Kd.V (Kd.int .i64) 3 w w.heap.size (fun k_ => ((P2_ k_ ∨ P4_ k_) ∨ w.heap.size ≤ k_)) (.slice A2 l2.length c2) l2 from Kd.V_mono hs2 (fun k_ hk => .inl (.inl hk)))
 have HR3 := Aside0.mk hr3
 have HC3 := Aside0.mk hc3
 clear hr3 hc3
 have HO4 := Aside0.mk (show Kd.V (Kd.int .i64) 3 w w.heap.size (fun k_ => ((P2_ k_ ∨ P4_ k_) ∨ w.heap.size ≤ k_)) (.slice A4 l4.length c4) l4 from Kd.V_mono hs4 (fun k_ hk => .inl (.inr hk)))
 have HB := Aside0.mk (Below.refl w.heap.size w)
 have H : ((impl_in.f a1 1 16).bind fun t292 => (if t292 = true then ((impl_placesOk.f k l2 a1).bind fun t293 => (if t293 = true then (if (l3.length : Int) = (l2.length : Int) then ((impl_leavesOk.f a0 l3).bind fun t294 => (if t294 = true then ((impl_digests.f a0 l4).bind fun t295 => (impl_climbMany.j0 k a0 a1 l2 l3 l4 (!t295))) else (impl_climbMany.j0 k a0 a1 l2 l3 l4 true))) else (impl_climbMany.j0 k a0 a1 l2 l3 l4 true)) else (impl_climbMany.j0 k a0 a1 l2 l3 l4 true))) else (impl_climbMany.j0 k a0 a1 l2 l3 l4 true))) = some (r1, r2) := h
 clear h
 have HC6 := Aside0.mk H
 clear H
 go_enter Try.func89, Try.ntmps89
 go_upto_region 1 with (fail)
 repeat (go_quiet (fail); go_upto_region 1 with (fail))
 go_cut [51] (fun v51 wc => ∃ (kq : Nat) (x51_5 : Bool), v51 = .bool x51_5 ∧ Aside0 (impl_climbMany.j0 kq a0 a1 l2 l3 l4 x51_5 = some (r1, r2)) ∧ Aside0 (kq ≤ k) ∧ Aside0 (Kd.V (Kd.int .i64) 3 wc w.heap.size (fun k_ => ((P2_ k_ ∨ P4_ k_) ∨ w.heap.size ≤ k_)) (.slice A2 l2.length c2) l2) ∧ Aside0 (Kd.V (Kd.int .i64) 3 wc w.heap.size (fun k_ => ((P2_ k_ ∨ P4_ k_) ∨ w.heap.size ≤ k_)) (.slice A4 l4.length c4) l4) ∧ Aside0 (Below w.heap.size w wc))
 case first =>
  have H := HC6.out
  clear HC6
  replace H := Option.bind_eq_some_iff.mp H
  obtain ⟨t292, A70, H⟩ := H
  (try dsimp -simprocs only at H)
  have A7 := Aside0.mk A70
  clear A70
  by_cases c8 : t292 = true
  ·subst c8
   rw [if_pos rfl] at H
   replace H := Option.bind_eq_some_iff.mp H
   obtain ⟨t293, A90, H⟩ := H
   (try dsimp -simprocs only at H)
   have A9 := Aside0.mk A90
   clear A90
   by_cases c10 : t293 = true
   ·subst c10
    rw [if_pos rfl] at H
    by_cases c11 : (l3.length : Int) = (l2.length : Int)
    ·rw [if_pos c11] at H
     have c11b0 : ((l3.length : Int) == (l2.length : Int)) = true := beq_iff_eq.mpr c11
     have c11b1 : ((l3.length : Int) != (l2.length : Int)) = false := bne_eq_false_iff_eq.mpr c11
     have c11b2 : (l3.length == l2.length) = true := by first | simpa using c11 | (simp at c11 ⊢; omega)
     clear c11
     (first | rw [c11b0] | (simp only [i64_w, i32_w]; rw [c11b0]) | skip)
     replace H := Option.bind_eq_some_iff.mp H
     obtain ⟨t294, A120, H⟩ := H
     (try dsimp -simprocs only at H)
     have A12 := Aside0.mk A120
     clear A120
     by_cases c13 : t294 = true
     ·subst c13
      rw [if_pos rfl] at H
      replace H := Option.bind_eq_some_iff.mp H
      obtain ⟨t295, A140, H⟩ := H
      (try dsimp -simprocs only at H)
      have A14 := Aside0.mk A140
      clear A140
      have H' := Aside0.mk H
      clear H
      go_wp2_with (first | (go_at_call 65; (with_reducible refine (impl_in.calls a1 1 16 true _ A7.out).mono ?_); rintro e w' ⟨rfl, ⟨nd, rfl⟩⟩; (try first | exact ⟨rfl, _, World.drewN_drewN _ _ _⟩ | exact ⟨rfl, _, Eq.trans (World.drewN_drewN _ _ _) (congrArg (World.drewN _) (Nat.add_assoc _ _ _))⟩)) | (go_at_call 93; (with_reducible refine (impl_placesOk.calls k _ _ l2 a1 true _ ?side1 ?side2 A9.out).mono ?_); (case side1 => exact cv ((Kd.V_reads' HO2.out).2.2)); (case side2 => exact (Kd.V_reads' HO2.out).2.1); rintro e w' ⟨rfl, ⟨nd, rfl⟩⟩; (try first | exact ⟨rfl, _, World.drewN_drewN _ _ _⟩ | exact ⟨rfl, _, Eq.trans (World.drewN_drewN _ _ _) (congrArg (World.drewN _) (Nat.add_assoc _ _ _))⟩)) | (go_at_call 63; (with_reducible refine (impl_leavesOk.calls a0 _ _ l3 true _ ?side1 ?side2 A12.out).mono ?_); (case side1 => exact cv ((Kd.C_below HR3.out (bt)))); (case side2 => exact HC3.out); rintro e w' ⟨rfl, ⟨nd, rfl⟩⟩; (try first | exact ⟨rfl, _, World.drewN_drewN _ _ _⟩ | exact ⟨rfl, _, Eq.trans (World.drewN_drewN _ _ _) (congrArg (World.drewN _) (Nat.add_assoc _ _ _))⟩)) | (go_at_call 105; (with_reducible refine (impl_digests.calls a0 _ _ l4 t295 _ ?side1 ?side2 A14.out).mono ?_); (case side1 => exact cv ((Kd.V_reads' HO4.out).2.2)); (case side2 => exact (Kd.V_reads' HO4.out).2.1); rintro e w15 ⟨rfl, hb⟩; (try (replace HM13 := Aside0.mk (MR_below (by (with_reducible repeat (first | apply MR_alloc | apply MR_drewN | apply MR_drew)); exact HM13.out) hb))); (try (replace HM17 := Aside0.mk (MR_below (by (with_reducible repeat (first | apply MR_alloc | apply MR_drewN | apply MR_drew)); exact HM17.out) hb))); replace HO2 := Aside0.mk (Kd.V_below (mv HO2.out) hb); replace HO4 := Aside0.mk (Kd.V_below (mv HO4.out) hb); replace HB := Aside0.mk (below_step (bt) hb); (try clear hb); (try clear hb2); (try clear hk); (try clear hi)))
      repeat (go_quiet (first | (go_at_call 65; (with_reducible refine (impl_in.calls a1 1 16 true _ A7.out).mono ?_); rintro e w' ⟨rfl, ⟨nd, rfl⟩⟩; (try first | exact ⟨rfl, _, World.drewN_drewN _ _ _⟩ | exact ⟨rfl, _, Eq.trans (World.drewN_drewN _ _ _) (congrArg (World.drewN _) (Nat.add_assoc _ _ _))⟩)) | (go_at_call 93; (with_reducible refine (impl_placesOk.calls k _ _ l2 a1 true _ ?side1 ?side2 A9.out).mono ?_); (case side1 => exact cv ((Kd.V_reads' HO2.out).2.2)); (case side2 => exact (Kd.V_reads' HO2.out).2.1); rintro e w' ⟨rfl, ⟨nd, rfl⟩⟩; (try first | exact ⟨rfl, _, World.drewN_drewN _ _ _⟩ | exact ⟨rfl, _, Eq.trans (World.drewN_drewN _ _ _) (congrArg (World.drewN _) (Nat.add_assoc _ _ _))⟩)) | (go_at_call 63; (with_reducible refine (impl_leavesOk.calls a0 _ _ l3 true _ ?side1 ?side2 A12.out).mono ?_); (case side1 => exact cv ((Kd.C_below HR3.out (bt)))); (case side2 => exact HC3.out); rintro e w' ⟨rfl, ⟨nd, rfl⟩⟩; (try first | exact ⟨rfl, _, World.drewN_drewN _ _ _⟩ | exact ⟨rfl, _, Eq.trans (World.drewN_drewN _ _ _) (congrArg (World.drewN _) (Nat.add_assoc _ _ _))⟩)) | (go_at_call 105; (with_reducible refine (impl_digests.calls a0 _ _ l4 t295 _ ?side1 ?side2 A14.out).mono ?_); (case side1 => exact cv ((Kd.V_reads' HO4.out).2.2)); (case side2 => exact (Kd.V_reads' HO4.out).2.1); rintro e w15 ⟨rfl, hb⟩; (try (replace HM13 := Aside0.mk (MR_below (by (with_reducible repeat (first | apply MR_alloc | apply MR_drewN | apply MR_drew)); exact HM13.out) hb))); (try (replace HM17 := Aside0.mk (MR_below (by (with_reducible repeat (first | apply MR_alloc | apply MR_drewN | apply MR_drew)); exact HM17.out) hb))); replace HO2 := Aside0.mk (Kd.V_below (mv HO2.out) hb); replace HO4 := Aside0.mk (Kd.V_below (mv HO4.out) hb); replace HB := Aside0.mk (below_step (bt) hb); (try clear hb); (try clear hb2); (try clear hk); (try clear hi))); try go_wp2_with (first | (go_at_call 65; (with_reducible refine (impl_in.calls a1 1 16 true _ A7.out).mono ?_); rintro e w' ⟨rfl, ⟨nd, rfl⟩⟩; (try first | exact ⟨rfl, _, World.drewN_drewN _ _ _⟩ | exact ⟨rfl, _, Eq.trans (World.drewN_drewN _ _ _) (congrArg (World.drewN _) (Nat.add_assoc _ _ _))⟩)) | (go_at_call 93; (with_reducible refine (impl_placesOk.calls k _ _ l2 a1 true _ ?side1 ?side2 A9.out).mono ?_); (case side1 => exact cv ((Kd.V_reads' HO2.out).2.2)); (case side2 => exact (Kd.V_reads' HO2.out).2.1); rintro e w' ⟨rfl, ⟨nd, rfl⟩⟩; (try first | exact ⟨rfl, _, World.drewN_drewN _ _ _⟩ | exact ⟨rfl, _, Eq.trans (World.drewN_drewN _ _ _) (congrArg (World.drewN _) (Nat.add_assoc _ _ _))⟩)) | (go_at_call 63; (with_reducible refine (impl_leavesOk.calls a0 _ _ l3 true _ ?side1 ?side2 A12.out).mono ?_); (case side1 => exact cv ((Kd.C_below HR3.out (bt)))); (case side2 => exact HC3.out); rintro e w' ⟨rfl, ⟨nd, rfl⟩⟩; (try first | exact ⟨rfl, _, World.drewN_drewN _ _ _⟩ | exact ⟨rfl, _, Eq.trans (World.drewN_drewN _ _ _) (congrArg (World.drewN _) (Nat.add_assoc _ _ _))⟩)) | (go_at_call 105; (with_reducible refine (impl_digests.calls a0 _ _ l4 t295 _ ?side1 ?side2 A14.out).mono ?_); (case side1 => exact cv ((Kd.V_reads' HO4.out).2.2)); (case side2 => exact (Kd.V_reads' HO4.out).2.1); rintro e w15 ⟨rfl, hb⟩; (try (replace HM13 := Aside0.mk (MR_below (by (with_reducible repeat (first | apply MR_alloc | apply MR_drewN | apply MR_drew)); exact HM13.out) hb))); (try (replace HM17 := Aside0.mk (MR_below (by (with_reducible repeat (first | apply MR_alloc | apply MR_drewN | apply MR_drew)); exact HM17.out) hb))); replace HO2 := Aside0.mk (Kd.V_below (mv HO2.out) hb); replace HO4 := Aside0.mk (Kd.V_below (mv HO4.out) hb); replace HB := Aside0.mk (below_step (bt) hb); (try clear hb); (try clear hb2); (try clear hk); (try clear hi))))
      go_meet
      case rel => exact ⟨_, (!t295), (by first | rfl | (simp; done) | (simp [*]; done)), H', ⟨by first | omega | exact Nat.le_refl _⟩, ⟨mv HO2.out⟩, ⟨mv HO4.out⟩, ⟨bt⟩⟩
     ·replace c13 := Bool.eq_false_iff.mpr c13
      subst c13
      rw [if_neg (show ¬ (false = true) by decide)] at H
      have H' := Aside0.mk H
      clear H
      go_wp2_with (first | (go_at_call 65; (with_reducible refine (impl_in.calls a1 1 16 true _ A7.out).mono ?_); rintro e w' ⟨rfl, ⟨nd, rfl⟩⟩; (try first | exact ⟨rfl, _, World.drewN_drewN _ _ _⟩ | exact ⟨rfl, _, Eq.trans (World.drewN_drewN _ _ _) (congrArg (World.drewN _) (Nat.add_assoc _ _ _))⟩)) | (go_at_call 93; (with_reducible refine (impl_placesOk.calls k _ _ l2 a1 true _ ?side1 ?side2 A9.out).mono ?_); (case side1 => exact cv ((Kd.V_reads' HO2.out).2.2)); (case side2 => exact (Kd.V_reads' HO2.out).2.1); rintro e w' ⟨rfl, ⟨nd, rfl⟩⟩; (try first | exact ⟨rfl, _, World.drewN_drewN _ _ _⟩ | exact ⟨rfl, _, Eq.trans (World.drewN_drewN _ _ _) (congrArg (World.drewN _) (Nat.add_assoc _ _ _))⟩)) | (go_at_call 63; (with_reducible refine (impl_leavesOk.calls a0 _ _ l3 false _ ?side1 ?side2 A12.out).mono ?_); (case side1 => exact cv ((Kd.C_below HR3.out (bt)))); (case side2 => exact HC3.out); rintro e w' ⟨rfl, ⟨nd, rfl⟩⟩; (try first | exact ⟨rfl, _, World.drewN_drewN _ _ _⟩ | exact ⟨rfl, _, Eq.trans (World.drewN_drewN _ _ _) (congrArg (World.drewN _) (Nat.add_assoc _ _ _))⟩)))
      repeat (go_quiet (first | (go_at_call 65; (with_reducible refine (impl_in.calls a1 1 16 true _ A7.out).mono ?_); rintro e w' ⟨rfl, ⟨nd, rfl⟩⟩; (try first | exact ⟨rfl, _, World.drewN_drewN _ _ _⟩ | exact ⟨rfl, _, Eq.trans (World.drewN_drewN _ _ _) (congrArg (World.drewN _) (Nat.add_assoc _ _ _))⟩)) | (go_at_call 93; (with_reducible refine (impl_placesOk.calls k _ _ l2 a1 true _ ?side1 ?side2 A9.out).mono ?_); (case side1 => exact cv ((Kd.V_reads' HO2.out).2.2)); (case side2 => exact (Kd.V_reads' HO2.out).2.1); rintro e w' ⟨rfl, ⟨nd, rfl⟩⟩; (try first | exact ⟨rfl, _, World.drewN_drewN _ _ _⟩ | exact ⟨rfl, _, Eq.trans (World.drewN_drewN _ _ _) (congrArg (World.drewN _) (Nat.add_assoc _ _ _))⟩)) | (go_at_call 63; (with_reducible refine (impl_leavesOk.calls a0 _ _ l3 false _ ?side1 ?side2 A12.out).mono ?_); (case side1 => exact cv ((Kd.C_below HR3.out (bt)))); (case side2 => exact HC3.out); rintro e w' ⟨rfl, ⟨nd, rfl⟩⟩; (try first | exact ⟨rfl, _, World.drewN_drewN _ _ _⟩ | exact ⟨rfl, _, Eq.trans (World.drewN_drewN _ _ _) (congrArg (World.drewN _) (Nat.add_assoc _ _ _))⟩))); try go_wp2_with (first | (go_at_call 65; (with_reducible refine (impl_in.calls a1 1 16 true _ A7.out).mono ?_); rintro e w' ⟨rfl, ⟨nd, rfl⟩⟩; (try first | exact ⟨rfl, _, World.drewN_drewN _ _ _⟩ | exact ⟨rfl, _, Eq.trans (World.drewN_drewN _ _ _) (congrArg (World.drewN _) (Nat.add_assoc _ _ _))⟩)) | (go_at_call 93; (with_reducible refine (impl_placesOk.calls k _ _ l2 a1 true _ ?side1 ?side2 A9.out).mono ?_); (case side1 => exact cv ((Kd.V_reads' HO2.out).2.2)); (case side2 => exact (Kd.V_reads' HO2.out).2.1); rintro e w' ⟨rfl, ⟨nd, rfl⟩⟩; (try first | exact ⟨rfl, _, World.drewN_drewN _ _ _⟩ | exact ⟨rfl, _, Eq.trans (World.drewN_drewN _ _ _) (congrArg (World.drewN _) (Nat.add_assoc _ _ _))⟩)) | (go_at_call 63; (with_reducible refine (impl_leavesOk.calls a0 _ _ l3 false _ ?side1 ?side2 A12.out).mono ?_); (case side1 => exact cv ((Kd.C_below HR3.out (bt)))); (case side2 => exact HC3.out); rintro e w' ⟨rfl, ⟨nd, rfl⟩⟩; (try first | exact ⟨rfl, _, World.drewN_drewN _ _ _⟩ | exact ⟨rfl, _, Eq.trans (World.drewN_drewN _ _ _) (congrArg (World.drewN _) (Nat.add_assoc _ _ _))⟩))))
      go_meet
      case rel => exact ⟨_, (true), (by first | rfl | (simp; done) | (simp [*]; done)), H', ⟨by first | omega | exact Nat.le_refl _⟩, ⟨mv HO2.out⟩, ⟨mv HO4.out⟩, ⟨bt⟩⟩
    ·rw [if_neg c11] at H
     have c11b0 : ((l3.length : Int) == (l2.length : Int)) = false := beq_eq_false_iff_ne.mpr c11
     have c11b1 : ((l3.length : Int) != (l2.length : Int)) = true := bne_iff_ne.mpr c11
     have c11b2 : (l3.length == l2.length) = false := by first | simpa using c11 | (simp at c11 ⊢; omega)
     (first | rw [c11b0] | (simp only [i64_w, i32_w]; rw [c11b0]) | skip)
     have H' := Aside0.mk H
     clear H
     go_wp2_with (first | (go_at_call 65; (with_reducible refine (impl_in.calls a1 1 16 true _ A7.out).mono ?_); rintro e w' ⟨rfl, ⟨nd, rfl⟩⟩; (try first | exact ⟨rfl, _, World.drewN_drewN _ _ _⟩ | exact ⟨rfl, _, Eq.trans (World.drewN_drewN _ _ _) (congrArg (World.drewN _) (Nat.add_assoc _ _ _))⟩)) | (go_at_call 93; (with_reducible refine (impl_placesOk.calls k _ _ l2 a1 true _ ?side1 ?side2 A9.out).mono ?_); (case side1 => exact cv ((Kd.V_reads' HO2.out).2.2)); (case side2 => exact (Kd.V_reads' HO2.out).2.1); rintro e w' ⟨rfl, ⟨nd, rfl⟩⟩; (try first | exact ⟨rfl, _, World.drewN_drewN _ _ _⟩ | exact ⟨rfl, _, Eq.trans (World.drewN_drewN _ _ _) (congrArg (World.drewN _) (Nat.add_assoc _ _ _))⟩)))
     repeat (go_quiet (first | (go_at_call 65; (with_reducible refine (impl_in.calls a1 1 16 true _ A7.out).mono ?_); rintro e w' ⟨rfl, ⟨nd, rfl⟩⟩; (try first | exact ⟨rfl, _, World.drewN_drewN _ _ _⟩ | exact ⟨rfl, _, Eq.trans (World.drewN_drewN _ _ _) (congrArg (World.drewN _) (Nat.add_assoc _ _ _))⟩)) | (go_at_call 93; (with_reducible refine (impl_placesOk.calls k _ _ l2 a1 true _ ?side1 ?side2 A9.out).mono ?_); (case side1 => exact cv ((Kd.V_reads' HO2.out).2.2)); (case side2 => exact (Kd.V_reads' HO2.out).2.1); rintro e w' ⟨rfl, ⟨nd, rfl⟩⟩; (try first | exact ⟨rfl, _, World.drewN_drewN _ _ _⟩ | exact ⟨rfl, _, Eq.trans (World.drewN_drewN _ _ _) (congrArg (World.drewN _) (Nat.add_assoc _ _ _))⟩))); try go_wp2_with (first | (go_at_call 65; (with_reducible refine (impl_in.calls a1 1 16 true _ A7.out).mono ?_); rintro e w' ⟨rfl, ⟨nd, rfl⟩⟩; (try first | exact ⟨rfl, _, World.drewN_drewN _ _ _⟩ | exact ⟨rfl, _, Eq.trans (World.drewN_drewN _ _ _) (congrArg (World.drewN _) (Nat.add_assoc _ _ _))⟩)) | (go_at_call 93; (with_reducible refine (impl_placesOk.calls k _ _ l2 a1 true _ ?side1 ?side2 A9.out).mono ?_); (case side1 => exact cv ((Kd.V_reads' HO2.out).2.2)); (case side2 => exact (Kd.V_reads' HO2.out).2.1); rintro e w' ⟨rfl, ⟨nd, rfl⟩⟩; (try first | exact ⟨rfl, _, World.drewN_drewN _ _ _⟩ | exact ⟨rfl, _, Eq.trans (World.drewN_drewN _ _ _) (congrArg (World.drewN _) (Nat.add_assoc _ _ _))⟩))))
     go_meet
     case rel => exact ⟨_, (true), (by first | rfl | (simp; done) | (simp [*]; done)), H', ⟨by first | omega | exact Nat.le_refl _⟩, ⟨mv HO2.out⟩, ⟨mv HO4.out⟩, ⟨bt⟩⟩
   ·replace c10 := Bool.eq_false_iff.mpr c10
    subst c10
    rw [if_neg (show ¬ (false = true) by decide)] at H
    have H' := Aside0.mk H
    clear H
    go_wp2_with (first | (go_at_call 65; (with_reducible refine (impl_in.calls a1 1 16 true _ A7.out).mono ?_); rintro e w' ⟨rfl, ⟨nd, rfl⟩⟩; (try first | exact ⟨rfl, _, World.drewN_drewN _ _ _⟩ | exact ⟨rfl, _, Eq.trans (World.drewN_drewN _ _ _) (congrArg (World.drewN _) (Nat.add_assoc _ _ _))⟩)) | (go_at_call 93; (with_reducible refine (impl_placesOk.calls k _ _ l2 a1 false _ ?side1 ?side2 A9.out).mono ?_); (case side1 => exact cv ((Kd.V_reads' HO2.out).2.2)); (case side2 => exact (Kd.V_reads' HO2.out).2.1); rintro e w' ⟨rfl, ⟨nd, rfl⟩⟩; (try first | exact ⟨rfl, _, World.drewN_drewN _ _ _⟩ | exact ⟨rfl, _, Eq.trans (World.drewN_drewN _ _ _) (congrArg (World.drewN _) (Nat.add_assoc _ _ _))⟩)))
    repeat (go_quiet (first | (go_at_call 65; (with_reducible refine (impl_in.calls a1 1 16 true _ A7.out).mono ?_); rintro e w' ⟨rfl, ⟨nd, rfl⟩⟩; (try first | exact ⟨rfl, _, World.drewN_drewN _ _ _⟩ | exact ⟨rfl, _, Eq.trans (World.drewN_drewN _ _ _) (congrArg (World.drewN _) (Nat.add_assoc _ _ _))⟩)) | (go_at_call 93; (with_reducible refine (impl_placesOk.calls k _ _ l2 a1 false _ ?side1 ?side2 A9.out).mono ?_); (case side1 => exact cv ((Kd.V_reads' HO2.out).2.2)); (case side2 => exact (Kd.V_reads' HO2.out).2.1); rintro e w' ⟨rfl, ⟨nd, rfl⟩⟩; (try first | exact ⟨rfl, _, World.drewN_drewN _ _ _⟩ | exact ⟨rfl, _, Eq.trans (World.drewN_drewN _ _ _) (congrArg (World.drewN _) (Nat.add_assoc _ _ _))⟩))); try go_wp2_with (first | (go_at_call 65; (with_reducible refine (impl_in.calls a1 1 16 true _ A7.out).mono ?_); rintro e w' ⟨rfl, ⟨nd, rfl⟩⟩; (try first | exact ⟨rfl, _, World.drewN_drewN _ _ _⟩ | exact ⟨rfl, _, Eq.trans (World.drewN_drewN _ _ _) (congrArg (World.drewN _) (Nat.add_assoc _ _ _))⟩)) | (go_at_call 93; (with_reducible refine (impl_placesOk.calls k _ _ l2 a1 false _ ?side1 ?side2 A9.out).mono ?_); (case side1 => exact cv ((Kd.V_reads' HO2.out).2.2)); (case side2 => exact (Kd.V_reads' HO2.out).2.1); rintro e w' ⟨rfl, ⟨nd, rfl⟩⟩; (try first | exact ⟨rfl, _, World.drewN_drewN _ _ _⟩ | exact ⟨rfl, _, Eq.trans (World.drewN_drewN _ _ _) (congrArg (World.drewN _) (Nat.add_assoc _ _ _))⟩))))
    go_meet
    case rel => exact ⟨_, (true), (by first | rfl | (simp; done) | (simp [*]; done)), H', ⟨by first | omega | exact Nat.le_refl _⟩, ⟨mv HO2.out⟩, ⟨mv HO4.out⟩, ⟨bt⟩⟩
  ·replace c8 := Bool.eq_false_iff.mpr c8
   subst c8
   rw [if_neg (show ¬ (false = true) by decide)] at H
   have H' := Aside0.mk H
   clear H
   go_wp2_with (first | (go_at_call 65; (with_reducible refine (impl_in.calls a1 1 16 false _ A7.out).mono ?_); rintro e w' ⟨rfl, ⟨nd, rfl⟩⟩; (try first | exact ⟨rfl, _, World.drewN_drewN _ _ _⟩ | exact ⟨rfl, _, Eq.trans (World.drewN_drewN _ _ _) (congrArg (World.drewN _) (Nat.add_assoc _ _ _))⟩)))
   repeat (go_quiet (first | (go_at_call 65; (with_reducible refine (impl_in.calls a1 1 16 false _ A7.out).mono ?_); rintro e w' ⟨rfl, ⟨nd, rfl⟩⟩; (try first | exact ⟨rfl, _, World.drewN_drewN _ _ _⟩ | exact ⟨rfl, _, Eq.trans (World.drewN_drewN _ _ _) (congrArg (World.drewN _) (Nat.add_assoc _ _ _))⟩))); try go_wp2_with (first | (go_at_call 65; (with_reducible refine (impl_in.calls a1 1 16 false _ A7.out).mono ?_); rintro e w' ⟨rfl, ⟨nd, rfl⟩⟩; (try first | exact ⟨rfl, _, World.drewN_drewN _ _ _⟩ | exact ⟨rfl, _, Eq.trans (World.drewN_drewN _ _ _) (congrArg (World.drewN _) (Nat.add_assoc _ _ _))⟩))))
   go_meet
   case rel => exact ⟨_, (true), (by first | rfl | (simp; done) | (simp [*]; done)), H', ⟨by first | omega | exact Nat.le_refl _⟩, ⟨mv HO2.out⟩, ⟨mv HO4.out⟩, ⟨bt⟩⟩
 case rest =>
  clear HC6
  try clear c1
  try clear c2
  try clear p2
  try clear c3
  try clear c4
  try clear c8
  try clear c10
  try clear c11
  try clear c11b0
  try clear c11b1
  try clear c11b2
  try clear c13
  obtain ⟨kq, x51_5, rfl, HA, HJ5, HO_2, HO_4, HB⟩ := hcut
  cases kq with
  | zero => exact absurd HA.out (by simp [impl_climbMany.j0])
  | succ kj5 =>
   have H := HA.out
   clear HA
   simp only [impl_climbMany.j0] at H
   by_cases c16 : x51_5 = true
   ·subst c16
    rw [if_pos rfl] at H
    simp only [Option.some.injEq, Prod.mk.injEq] at H
    obtain ⟨rfl, rfl⟩ := H
    go_wp2
    repeat (go_quiet (fail); try go_wp2)
    go_ret2
    exact ⟨_, by first | rfl | (simp [errW_none, errW_some] <;> rfl) | (simp [*, errW_none, errW_some] <;> rfl), by first | exact Kd.S_nil _ _ _ _ _ | exact Kd.N_nil _ _ _ _ _ | exact Kd.V_nil _ _ _ _ _ | exact Kd.Q_nil _ _ _ _ _ | exact Kd.R_nil _ _ _ _ _, bt⟩
   ·replace c16 := Bool.eq_false_iff.mpr c16
    subst c16
    rw [if_neg (show ¬ (false = true) by decide)] at H
    obtain ⟨y296, hy296⟩ : ∃ y_ : List (List Int), y_ = (([] : List (List Int))) := ⟨_, rfl⟩
    replace H : ((fake_mp_new.f).bind fun t299 => (impl_climbMany.l0 kj5 a0 a1 l2 l4 y296 t299 l3 (l3.length : Int) 0)) = some (r1, r2) := by first | (rw [hy296]; exact H) | exact H
    have Ny296 := Aside0.mk hy296
    clear hy296
    replace H := Option.bind_eq_some_iff.mp H
    obtain ⟨t299, A170, H⟩ := H
    (try dsimp -simprocs only at H)
    have A17 := Aside0.mk A170
    clear A170
    have H' := Aside0.mk H
    clear H
    go_wp2_with (first | ((with_reducible refine gate_dst (N := 52) rfl ?_); (try (refine gate_guard (by rfl) ?_; dsimp only)); refine Kd.S_lit (Kd.slice 5 (Kd.int .u8)) _ 22 ?hg (N := 52) ?hd (xs := ([] : List (List Int))) (inner := []) (ok := fun _ => True) (okp := fun _ => True) ?hr ?hp (fun _ hk => hk) trivial (Below.refl _ _) (Nat.le_refl _) (by simp) ?_; (case hd => rfl); (case hg => rfl); (case hr => first | (go_simp; done) | (go_simp; rfl)); (case hp => exact (Reps.none _ _)); intro v297 w18 ho19 hb hg_ hnew_; (try (replace HM13 := Aside0.mk (MR_below (by (with_reducible repeat (first | apply MR_alloc | apply MR_drewN | apply MR_drew)); exact HM13.out) hb))); (try (replace HM17 := Aside0.mk (MR_below (by (with_reducible repeat (first | apply MR_alloc | apply MR_drewN | apply MR_drew)); exact HM17.out) hb))); clear hg_ hnew_; (first | rw [← Ny296.out] at ho19 | (simp only [Int.reduceToNat] at ho19; rw [← Ny296.out] at ho19)); replace HO_2 := Aside0.mk (Kd.V_elder' (mv HO_2.out) (Kd.S_base ho19) hb); replace HO_4 := Aside0.mk (Kd.V_elder' (mv HO_4.out) (Kd.S_base ho19) hb); have HO298 := Aside0.mk (Kd.S_lower (Kd.S_newM (M := fun k_ => (w.heap.size ≤ k_)) ho19 (below_size (bt)) (fun k_ h_ => h_)) (below_size (bt))); replace HB := Aside0.mk (below_step (bt) hb); clear hb ho19) | ((with_reducible refine gate_dst (N := 53) rfl ?_); refine wp_mnew rfl rfl rfl w.heap.size (below_size (bt)) ?_; intro b13 wm hbn_ hM_ hb hne_; obtain rfl := Option.some.inj A17.out; (try (replace HO_2 := Aside0.mk (Kd.V_below (mv HO_2.out) hb))); (try (replace HO_4 := Aside0.mk (Kd.V_below (mv HO_4.out) hb))); (try (replace HO_12 := Aside0.mk (Kd.S_below (mv HO_12.out) hb))); (try (replace HO298 := Aside0.mk (Kd.S_below (mv HO298.out) hb))); replace HB := Aside0.mk (below_step (bt) hb); have HM13 := Aside0.mk hM_; clear hM_ hb hne_; clear hbn_))
    repeat (go_quiet (first | ((with_reducible refine gate_dst (N := 52) rfl ?_); (try (refine gate_guard (by rfl) ?_; dsimp only)); refine Kd.S_lit (Kd.slice 5 (Kd.int .u8)) _ 22 ?hg (N := 52) ?hd (xs := ([] : List (List Int))) (inner := []) (ok := fun _ => True) (okp := fun _ => True) ?hr ?hp (fun _ hk => hk) trivial (Below.refl _ _) (Nat.le_refl _) (by simp) ?_; (case hd => rfl); (case hg => rfl); (case hr => first | (go_simp; done) | (go_simp; rfl)); (case hp => exact (Reps.none _ _)); intro v297 w18 ho19 hb hg_ hnew_; (try (replace HM13 := Aside0.mk (MR_below (by (with_reducible repeat (first | apply MR_alloc | apply MR_drewN | apply MR_drew)); exact HM13.out) hb))); (try (replace HM17 := Aside0.mk (MR_below (by (with_reducible repeat (first | apply MR_alloc | apply MR_drewN | apply MR_drew)); exact HM17.out) hb))); clear hg_ hnew_; (first | rw [← Ny296.out] at ho19 | (simp only [Int.reduceToNat] at ho19; rw [← Ny296.out] at ho19)); replace HO_2 := Aside0.mk (Kd.V_elder' (mv HO_2.out) (Kd.S_base ho19) hb); replace HO_4 := Aside0.mk (Kd.V_elder' (mv HO_4.out) (Kd.S_base ho19) hb); have HO298 := Aside0.mk (Kd.S_lower (Kd.S_newM (M := fun k_ => (w.heap.size ≤ k_)) ho19 (below_size (bt)) (fun k_ h_ => h_)) (below_size (bt))); replace HB := Aside0.mk (below_step (bt) hb); clear hb ho19) | ((with_reducible refine gate_dst (N := 53) rfl ?_); refine wp_mnew rfl rfl rfl w.heap.size (below_size (bt)) ?_; intro b13 wm hbn_ hM_ hb hne_; obtain rfl := Option.some.inj A17.out; (try (replace HO_2 := Aside0.mk (Kd.V_below (mv HO_2.out) hb))); (try (replace HO_4 := Aside0.mk (Kd.V_below (mv HO_4.out) hb))); (try (replace HO_12 := Aside0.mk (Kd.S_below (mv HO_12.out) hb))); (try (replace HO298 := Aside0.mk (Kd.S_below (mv HO298.out) hb))); replace HB := Aside0.mk (below_step (bt) hb); have HM13 := Aside0.mk hM_; clear hM_ hb hne_; clear hbn_)); try go_wp2_with (first | ((with_reducible refine gate_dst (N := 52) rfl ?_); (try (refine gate_guard (by rfl) ?_; dsimp only)); refine Kd.S_lit (Kd.slice 5 (Kd.int .u8)) _ 22 ?hg (N := 52) ?hd (xs := ([] : List (List Int))) (inner := []) (ok := fun _ => True) (okp := fun _ => True) ?hr ?hp (fun _ hk => hk) trivial (Below.refl _ _) (Nat.le_refl _) (by simp) ?_; (case hd => rfl); (case hg => rfl); (case hr => first | (go_simp; done) | (go_simp; rfl)); (case hp => exact (Reps.none _ _)); intro v297 w18 ho19 hb hg_ hnew_; (try (replace HM13 := Aside0.mk (MR_below (by (with_reducible repeat (first | apply MR_alloc | apply MR_drewN | apply MR_drew)); exact HM13.out) hb))); (try (replace HM17 := Aside0.mk (MR_below (by (with_reducible repeat (first | apply MR_alloc | apply MR_drewN | apply MR_drew)); exact HM17.out) hb))); clear hg_ hnew_; (first | rw [← Ny296.out] at ho19 | (simp only [Int.reduceToNat] at ho19; rw [← Ny296.out] at ho19)); replace HO_2 := Aside0.mk (Kd.V_elder' (mv HO_2.out) (Kd.S_base ho19) hb); replace HO_4 := Aside0.mk (Kd.V_elder' (mv HO_4.out) (Kd.S_base ho19) hb); have HO298 := Aside0.mk (Kd.S_lower (Kd.S_newM (M := fun k_ => (w.heap.size ≤ k_)) ho19 (below_size (bt)) (fun k_ h_ => h_)) (below_size (bt))); replace HB := Aside0.mk (below_step (bt) hb); clear hb ho19) | ((with_reducible refine gate_dst (N := 53) rfl ?_); refine wp_mnew rfl rfl rfl w.heap.size (below_size (bt)) ?_; intro b13 wm hbn_ hM_ hb hne_; obtain rfl := Option.some.inj A17.out; (try (replace HO_2 := Aside0.mk (Kd.V_below (mv HO_2.out) hb))); (try (replace HO_4 := Aside0.mk (Kd.V_below (mv HO_4.out) hb))); (try (replace HO_12 := Aside0.mk (Kd.S_below (mv HO_12.out) hb))); (try (replace HO298 := Aside0.mk (Kd.S_below (mv HO298.out) hb))); replace HB := Aside0.mk (below_step (bt) hb); have HM13 := Aside0.mk hM_; clear hM_ hb hne_; clear hbn_)))
    go_loopg [12, 56] kj5 (fun kq v12 v56 w' => ∃ (x12_2 : List (List Int)) (x13_2 : Mp) (x56_2 : Int), v56 = .int .i64 x56_2 ∧ Aside0 (impl_climbMany.l0 kq a0 a1 l2 l4 x12_2 x13_2 l3 (l3.length : Int) x56_2 = some (r1, r2)) ∧ Aside0 (kq ≤ kj5) ∧ Aside0 (Kd.V (Kd.int .i64) 3 w' w.heap.size (fun k_ => ((P2_ k_ ∨ P4_ k_) ∨ w.heap.size ≤ k_) ∧ some k_ ≠ (v12 : Value).ownBlock) (.slice A2 l2.length c2) l2) ∧ Aside0 (Kd.V (Kd.int .i64) 3 w' w.heap.size (fun k_ => ((P2_ k_ ∨ P4_ k_) ∨ w.heap.size ≤ k_) ∧ some k_ ≠ (v12 : Value).ownBlock) (.slice A4 l4.length c4) l4) ∧ Aside0 (Kd.S (Kd.slice 5 (Kd.int .u8)) 22 w' w.heap.size (fun k_ => (w.heap.size ≤ k_)) v12 x12_2) ∧ Aside0 (Below w.heap.size w w') ∧ Aside0 (MR w' w.heap.size b13 x13_2))
    case atStart => exact ⟨(y296), _, (0), (by first | rfl | (simp; done) | (simp [*]; done)), H', ⟨Nat.le_refl _⟩, ⟨mv HO_2.out⟩, ⟨mv HO_4.out⟩, ⟨by (with_reducible repeat (first | apply Kd.S_alloc | apply Kd.S_drewN | apply Kd.S_drew)); exact Kd.S_mono HO298.out (fun _ hk => hk.1)⟩, ⟨bt⟩, ⟨(by (with_reducible repeat (first | apply MR_alloc | apply MR_drewN | apply MR_drew)); exact HM13.out)⟩⟩
    case round =>
     clear H'
     try clear c1
     try clear c2
     try clear p2
     try clear c3
     try clear c4
     try clear c8
     try clear c10
     try clear c11
     try clear c11b0
     try clear c11b1
     try clear c11b2
     try clear c13
     try clear c16
     try clear p2
     obtain ⟨x12_2, x13_2, x56_2, rfl, HA, HK2, HO_2, HO_4, HO_12, HB, HM13⟩ := hrel
     cases gk with
     | zero => exact absurd HA.out (by simp [impl_climbMany.l0])
     | succ k2 =>
      have H := HA.out
      clear HA
      simp only [impl_climbMany.l0] at H
      by_cases c20 : x56_2 < (l3.length : Int)
      ·rw [if_pos c20] at H
       have c20b0 : decide (x56_2 < (l3.length : Int)) = true := decide_eq_true c20
       clear c20
       by_cases c21 : 0 ≤ x56_2
       ·rw [if_pos c21] at H
        have c21b0 : decide (0 ≤ x56_2) = true := decide_eq_true c21
        clear c21
        by_cases c22 : x56_2 < (l3.length : Int)
        ·rw [if_pos c22] at H
         have c22b0 : decide (x56_2 < (l3.length : Int)) = true := decide_eq_true c22
         clear c22
         replace H := Option.bind_eq_some_iff.mp H
         obtain ⟨t301, A230, H⟩ := H
         (try dsimp -simprocs only at H)
         have A23 := Aside0.mk A230
         clear A230
         by_cases c24 : x12_2.length < 5864062014805
         ·rw [if_pos c24] at H
          have LMc24 := Aside0.mk c24
          clear c24
          obtain ⟨y304, hy304⟩ : ∃ y_ : List (List Int), y_ = (x12_2 ++ [t301]) := ⟨_, rfl⟩
          replace H : (if x56_2 < (l2.length : Int) then (if x56_2 < (y304.length : Int) then ((impl_Digest.f a0 (rd_L2 y304 x56_2)).bind fun t309 => ((fake_mp_put.f x13_2 (rd l2 x56_2) t309).bind fun t310 => (impl_climbMany.l0 k2 a0 a1 l2 l4 y304 t310 l3 (l3.length : Int) (wrap64 (x56_2 + 1))))) else (none)) else (none)) = some (r1, r2) := by first | (rw [hy304]; exact H) | exact H
          have Ny304 := Aside0.mk hy304
          clear hy304
          by_cases c25 : x56_2 < (l2.length : Int)
          ·rw [if_pos c25] at H
           have c25b0 : decide (x56_2 < (l2.length : Int)) = true := decide_eq_true c25
           clear c25
           by_cases c26 : x56_2 < (y304.length : Int)
           ·rw [if_pos c26] at H
            have c26b0 : decide (x56_2 < (y304.length : Int)) = true := decide_eq_true c26
            clear c26
            replace H := Option.bind_eq_some_iff.mp H
            obtain ⟨t309, A270, H⟩ := H
            (try dsimp -simprocs only at H)
            have A27 := Aside0.mk A270
            clear A270
            replace H := Option.bind_eq_some_iff.mp H
            obtain ⟨t310, A280, H⟩ := H
            (try dsimp -simprocs only at H)
            have A28 := Aside0.mk A280
            clear A280
            have H' := Aside0.mk H
            clear H
            have p300 : 0 ≤ (x56_2 : Int) := of_decide_eq_true asm
            have q300 : x56_2 < (l3.length : Int) := of_decide_eq_true asm
            obtain ⟨ad300, A300_0, c300_0, e300, hx300_0, hl300_0, hi300_0⟩ := at_L2 HR3.out x56_2 p300 q300
            cases e300
            replace hx300_0 := (HB.out.cell (World.block_lt_of_cell? w _ hx300_0)).trans hx300_0
            have HR300_0 := Aside0.mk hi300_0
            have HC300_0 := Aside0.mk hl300_0
            clear hi300_0 hl300_0
            replace p300 := eq_true p300
            replace q300 := eq_true q300
            go_upto_region 8 with (first | (go_at_call 70; (with_reducible refine (impl_leafInput.calls _ _ (rd_L2 l3 x56_2) t301 _ ?side1 ?side2 A23.out).mono ?_); (case side1 => exact cv ((Kd.C_below HR300_0.out HB.out))); (case side2 => exact HC300_0.out); rintro e w29 ⟨v302, rfl, ho0, hb⟩; (try (replace HM13 := Aside0.mk (MR_below (by (with_reducible repeat (first | apply MR_alloc | apply MR_drewN | apply MR_drew)); exact HM13.out) hb))); (try (replace HM17 := Aside0.mk (MR_below (by (with_reducible repeat (first | apply MR_alloc | apply MR_drewN | apply MR_drew)); exact HM17.out) hb))); replace HO_2 := Aside0.mk (Kd.V_elder' (mv HO_2.out) (Kd.R_base ho0) hb); replace HO_4 := Aside0.mk (Kd.V_elder' (mv HO_4.out) (Kd.R_base ho0) hb); replace HO_12 := Aside0.mk (Kd.S_elder' (mv HO_12.out) (Kd.R_base ho0) hb); have HO303 := Aside0.mk (Kd.R_lower (Kd.R_newM (M := fun k_ => (w.heap.size ≤ k_)) ho0 (below_size (bt)) (fun k_ h_ => h_)) (below_size (bt))); replace HB := Aside0.mk (below_step (bt) hb); (try clear hb); (try clear hb2); (try clear hk); (try clear hi); (try clear ho0); obtain ⟨Ao31, co31, eo31⟩ := Kd.R_slice HO303.out; subst eo31) | ((with_reducible refine gate_builtin (b := .append) (xs := #[.tmp 61, .tmp 64]) rfl ?_); (try (refine gate_guard (by rfl) ?_; dsimp only)); at_builtin; refine Kd.S_append (Kd.slice 5 (Kd.int .u8)) (w0 := w) w.heap.size rfl (.tmp 61) (.tmp 64) 30 22 (.slice none 0 0) 24 rfl Try.underlying30 info22 rfl (by decide) (by omega) u12 x12_2 t301 [.slice Ao31 t301.length co31] (fun k_ => (w.heap.size ≤ k_)) (fun k_ => some k_ = (.slice Ao31 t301.length co31 : Value).ownBlock) rfl rfl ?aP (fun k_ hk_ => ((Kd.R_mono (ok' := fun k_ => ((fun k_ => (w.heap.size ≤ k_))) k_ ∧ some k_ ≠ (u12 : Value).ownBlock) (Kd.R_apart' (HO303.out) (Kd.S_typed HO_12.out) (by decide)) (fun k_ hk => ⟨hk.1.1, hk.2⟩))).1 k_ hk_.symm) ?aF ?aO ?aB ?aS ?aL ?_; (case aP => exact Kd.M_row (Kd.R_mono (Kd.R_tight rfl (Kd.R_mono (ok' := fun k_ => ((fun k_ => (w.heap.size ≤ k_))) k_ ∧ some k_ ≠ (u12 : Value).ownBlock) (Kd.R_apart' (HO303.out) (Kd.S_typed HO_12.out) (by decide)) (fun k_ hk => ⟨hk.1.1, hk.2⟩))) (fun _ h_ => h_))); (case aB => exact (bt)); (case aF => exact (fun k_ hk => (Nat.le_trans (below_size (bt)) hk))); (case aO => exact (by (with_reducible repeat (first | apply Kd.S_alloc | apply Kd.S_drewN | apply Kd.S_drew)); exact Kd.S_mono HO_12.out (fun k_ hk => ⟨hk.1, fun e_ => hk.2 e_⟩))); (case aS => exact (below_size (bt))); (case aL => have := LMc24.out; omega); intro v305 w30 ho hb hg hat; (try (replace HM13 := Aside0.mk (MR_grown (by (with_reducible repeat (first | apply MR_alloc | apply MR_drewN | apply MR_drew)); exact HM13.out) hg (MR_ne HM13.out (Kd.S_typed (by (with_reducible repeat (first | apply Kd.S_alloc | apply Kd.S_drewN | apply Kd.S_drew)); exact HO_12.out)))))); (try (replace HM17 := Aside0.mk (MR_grown (by (with_reducible repeat (first | apply MR_alloc | apply MR_drewN | apply MR_drew)); exact HM17.out) hg (MR_ne HM17.out (Kd.S_typed (by (with_reducible repeat (first | apply Kd.S_alloc | apply Kd.S_drewN | apply Kd.S_drew)); exact HO_12.out)))))); rw [← Ny304.out] at ho; replace HO_2 := Aside0.mk (Kd.V_afterv (ok := (fun k_ => ((P2_ k_ ∨ P4_ k_) ∨ w.heap.size ≤ k_) ∧ some k_ ≠ (.slice Ao31 t301.length co31 : Value).ownBlock)) (by (with_reducible repeat (first | apply Kd.V_alloc | apply Kd.V_drewN | apply Kd.V_drew)); exact Kd.V_mono HO_2.out (fun _ hk => ⟨⟨hk.1.1, hk.2⟩, hk.1.2⟩)) hg hat); replace HO_4 := Aside0.mk (Kd.V_afterv (ok := (fun k_ => ((P2_ k_ ∨ P4_ k_) ∨ w.heap.size ≤ k_) ∧ some k_ ≠ (.slice Ao31 t301.length co31 : Value).ownBlock)) (by (with_reducible repeat (first | apply Kd.V_alloc | apply Kd.V_drewN | apply Kd.V_drew)); exact Kd.V_mono HO_4.out (fun _ hk => ⟨⟨hk.1.1, hk.2⟩, hk.1.2⟩)) hg hat); replace HB := Aside0.mk (hb); have HO306 := Aside0.mk (ho); clear HO_12 HO303; clear ho hb hg hat; have p307 : 0 ≤ (x56_2 : Int) := of_decide_eq_true asm; have q307 : x56_2 < (l2.length : Int) := of_decide_eq_true asm; obtain ⟨ad307, e307, hx307_0⟩ := Kd.at_int (Kd.V_reads' HO_2.out).2.2 x56_2 p307 q307; cases e307; replace p307 := eq_true p307; replace q307 := eq_true q307; obtain ⟨Ao32, co32, eo32⟩ := Kd.S_slice HO306.out; subst eo32; have p308 : 0 ≤ (x56_2 : Int) := of_decide_eq_true asm; have q308 : x56_2 < (y304.length : Int) := of_decide_eq_true asm; obtain ⟨ad308, A308_0, c308_0, e308, hx308_0, hl308_0, hi308_0⟩ := at_L2 (Kd.S_reads' HO306.out).2.2 x56_2 p308 q308; cases e308; obtain ⟨ce308, hce308, hMe308, hcc308⟩ := Kd.S_get HO306.out [] x56_2 p308 (by first | exact q308 | exact of_decide_eq_true asm | (have e_ := (Kd.S_reads' HO306.out).1; omega)); obtain ⟨ve308_0, rfl, ge308_0⟩ := hMe308; have hv308_0 := hcc308 0 _ rfl; rw [Nat.add_zero, show ((Kd.slice 5 (Kd.int .u8))).sz = 1 from rfl, Nat.mul_one] at hv308_0; replace hv308_0 := Option.some.inj (hv308_0.symm.trans hx308_0); rw [hv308_0] at ge308_0; have HL308_0 := Aside0.mk (show Kd.R (Kd.int .u8) 5 _ _ _ _ (rd_L2 y304 x56_2) from ge308_0); clear hv308_0 ge308_0; clear hcc308 hce308; have HR308_0 := Aside0.mk hi308_0; have HC308_0 := Aside0.mk hl308_0; clear hi308_0 hl308_0; replace p308 := eq_true p308; replace q308 := eq_true q308) | (go_at_call 29; (with_reducible refine (impl_Digest.calls a0 _ _ (rd_L2 y304 x56_2) t309 _ ?side1 ?side2 A27.out).mono ?_); (case side1 => repeat (first | exact (by repeat (first | (with_reducible exact HR308_0.out) | (with_reducible refine Kd.C_alloc ?_ _) | (with_reducible refine Kd.C_drewN ?_ _) | (with_reducible refine Kd.C_drew ?_) | exact HR308_0.out)) | (with_reducible refine Kd.C_alloc ?_ _) | (with_reducible refine Kd.C_drewN ?_ _) | (with_reducible refine Kd.C_drew ?_))); (case side2 => exact HC308_0.out); rintro e w33 ⟨rfl, hb⟩; (try (replace HM13 := Aside0.mk (MR_below (by (with_reducible repeat (first | apply MR_alloc | apply MR_drewN | apply MR_drew)); exact HM13.out) hb))); (try (replace HM17 := Aside0.mk (MR_below (by (with_reducible repeat (first | apply MR_alloc | apply MR_drewN | apply MR_drew)); exact HM17.out) hb))); replace HO_2 := Aside0.mk (Kd.V_below (mv HO_2.out) hb); replace HO_4 := Aside0.mk (Kd.V_below (mv HO_4.out) hb); replace HO306 := Aside0.mk (Kd.S_below (mv HO306.out) hb); replace HL308_0 := Aside0.mk (Kd.R_below (mv HL308_0.out) hb); replace HR308_0 := Aside0.mk (Kd.C_below (by repeat (first | (with_reducible exact HR308_0.out) | (with_reducible refine Kd.C_alloc ?_ _) | (with_reducible refine Kd.C_drewN ?_ _) | (with_reducible refine Kd.C_drew ?_) | exact HR308_0.out)) hb); replace HB := Aside0.mk (below_step (bt) hb); (try clear hb); (try clear hb2); (try clear hk); (try clear hi)) | (at_mapUpdate; refine wp_mput rfl rfl _ _ _ rfl rfl rfl rfl (by (with_reducible repeat (first | apply MR_alloc | apply MR_drewN | apply MR_drew)); exact HM17.out) A28.out ?_; intro wm hM_ ht_; (first | replace HO306 := Aside0.mk (V_turn (mv HO306.out) ht_) | replace HO306 := Aside0.mk (S_turn (mv HO306.out) ht_)); (first | replace HO_2 := Aside0.mk (V_turn (mv HO_2.out) ht_) | replace HO_2 := Aside0.mk (S_turn (mv HO_2.out) ht_)); (first | replace HO_4 := Aside0.mk (V_turn (mv HO_4.out) ht_) | replace HO_4 := Aside0.mk (S_turn (mv HO_4.out) ht_)); replace HM13 := Aside0.mk (MR_turn (by (with_reducible repeat (first | apply MR_alloc | apply MR_drewN | apply MR_drew)); exact HM13.out) ht_ HNE.out); replace HB := Aside0.mk (below_turn (bt) ht_); replace HM17 := Aside0.mk hM_; clear hM_ ht_))
            refine start_ (n := 12) (S := (fun w' => w'.cell? (ad307.add x56_2.toNat) = some (.int .i64 (rd l2 x56_2)) ∧ w'.cell? (ad308.add x56_2.toNat) = some (.slice A308_0 (rd_L2 y304 x56_2).length c308_0))) (ds := [11]) #[false, false, false, false, false, false, false, false, false, false, false, false] (by kernel_rfl) rfl rfl ⟨hx307_0, hx308_0⟩ (fun hHeld => ?_)
            refine with_tabW mp_tab8 mp_bits8 (fun HT_ HW_ => ?_)
            refine pz (i := 0) (N := some 66) #[true, false, false, false, false, false, false, false, false, false, false, false] rfl rfl HT_.out ?_
            refine pz (i := 1) (N := some 67) #[true, true, false, false, false, false, false, false, false, false, false, false] rfl rfl HT_.out ?_
            refine pz (i := 2) (N := some 68) #[true, true, true, false, false, false, false, false, false, false, false, false] rfl rfl HT_.out ?_
            refine pz (i := 3) (N := some 69) #[true, true, true, true, false, false, false, false, false, false, false, false] rfl rfl HT_.out ?_
            refine tz (i := 4) (N := some 70) #[true, true, true, true, true, false, false, false, false, false, false, false] rfl rfl HT_.out HW_.out hHeld (Or.inl ⟨by rfl, by rintro w' ⟨s0, s1⟩; go_simp; with_reducible rfl⟩) ?_
            refine pz (i := 5) (N := some 71) #[true, true, true, true, true, true, false, false, false, false, false, false] rfl rfl HT_.out ?_
            refine pz (i := 6) (N := some 72) #[true, true, true, true, true, true, true, false, false, false, false, false] rfl rfl HT_.out ?_
            refine pz (i := 7) (N := some 73) #[true, true, true, true, true, true, true, true, false, false, false, false] rfl rfl HT_.out ?_
            refine pz (i := 8) (N := some 74) #[true, true, true, true, true, true, true, true, true, false, false, false] rfl rfl HT_.out ?_
            refine tz (i := 9) (N := some 75) #[true, true, true, true, true, true, true, true, true, true, false, false] rfl rfl HT_.out HW_.out hHeld (Or.inl ⟨by rfl, by rintro w' ⟨s0, s1⟩; go_simp; with_reducible rfl⟩) ?_
            refine one_ (i := 10) (N := some 76) #[true, true, true, true, true, true, true, true, true, true, true, false] rfl rfl (one_of HT_.out (by kernel_rfl)) (by decide) (fun K hK => ?_)
            refine goes_ Try.func29 (by kernel_rfl) rfl #[.int .i64 a0, .slice A308_0 (rd_L2 y304 x56_2).length c308_0] (by rfl) rfl rfl av ?_
            refine (impl_Digest.calls a0 _ _ (rd_L2 y304 x56_2) t309 _ (cv (HR308_0.out)) HC308_0.out A27.out).mono ?_
            rintro e w33 ⟨rfl, hb⟩
            refine ⟨_, rfl, ?_⟩
            replace HO_2 := Aside0.mk (Kd.V_below (mv HO_2.out) hb)
            replace HO_4 := Aside0.mk (Kd.V_below (mv HO_4.out) hb)
            replace HO306 := Aside0.mk (Kd.S_below (mv HO306.out) hb)
            replace HM13 := Aside0.mk (MR_below (by (with_reducible repeat (first | apply MR_alloc | apply MR_drewN | apply MR_drew)); exact HM13.out) hb)
            replace HB := Aside0.mk (below_step (bt) hb)
            have HS : (fun w' => w'.cell? (ad307.add x56_2.toNat) = some (.int .i64 (rd l2 x56_2)) ∧ w'.cell? (ad308.add x56_2.toNat) = some (.slice A308_0 (rd_L2 y304 x56_2).length c308_0)) w33 := ⟨(hb.cell (World.block_lt_of_cell? _ _ hHeld.1)).trans hHeld.1, (hb.cell (World.block_lt_of_cell? _ _ hHeld.2)).trans hHeld.2⟩
            refine hK.out _ _ HS (fun hHeld => ?_)
            clear hK K HS hHeld hb
            refine nz (N := some 76) ?_
            refine last_ (i := 11) (N := none) #[true, true, true, true, true, true, true, true, true, true, true, true] rfl rfl (one_of HT_.out (by kernel_rfl)) (by decide) (fun K hK => ?_)
            obtain ⟨w34, hrun_, hM_, ht_⟩ := MR_put HM13.out A28.out
            refine skip_ (w1 := w34) (by rfl) rfl (put_run rfl rfl rfl rfl hrun_) ?_
            refine hK.out _ _ ?_
            clear hK K hrun_
            refine done_ (done_of HT_.out (by kernel_rfl)) ?_
            replace HO_2 := Aside0.mk (V_turn HO_2.out ht_)
            replace HO_4 := Aside0.mk (V_turn HO_4.out ht_)
            replace HO306 := Aside0.mk (S_turn HO306.out ht_)
            replace HB := Aside0.mk (below_turn HB.out ht_)
            have HM13 := Aside0.mk hM_
            clear hM_ ht_ HT_ HW_
            go_wp2
            go_roundg k2
            case measure => have := HJ5.out; have := HK2.out; omega
            case rel => exact ⟨(y304), (t310), (wrap64 (x56_2 + 1)), (by first | rfl | (simp; done) | (simp [*]; done)), H', ⟨by have := HJ5.out; have := HK2.out; omega⟩, ⟨by (with_reducible repeat (first | apply Kd.V_alloc | apply Kd.V_drewN | apply Kd.V_drew)); exact Kd.V_mono HO_2.out (fun _ hk => ⟨hk.1.1, hk.2⟩)⟩, ⟨by (with_reducible repeat (first | apply Kd.V_alloc | apply Kd.V_drewN | apply Kd.V_drew)); exact Kd.V_mono HO_4.out (fun _ hk => ⟨hk.1.1, hk.2⟩)⟩, ⟨mv HO306.out⟩, ⟨bt⟩, ⟨(by (with_reducible repeat (first | apply MR_alloc | apply MR_drewN | apply MR_drew)); exact HM13.out)⟩⟩
           ·rw [if_neg c26] at H
            exact absurd H (by simp)
          ·rw [if_neg c25] at H
           exact absurd H (by simp)
         ·rw [if_neg c24] at H
          exact absurd H (by simp)
        ·rw [if_neg c22] at H
         exact absurd H (by simp)
       ·rw [if_neg c21] at H
        exact absurd H (by simp)
      ·rw [if_neg c20] at H
       have c20b0 : decide (x56_2 < (l3.length : Int)) = false := decide_eq_false c20
       clear c20
       have H' := Aside0.mk H
       clear H
       go_wp2
       repeat (go_quiet (fail); try go_wp2)
       go_loopg [2, 4, 12, 13, 16] k2 (fun kq v2 v4 v12 v13 v16 w' => ∃ (x2_3 : List Int) (x4_3 : List Int) (x12_3 : List (List Int)) (x13_3 : Mp) (b13_3 : Nat) (x16_3 : Int), v13 = .map (some b13_3) ∧ v16 = .int .i64 x16_3 ∧ Aside0 (impl_climbMany.l1 kq a0 a1 x2_3 x4_3 x12_3 x13_3 x16_3 = some (r1, r2)) ∧ Aside0 (kq ≤ k2) ∧ Aside0 (Kd.V (Kd.int .i64) 3 w' w.heap.size (fun k_ => ((P2_ k_ ∨ P4_ k_) ∨ w.heap.size ≤ k_) ∧ some k_ ≠ (v12 : Value).ownBlock) v2 x2_3) ∧ Aside0 (Kd.V (Kd.int .i64) 3 w' w.heap.size (fun k_ => ((P2_ k_ ∨ P4_ k_) ∨ w.heap.size ≤ k_) ∧ some k_ ≠ (v12 : Value).ownBlock) v4 x4_3) ∧ Aside0 (Kd.S (Kd.slice 5 (Kd.int .u8)) 22 w' w.heap.size (fun k_ => (w.heap.size ≤ k_)) v12 x12_3) ∧ Aside0 (Below w.heap.size w w') ∧ Aside0 (MR w' w.heap.size b13_3 x13_3))
       case atStart => exact ⟨(l2), (l4), (x12_2), (x13_2), _, (a1), (by first | rfl | (simp; done) | (simp [*]; done)), (by first | rfl | (simp; done) | (simp [*]; done)), H', ⟨Nat.le_refl _⟩, ⟨mv HO_2.out⟩, ⟨mv HO_4.out⟩, ⟨mv HO_12.out⟩, ⟨bt⟩, ⟨(by (with_reducible repeat (first | apply MR_alloc | apply MR_drewN | apply MR_drew)); exact HM13.out)⟩⟩
       case round =>
        clear H'
        try clear c1
        try clear c2
        try clear p2
        try clear c3
        try clear p3
        try clear q3
        try clear hx3
        try clear c4
        try clear p6
        try clear c8
        try clear c10
        try clear c11
        try clear c11b0
        try clear c11b1
        try clear c11b2
        try clear c13
        try clear c16
        try clear c20
        try clear c20b0
        try clear c21
        try clear c21b0
        try clear c22
        try clear c22b0
        try clear c24
        try clear c25
        try clear c25b0
        try clear c26
        try clear c26b0
        try clear c30
        try clear p30
        try clear q30
        try clear hx30
        try clear hx300_0
        try clear hx307_0
        try clear hx308_0
        try clear p2
        try clear p300
        try clear p307
        try clear p308
        try clear q300
        try clear q307
        try clear q308
        obtain ⟨x2_3, x4_3, x12_3, x13_3, b13_3, x16_3, rfl, rfl, HA, HK3, HO_2, HO_4, HO_12, HB, HM13⟩ := hrel
        cases gk with
        | zero => exact absurd HA.out (by simp [impl_climbMany.l1])
        | succ k3 =>
         have H := HA.out
         clear HA
         simp only [impl_climbMany.l1] at H
         by_cases c34 : x16_3 > 1
         ·rw [if_pos c34] at H
          have c34b0 : decide (1 < x16_3) = true := decide_eq_true c34
          clear c34
          replace H := Option.bind_eq_some_iff.mp H
          obtain ⟨t318, A350, H⟩ := H
          (try dsimp -simprocs only at H)
          have A35 := Aside0.mk A350
          clear A350
          have H' := Aside0.mk H
          clear H
          go_wp2_with (first | ((with_reducible refine gate_dst (N := 84) rfl ?_); refine wp_mnew rfl rfl rfl w.heap.size (below_size (bt)) ?_; intro b17 wm hbn_ hM_ hb hne_; obtain rfl := Option.some.inj A35.out; have HNE := Aside0.mk (hne_ _ _ _ (by (with_reducible repeat (first | apply MR_alloc | apply MR_drewN | apply MR_drew)); exact HM13.out)); replace HM13 := Aside0.mk (MR_below (by (with_reducible repeat (first | apply MR_alloc | apply MR_drewN | apply MR_drew)); exact HM13.out) hb); (try (replace HO_2 := Aside0.mk (Kd.V_below (mv HO_2.out) hb))); (try (replace HO_4 := Aside0.mk (Kd.V_below (mv HO_4.out) hb))); (try (replace HO_12 := Aside0.mk (Kd.S_below (mv HO_12.out) hb))); (try (replace HO298 := Aside0.mk (Kd.S_below (mv HO298.out) hb))); replace HB := Aside0.mk (below_step (bt) hb); have HM17 := Aside0.mk hM_; clear hM_ hb hne_; clear hbn_; obtain ⟨Ao36, co36, eo36⟩ := Kd.V_slice HO_2.out; subst eo36))
          repeat (go_quiet (first | ((with_reducible refine gate_dst (N := 84) rfl ?_); refine wp_mnew rfl rfl rfl w.heap.size (below_size (bt)) ?_; intro b17 wm hbn_ hM_ hb hne_; obtain rfl := Option.some.inj A35.out; have HNE := Aside0.mk (hne_ _ _ _ (by (with_reducible repeat (first | apply MR_alloc | apply MR_drewN | apply MR_drew)); exact HM13.out)); replace HM13 := Aside0.mk (MR_below (by (with_reducible repeat (first | apply MR_alloc | apply MR_drewN | apply MR_drew)); exact HM13.out) hb); (try (replace HO_2 := Aside0.mk (Kd.V_below (mv HO_2.out) hb))); (try (replace HO_4 := Aside0.mk (Kd.V_below (mv HO_4.out) hb))); (try (replace HO_12 := Aside0.mk (Kd.S_below (mv HO_12.out) hb))); (try (replace HO298 := Aside0.mk (Kd.S_below (mv HO298.out) hb))); replace HB := Aside0.mk (below_step (bt) hb); have HM17 := Aside0.mk hM_; clear hM_ hb hne_; clear hbn_; obtain ⟨Ao36, co36, eo36⟩ := Kd.V_slice HO_2.out; subst eo36)); try go_wp2_with (first | ((with_reducible refine gate_dst (N := 84) rfl ?_); refine wp_mnew rfl rfl rfl w.heap.size (below_size (bt)) ?_; intro b17 wm hbn_ hM_ hb hne_; obtain rfl := Option.some.inj A35.out; have HNE := Aside0.mk (hne_ _ _ _ (by (with_reducible repeat (first | apply MR_alloc | apply MR_drewN | apply MR_drew)); exact HM13.out)); replace HM13 := Aside0.mk (MR_below (by (with_reducible repeat (first | apply MR_alloc | apply MR_drewN | apply MR_drew)); exact HM13.out) hb); (try (replace HO_2 := Aside0.mk (Kd.V_below (mv HO_2.out) hb))); (try (replace HO_4 := Aside0.mk (Kd.V_below (mv HO_4.out) hb))); (try (replace HO_12 := Aside0.mk (Kd.S_below (mv HO_12.out) hb))); (try (replace HO298 := Aside0.mk (Kd.S_below (mv HO298.out) hb))); replace HB := Aside0.mk (below_step (bt) hb); have HM17 := Aside0.mk hM_; clear hM_ hb hne_; clear hbn_; obtain ⟨Ao36, co36, eo36⟩ := Kd.V_slice HO_2.out; subst eo36)))
          go_loopg [4, 12, 87] k3 (fun kq v4 v12 v87 w' => ∃ (x4_4 : List Int) (x12_4 : List (List Int)) (x17_4 : Mp) (x87_4 : Int), v87 = .int .i64 x87_4 ∧ Aside0 (impl_climbMany.l2 kq a0 a1 x2_3 x4_4 x12_4 x13_3 x16_3 x17_4 x2_3 (x2_3.length : Int) x87_4 = some (r1, r2)) ∧ Aside0 (kq ≤ k3) ∧ Aside0 (Kd.V (Kd.int .i64) 3 w' w.heap.size (fun k_ => ((P2_ k_ ∨ P4_ k_) ∨ w.heap.size ≤ k_) ∧ some k_ ≠ (v12 : Value).ownBlock) (.slice Ao36 x2_3.length co36) x2_3) ∧ Aside0 (Kd.V (Kd.int .i64) 3 w' w.heap.size (fun k_ => ((P2_ k_ ∨ P4_ k_) ∨ w.heap.size ≤ k_) ∧ some k_ ≠ (v12 : Value).ownBlock) v4 x4_4) ∧ Aside0 (Kd.S (Kd.slice 5 (Kd.int .u8)) 22 w' w.heap.size (fun k_ => (w.heap.size ≤ k_)) v12 x12_4) ∧ Aside0 (Kd.V (Kd.int .i64) 3 w' w.heap.size (fun k_ => ((P2_ k_ ∨ P4_ k_) ∨ w.heap.size ≤ k_) ∧ some k_ ≠ (v12 : Value).ownBlock) (.slice Ao36 x2_3.length co36) x2_3) ∧ Aside0 (Below w.heap.size w w') ∧ Aside0 (MR w' w.heap.size b13_3 x13_3) ∧ Aside0 (MR w' w.heap.size b17 x17_4) ∧ Aside0 (b13_3 ≠ b17))
          case atStart => exact ⟨(x4_3), (x12_3), _, (0), (by first | rfl | (simp; done) | (simp [*]; done)), H', ⟨Nat.le_refl _⟩, ⟨mv HO_2.out⟩, ⟨mv HO_4.out⟩, ⟨mv HO_12.out⟩, ⟨mv HO_2.out⟩, ⟨bt⟩, ⟨(by (with_reducible repeat (first | apply MR_alloc | apply MR_drewN | apply MR_drew)); exact HM13.out)⟩, ⟨(by (with_reducible repeat (first | apply MR_alloc | apply MR_drewN | apply MR_drew)); exact HM17.out)⟩, HNE⟩
          case round =>
           clear H'
           try clear c1
           try clear c2
           try clear p2
           try clear c3
           try clear p3
           try clear q3
           try clear hx3
           try clear c4
           try clear p6
           try clear c8
           try clear c10
           try clear c11
           try clear c11b0
           try clear c11b1
           try clear c11b2
           try clear c13
           try clear c16
           try clear c20
           try clear c20b0
           try clear c21
           try clear c21b0
           try clear c22
           try clear c22b0
           try clear c24
           try clear c25
           try clear c25b0
           try clear c26
           try clear c26b0
           try clear c30
           try clear p30
           try clear q30
           try clear hx30
           try clear c34
           try clear c34b0
           try clear hx300_0
           try clear hx307_0
           try clear hx308_0
           try clear p2
           try clear p3
           try clear p30
           try clear p300
           try clear p307
           try clear p308
           try clear p6
           try clear q3
           try clear q30
           try clear q300
           try clear q307
           try clear q308
           obtain ⟨x4_4, x12_4, x17_4, x87_4, rfl, HA, HK4, HO_2, HO_4, HO_12, HO_85, HB, HM13, HM17, HNE⟩ := hrel
           cases gk with
           | zero => exact absurd HA.out (by simp [impl_climbMany.l2])
           | succ k4 =>
            have H := HA.out
            clear HA
            simp only [impl_climbMany.l2] at H
            by_cases c37 : x87_4 < (x2_3.length : Int)
            ·rw [if_pos c37] at H
             have c37b0 : decide (x87_4 < (x2_3.length : Int)) = true := decide_eq_true c37
             clear c37
             by_cases c38 : 0 ≤ x87_4
             ·rw [if_pos c38] at H
              have c38b0 : decide (0 ≤ x87_4) = true := decide_eq_true c38
              clear c38
              by_cases c39 : x87_4 < (x2_3.length : Int)
              ·rw [if_pos c39] at H
               have c39b0 : decide (x87_4 < (x2_3.length : Int)) = true := decide_eq_true c39
               clear c39
               replace H := Option.bind_eq_some_iff.mp H
               obtain ⟨⟨t323, t324⟩, A400, H⟩ := H
               (try dsimp -simprocs only at H)
               have A40 := Aside0.mk A400
               clear A400
               have HC41 := Aside0.mk H
               clear H
               have p322 : 0 ≤ (x87_4 : Int) := of_decide_eq_true asm
               have q322 : x87_4 < (x2_3.length : Int) := of_decide_eq_true asm
               obtain ⟨ad322, e322, hx322_0⟩ := Kd.at_int (Kd.V_reads' HO_85.out).2.2 x87_4 p322 q322
               cases e322
               replace p322 := eq_true p322
               replace q322 := eq_true q322
               go_upto_block 6 with (first | (at_lookup; refine wp_mlook rfl _ _ rfl rfl rfl (by (with_reducible repeat (first | apply MR_alloc | apply MR_drewN | apply MR_drew)); exact HM13.out) A40.out ?_))
               repeat (go_quiet (first | (at_lookup; refine wp_mlook rfl _ _ rfl rfl rfl (by (with_reducible repeat (first | apply MR_alloc | apply MR_drewN | apply MR_drew)); exact HM13.out) A40.out ?_)); go_upto_block 6 with (first | (at_lookup; refine wp_mlook rfl _ _ rfl rfl rfl (by (with_reducible repeat (first | apply MR_alloc | apply MR_drewN | apply MR_drew)); exact HM13.out) A40.out ?_)))
               (try simp only [Act.put, List.setIfInBounds_toArray, List.set_cons_zero, List.set_cons_succ])
               go_cut [4, 20] (fun v4 v20 wc => ∃ (kq : Nat) (x4_40 : List Int) (x17_40 : Mp) (x20_40 : Int), v20 = .int .i64 x20_40 ∧ Aside0 (impl_climbMany.j6 kq a0 a1 x2_3 x4_40 x12_4 x13_3 x16_3 x17_40 (rd x2_3 x87_4) x20_40 x2_3 (x2_3.length : Int) x87_4 = some (r1, r2)) ∧ Aside0 (kq ≤ k4) ∧ Aside0 (Kd.V (Kd.int .i64) 3 wc w.heap.size (fun k_ => ((P2_ k_ ∨ P4_ k_) ∨ w.heap.size ≤ k_) ∧ some k_ ≠ (u12 : Value).ownBlock) (.slice (some ad322) x2_3.length co36) x2_3) ∧ Aside0 (Kd.V (Kd.int .i64) 3 wc w.heap.size (fun k_ => ((P2_ k_ ∨ P4_ k_) ∨ w.heap.size ≤ k_) ∧ some k_ ≠ (u12 : Value).ownBlock) v4 x4_40) ∧ Aside0 (Kd.S (Kd.slice 5 (Kd.int .u8)) 22 wc w.heap.size (fun k_ => (w.heap.size ≤ k_)) u12 x12_4) ∧ Aside0 (Kd.V (Kd.int .i64) 3 wc w.heap.size (fun k_ => ((P2_ k_ ∨ P4_ k_) ∨ w.heap.size ≤ k_) ∧ some k_ ≠ (u12 : Value).ownBlock) (.slice (some ad322) x2_3.length co36) x2_3) ∧ Aside0 (Below w.heap.size w wc) ∧ Aside0 (MR wc w.heap.size b13_3 x13_3) ∧ Aside0 (MR wc w.heap.size b17 x17_40) ∧ Aside0 (b13_3 ≠ b17))
               case first =>
                have H := HC41.out
                clear HC41
                by_cases c42 : (Go.bits .xor .i64 (rd x2_3 x87_4) 1) ≥ x16_3
                ·rw [if_pos c42] at H
                 have c42b0 : decide (x16_3 ≤ (Go.bits .xor .i64 (rd x2_3 x87_4) 1)) = true := decide_eq_true c42
                 clear c42
                 (first | rw [c42b0] | (simp only [i64_w, i32_w]; rw [c42b0]) | skip)
                 replace H := Option.bind_eq_some_iff.mp H
                 obtain ⟨t325, A430, H⟩ := H
                 (try dsimp -simprocs only at H)
                 have A43 := Aside0.mk A430
                 clear A430
                 replace H := Option.bind_eq_some_iff.mp H
                 obtain ⟨t326, A440, H⟩ := H
                 (try dsimp -simprocs only at H)
                 have A44 := Aside0.mk A440
                 clear A440
                 have H' := Aside0.mk H
                 clear H
                 go_wp2_with (first | (at_lookup; refine wp_mget rfl _ _ rfl rfl rfl (by (with_reducible repeat (first | apply MR_alloc | apply MR_drewN | apply MR_drew)); exact HM13.out) A43.out ?_) | (at_mapUpdate; refine wp_mput rfl rfl _ _ _ rfl rfl rfl rfl (by (with_reducible repeat (first | apply MR_alloc | apply MR_drewN | apply MR_drew)); exact HM17.out) A44.out ?_; intro wm hM_ ht_; (first | replace HO_12 := Aside0.mk (V_turn (mv HO_12.out) ht_) | replace HO_12 := Aside0.mk (S_turn (mv HO_12.out) ht_)); (first | replace HO_2 := Aside0.mk (V_turn (mv HO_2.out) ht_) | replace HO_2 := Aside0.mk (S_turn (mv HO_2.out) ht_)); (first | replace HO_4 := Aside0.mk (V_turn (mv HO_4.out) ht_) | replace HO_4 := Aside0.mk (S_turn (mv HO_4.out) ht_)); (first | replace HO_85 := Aside0.mk (V_turn (mv HO_85.out) ht_) | replace HO_85 := Aside0.mk (S_turn (mv HO_85.out) ht_)); replace HM13 := Aside0.mk (MR_turn (by (with_reducible repeat (first | apply MR_alloc | apply MR_drewN | apply MR_drew)); exact HM13.out) ht_ HNE.out); replace HB := Aside0.mk (below_turn (bt) ht_); replace HM17 := Aside0.mk hM_; clear hM_ ht_))
                 repeat (go_quiet (first | (at_lookup; refine wp_mget rfl _ _ rfl rfl rfl (by (with_reducible repeat (first | apply MR_alloc | apply MR_drewN | apply MR_drew)); exact HM13.out) A43.out ?_) | (at_mapUpdate; refine wp_mput rfl rfl _ _ _ rfl rfl rfl rfl (by (with_reducible repeat (first | apply MR_alloc | apply MR_drewN | apply MR_drew)); exact HM17.out) A44.out ?_; intro wm hM_ ht_; (first | replace HO_12 := Aside0.mk (V_turn (mv HO_12.out) ht_) | replace HO_12 := Aside0.mk (S_turn (mv HO_12.out) ht_)); (first | replace HO_2 := Aside0.mk (V_turn (mv HO_2.out) ht_) | replace HO_2 := Aside0.mk (S_turn (mv HO_2.out) ht_)); (first | replace HO_4 := Aside0.mk (V_turn (mv HO_4.out) ht_) | replace HO_4 := Aside0.mk (S_turn (mv HO_4.out) ht_)); (first | replace HO_85 := Aside0.mk (V_turn (mv HO_85.out) ht_) | replace HO_85 := Aside0.mk (S_turn (mv HO_85.out) ht_)); replace HM13 := Aside0.mk (MR_turn (by (with_reducible repeat (first | apply MR_alloc | apply MR_drewN | apply MR_drew)); exact HM13.out) ht_ HNE.out); replace HB := Aside0.mk (below_turn (bt) ht_); replace HM17 := Aside0.mk hM_; clear hM_ ht_)); try go_wp2_with (first | (at_lookup; refine wp_mget rfl _ _ rfl rfl rfl (by (with_reducible repeat (first | apply MR_alloc | apply MR_drewN | apply MR_drew)); exact HM13.out) A43.out ?_) | (at_mapUpdate; refine wp_mput rfl rfl _ _ _ rfl rfl rfl rfl (by (with_reducible repeat (first | apply MR_alloc | apply MR_drewN | apply MR_drew)); exact HM17.out) A44.out ?_; intro wm hM_ ht_; (first | replace HO_12 := Aside0.mk (V_turn (mv HO_12.out) ht_) | replace HO_12 := Aside0.mk (S_turn (mv HO_12.out) ht_)); (first | replace HO_2 := Aside0.mk (V_turn (mv HO_2.out) ht_) | replace HO_2 := Aside0.mk (S_turn (mv HO_2.out) ht_)); (first | replace HO_4 := Aside0.mk (V_turn (mv HO_4.out) ht_) | replace HO_4 := Aside0.mk (S_turn (mv HO_4.out) ht_)); (first | replace HO_85 := Aside0.mk (V_turn (mv HO_85.out) ht_) | replace HO_85 := Aside0.mk (S_turn (mv HO_85.out) ht_)); replace HM13 := Aside0.mk (MR_turn (by (with_reducible repeat (first | apply MR_alloc | apply MR_drewN | apply MR_drew)); exact HM13.out) ht_ HNE.out); replace HB := Aside0.mk (below_turn (bt) ht_); replace HM17 := Aside0.mk hM_; clear hM_ ht_)))
                 go_roundg k4
                 case measure => have := HJ5.out; have := HK2.out; have := HK3.out; have := HK4.out; omega
                 case rel => exact ⟨(x4_4), (x12_4), (t326), (wrap64 (x87_4 + 1)), (by first | rfl | (simp; done) | (simp [*]; done)), H', ⟨by have := HJ5.out; have := HK2.out; have := HK3.out; have := HK4.out; omega⟩, ⟨mv HO_2.out⟩, ⟨mv HO_4.out⟩, ⟨mv HO_12.out⟩, ⟨mv HO_85.out⟩, ⟨bt⟩, ⟨(by (with_reducible repeat (first | apply MR_alloc | apply MR_drewN | apply MR_drew)); exact HM13.out)⟩, ⟨(by (with_reducible repeat (first | apply MR_alloc | apply MR_drewN | apply MR_drew)); exact HM17.out)⟩, HNE⟩
                ·rw [if_neg c42] at H
                 have c42b0 : decide (x16_3 ≤ (Go.bits .xor .i64 (rd x2_3 x87_4) 1)) = false := decide_eq_false c42
                 clear c42
                 (first | rw [c42b0] | (simp only [i64_w, i32_w]; rw [c42b0]) | skip)
                 have HC45 := Aside0.mk H
                 clear H
                 go_upto_region 20 with (fail)
                 repeat (go_quiet (fail); go_upto_region 20 with (fail))
                 go_cut [109] (fun v109 wc => ∃ (kq : Nat) (x109_44 : Bool), v109 = .bool x109_44 ∧ Aside0 (impl_climbMany.j4 kq a0 a1 x2_3 x4_4 x12_4 x13_3 x16_3 x17_4 (rd x2_3 x87_4) t323 t324 x2_3 (x2_3.length : Int) x87_4 x109_44 = some (r1, r2)) ∧ Aside0 (kq ≤ k4) ∧ Aside0 (Kd.V (Kd.int .i64) 3 wc w.heap.size (fun k_ => ((P2_ k_ ∨ P4_ k_) ∨ w.heap.size ≤ k_) ∧ some k_ ≠ (u12 : Value).ownBlock) (.slice (some ad322) x2_3.length co36) x2_3) ∧ Aside0 (Kd.V (Kd.int .i64) 3 wc w.heap.size (fun k_ => ((P2_ k_ ∨ P4_ k_) ∨ w.heap.size ≤ k_) ∧ some k_ ≠ (u12 : Value).ownBlock) u4 x4_4) ∧ Aside0 (Kd.S (Kd.slice 5 (Kd.int .u8)) 22 wc w.heap.size (fun k_ => (w.heap.size ≤ k_)) u12 x12_4) ∧ Aside0 (Kd.V (Kd.int .i64) 3 wc w.heap.size (fun k_ => ((P2_ k_ ∨ P4_ k_) ∨ w.heap.size ≤ k_) ∧ some k_ ≠ (u12 : Value).ownBlock) (.slice (some ad322) x2_3.length co36) x2_3) ∧ Aside0 (Below w.heap.size w wc) ∧ Aside0 (MR wc w.heap.size b13_3 x13_3) ∧ Aside0 (MR wc w.heap.size b17 x17_4) ∧ Aside0 (b13_3 ≠ b17))
                 case first =>
                  have H := HC45.out
                  clear HC45
                  by_cases c46 : t324 = true
                  ·subst c46
                   rw [if_pos rfl] at H
                   have H' := Aside0.mk H
                   clear H
                   go_wp2
                   repeat (go_quiet (fail); try go_wp2)
                   go_meet
                   case rel => exact ⟨_, (((Int.tmod (rd x2_3 x87_4) 2) == 1)), (by first | rfl | (simp; done) | (simp [*]; done)), H', ⟨by have := HJ5.out; have := HK2.out; have := HK3.out; have := HK4.out; first | omega | exact Nat.le_refl _⟩, ⟨mv HO_2.out⟩, ⟨mv HO_4.out⟩, ⟨mv HO_12.out⟩, ⟨mv HO_85.out⟩, ⟨bt⟩, ⟨(by (with_reducible repeat (first | apply MR_alloc | apply MR_drewN | apply MR_drew)); exact HM13.out)⟩, ⟨(by (with_reducible repeat (first | apply MR_alloc | apply MR_drewN | apply MR_drew)); exact HM17.out)⟩, HNE⟩
                  ·replace c46 := Bool.eq_false_iff.mpr c46
                   subst c46
                   rw [if_neg (show ¬ (false = true) by decide)] at H
                   have H' := Aside0.mk H
                   clear H
                   go_wp2
                   repeat (go_quiet (fail); try go_wp2)
                   go_meet
                   case rel => exact ⟨_, (false), (by first | rfl | (simp; done) | (simp [*]; done)), H', ⟨by have := HJ5.out; have := HK2.out; have := HK3.out; have := HK4.out; first | omega | exact Nat.le_refl _⟩, ⟨mv HO_2.out⟩, ⟨mv HO_4.out⟩, ⟨mv HO_12.out⟩, ⟨mv HO_85.out⟩, ⟨bt⟩, ⟨(by (with_reducible repeat (first | apply MR_alloc | apply MR_drewN | apply MR_drew)); exact HM13.out)⟩, ⟨(by (with_reducible repeat (first | apply MR_alloc | apply MR_drewN | apply MR_drew)); exact HM17.out)⟩, HNE⟩
                 case rest =>
                  clear HC45
                  try clear c1
                  try clear c2
                  try clear p2
                  try clear c3
                  try clear p3
                  try clear q3
                  try clear hx3
                  try clear c4
                  try clear p6
                  try clear c8
                  try clear c10
                  try clear c11
                  try clear c11b0
                  try clear c11b1
                  try clear c11b2
                  try clear c13
                  try clear c16
                  try clear c20
                  try clear c20b0
                  try clear c21
                  try clear c21b0
                  try clear c22
                  try clear c22b0
                  try clear c24
                  try clear c25
                  try clear c25b0
                  try clear c26
                  try clear c26b0
                  try clear c30
                  try clear p30
                  try clear q30
                  try clear hx30
                  try clear p32
                  try clear q32
                  try clear hx32
                  try clear c34
                  try clear c34b0
                  try clear c37
                  try clear c37b0
                  try clear c38
                  try clear c38b0
                  try clear c39
                  try clear c39b0
                  try clear c42
                  try clear c42b0
                  try clear c46
                  try clear hx300_0
                  try clear hx307_0
                  try clear hx308_0
                  try clear hx322_0
                  try clear p2
                  try clear p3
                  try clear p30
                  try clear p300
                  try clear p307
                  try clear p308
                  try clear p322
                  try clear p6
                  try clear q3
                  try clear q30
                  try clear q300
                  try clear q307
                  try clear q308
                  try clear q322
                  obtain ⟨kq, x109_44, rfl, HA, HJ44, HO_2, HO_4, HO_12, HO_85, HB, HM13, HM17, HNE⟩ := hcut
                  cases kq with
                  | zero => exact absurd HA.out (by simp [impl_climbMany.j4])
                  | succ kj44 =>
                   have H := HA.out
                   clear HA
                   simp only [impl_climbMany.j4] at H
                   by_cases c47 : x109_44 = true
                   ·subst c47
                    rw [if_pos rfl] at H
                    have H' := Aside0.mk H
                    clear H
                    go_wp2
                    repeat (go_quiet (fail); try go_wp2)
                    go_roundg kj44
                    case measure => have := HJ5.out; have := HK2.out; have := HK3.out; have := HK4.out; have := HJ44.out; omega
                    case rel => exact ⟨(x4_4), (x12_4), (x17_4), (wrap64 (x87_4 + 1)), (by first | rfl | (simp; done) | (simp [*]; done)), H', ⟨by have := HJ5.out; have := HK2.out; have := HK3.out; have := HK4.out; have := HJ44.out; omega⟩, ⟨mv HO_2.out⟩, ⟨mv HO_4.out⟩, ⟨mv HO_12.out⟩, ⟨mv HO_85.out⟩, ⟨bt⟩, ⟨(by (with_reducible repeat (first | apply MR_alloc | apply MR_drewN | apply MR_drew)); exact HM13.out)⟩, ⟨(by (with_reducible repeat (first | apply MR_alloc | apply MR_drewN | apply MR_drew)); exact HM17.out)⟩, HNE⟩
                   ·replace c47 := Bool.eq_false_iff.mpr c47
                    subst c47
                    rw [if_neg (show ¬ (false = true) by decide)] at H
                    have HC48 := Aside0.mk H
                    clear H
                    go_upto_region 21 with (fail)
                    repeat (go_quiet (fail); go_upto_region 21 with (fail))
                    go_cut [116] (fun v116 wc => ∃ (kq : Nat) (x116_47 : Bool), v116 = .bool x116_47 ∧ Aside0 (impl_climbMany.j5 kq a0 a1 x2_3 x4_4 x12_4 x13_3 x16_3 x17_4 (rd x2_3 x87_4) t323 t324 x2_3 (x2_3.length : Int) x87_4 x116_47 = some (r1, r2)) ∧ Aside0 (kq ≤ kj44) ∧ Aside0 (Kd.V (Kd.int .i64) 3 wc w.heap.size (fun k_ => ((P2_ k_ ∨ P4_ k_) ∨ w.heap.size ≤ k_) ∧ some k_ ≠ (u12 : Value).ownBlock) (.slice (some ad322) x2_3.length co36) x2_3) ∧ Aside0 (Kd.V (Kd.int .i64) 3 wc w.heap.size (fun k_ => ((P2_ k_ ∨ P4_ k_) ∨ w.heap.size ≤ k_) ∧ some k_ ≠ (u12 : Value).ownBlock) u4 x4_4) ∧ Aside0 (Kd.S (Kd.slice 5 (Kd.int .u8)) 22 wc w.heap.size (fun k_ => (w.heap.size ≤ k_)) u12 x12_4) ∧ Aside0 (Kd.V (Kd.int .i64) 3 wc w.heap.size (fun k_ => ((P2_ k_ ∨ P4_ k_) ∨ w.heap.size ≤ k_) ∧ some k_ ≠ (u12 : Value).ownBlock) (.slice (some ad322) x2_3.length co36) x2_3) ∧ Aside0 (Below w.heap.size w wc) ∧ Aside0 (MR wc w.heap.size b13_3 x13_3) ∧ Aside0 (MR wc w.heap.size b17 x17_4) ∧ Aside0 (b13_3 ≠ b17))
                    case first =>
                     have H := HC48.out
                     clear HC48
                     by_cases c49 : t324 = true
                     ·subst c49
                      rw [if_pos rfl] at H
                      have H' := Aside0.mk H
                      clear H
                      go_wp2
                      repeat (go_quiet (fail); try go_wp2)
                      go_meet
                      case rel => exact ⟨_, (false), (by first | rfl | (simp; done) | (simp [*]; done)), H', ⟨by have := HJ5.out; have := HK2.out; have := HK3.out; have := HK4.out; have := HJ44.out; first | omega | exact Nat.le_refl _⟩, ⟨mv HO_2.out⟩, ⟨mv HO_4.out⟩, ⟨mv HO_12.out⟩, ⟨mv HO_85.out⟩, ⟨bt⟩, ⟨(by (with_reducible repeat (first | apply MR_alloc | apply MR_drewN | apply MR_drew)); exact HM13.out)⟩, ⟨(by (with_reducible repeat (first | apply MR_alloc | apply MR_drewN | apply MR_drew)); exact HM17.out)⟩, HNE⟩
                     ·replace c49 := Bool.eq_false_iff.mpr c49
                      subst c49
                      rw [if_neg (show ¬ (false = true) by decide)] at H
                      have H' := Aside0.mk H
                      clear H
                      obtain ⟨Ao50, co50, eo50⟩ := Kd.V_slice HO_4.out
                      subst eo50
                      go_wp2
                      repeat (go_quiet (fail); try go_wp2)
                      go_meet
                      case rel => exact ⟨_, (((x4_4.length : Int) == 0)), (by first | rfl | (simp; done) | (simp [*]; done)), H', ⟨by have := HJ5.out; have := HK2.out; have := HK3.out; have := HK4.out; have := HJ44.out; first | omega | exact Nat.le_refl _⟩, ⟨mv HO_2.out⟩, ⟨mv HO_4.out⟩, ⟨mv HO_12.out⟩, ⟨mv HO_85.out⟩, ⟨bt⟩, ⟨(by (with_reducible repeat (first | apply MR_alloc | apply MR_drewN | apply MR_drew)); exact HM13.out)⟩, ⟨(by (with_reducible repeat (first | apply MR_alloc | apply MR_drewN | apply MR_drew)); exact HM17.out)⟩, HNE⟩
                    case rest =>
                     clear HC48
                     try clear c1
                     try clear c2
                     try clear p2
                     try clear c3
                     try clear p3
                     try clear q3
                     try clear hx3
                     try clear c4
                     try clear p6
                     try clear c8
                     try clear c10
                     try clear c11
                     try clear c11b0
                     try clear c11b1
                     try clear c11b2
                     try clear c13
                     try clear c16
                     try clear c20
                     try clear c20b0
                     try clear c21
                     try clear c21b0
                     try clear c22
                     try clear c22b0
                     try clear c24
                     try clear c25
                     try clear c25b0
                     try clear c26
                     try clear c26b0
                     try clear c30
                     try clear p30
                     try clear q30
                     try clear hx30
                     try clear p32
                     try clear q32
                     try clear hx32
                     try clear c34
                     try clear c34b0
                     try clear c37
                     try clear c37b0
                     try clear c38
                     try clear c38b0
                     try clear c39
                     try clear c39b0
                     try clear c42
                     try clear c42b0
                     try clear c46
                     try clear c47
                     try clear c49
                     try clear hx300_0
                     try clear hx307_0
                     try clear hx308_0
                     try clear hx322_0
                     try clear p2
                     try clear p3
                     try clear p30
                     try clear p300
                     try clear p307
                     try clear p308
                     try clear p32
                     try clear p322
                     try clear p6
                     try clear q3
                     try clear q30
                     try clear q300
                     try clear q307
                     try clear q308
                     try clear q32
                     try clear q322
                     obtain ⟨kq, x116_47, rfl, HA, HJ47, HO_2, HO_4, HO_12, HO_85, HB, HM13, HM17, HNE⟩ := hcut
                     cases kq with
                     | zero => exact absurd HA.out (by simp [impl_climbMany.j5])
                     | succ kj47 =>
                      have H := HA.out
                      clear HA
                      simp only [impl_climbMany.j5] at H
                      by_cases c51 : x116_47 = true
                      ·subst c51
                       rw [if_pos rfl] at H
                       simp only [Option.some.injEq, Prod.mk.injEq] at H
                       obtain ⟨rfl, rfl⟩ := H
                       go_wp2
                       repeat (go_quiet (fail); try go_wp2)
                       go_ret2
                       exact ⟨_, by first | rfl | (simp [errW_none, errW_some] <;> rfl) | (simp [*, errW_none, errW_some] <;> rfl), by first | exact Kd.S_nil _ _ _ _ _ | exact Kd.N_nil _ _ _ _ _ | exact Kd.V_nil _ _ _ _ _ | exact Kd.Q_nil _ _ _ _ _ | exact Kd.R_nil _ _ _ _ _, bt⟩
                      ·replace c51 := Bool.eq_false_iff.mpr c51
                       subst c51
                       rw [if_neg (show ¬ (false = true) by decide)] at H
                       by_cases c52 : t324 = true
                       ·subst c52
                        rw [if_pos rfl] at H
                        have H' := Aside0.mk H
                        clear H
                        go_wp2
                        repeat (go_quiet (fail); try go_wp2)
                        go_meet
                        case rel => exact ⟨_, (x4_4), (x17_4), (t323), (by first | rfl | (simp; done) | (simp [*]; done)), H', ⟨by have := HJ5.out; have := HK2.out; have := HK3.out; have := HK4.out; have := HJ44.out; have := HJ47.out; first | omega | exact Nat.le_refl _⟩, ⟨mv HO_2.out⟩, ⟨mv HO_4.out⟩, ⟨mv HO_12.out⟩, ⟨mv HO_85.out⟩, ⟨bt⟩, ⟨(by (with_reducible repeat (first | apply MR_alloc | apply MR_drewN | apply MR_drew)); exact HM13.out)⟩, ⟨(by (with_reducible repeat (first | apply MR_alloc | apply MR_drewN | apply MR_drew)); exact HM17.out)⟩, HNE⟩
                       ·replace c52 := Bool.eq_false_iff.mpr c52
                        subst c52
                        rw [if_neg (show ¬ (false = true) by decide)] at H
                        by_cases c53 : 0 < (x4_4.length : Int)
                        ·rw [if_pos c53] at H
                         have c53b0 : decide (0 < (x4_4.length : Int)) = true := decide_eq_true c53
                         have c53b1 : decide (0 < x4_4.length) = true := decide_eq_true (by omega)
                         clear c53
                         by_cases c54 : 1 ≤ (x4_4.length : Int)
                         ·rw [if_pos c54] at H
                          have c54b0 := eq_true c54
                          have c54b1 : decide (1 ≤ (x4_4.length : Int)) = true := decide_eq_true c54
                          clear c54
                          obtain ⟨y328, hy328⟩ : ∃ y_ : List Int, y_ = (x4_4.drop 1) := ⟨_, rfl⟩
                          replace H : (impl_climbMany.j6 kj47 a0 a1 x2_3 y328 x12_4 x13_3 x16_3 x17_4 (rd x2_3 x87_4) (rd x4_4 0) x2_3 (x2_3.length : Int) x87_4) = some (r1, r2) := by first | (rw [hy328]; exact H) | exact H
                          have Ny328 := Aside0.mk hy328
                          clear hy328
                          have H' := Aside0.mk H
                          clear H
                          obtain ⟨Ao55, co55, eo55⟩ := Kd.V_slice HO_4.out
                          subst eo55
                          have p327 : 0 ≤ (0 : Int) := (by omega)
                          have q327 : 0 < (x4_4.length : Int) := of_decide_eq_true asm
                          obtain ⟨ad327, e327, hx327_0⟩ := Kd.at_int (Kd.V_reads' HO_4.out).2.2 0 p327 q327
                          cases e327
                          have qi327 : (0 < x4_4.length) = True := eq_true (by omega)
                          (try rw [show ((0 : Int)).toNat = 0 from rfl] at hx327_0)
                          (try rw [Addr.add_zero'] at hx327_0)
                          replace p327 := eq_true p327
                          replace q327 := eq_true q327
                          have q56 : (1 : Int) ≤ ((x4_4.length : Int) : Int) := of_decide_eq_true asm
                          obtain ⟨i056, hi056, _, hsz56, _⟩ := info_parts info3
                          have hroom56 : x4_4.length ≤ co55 := (Kd.V_reads' HO_4.out).2.1
                          have hC56 : Kd.F (Kd.int .i64) _ _ (some ad327) x4_4.length x4_4 := (Kd.V_at (base := w.heap.size) HO_4.out).2.2
                          have hcut56 := cut_from (P := Try.prog) 23 3 .i64 Try.underlying23 hi056 1 hsz56 (some ad327) x4_4.length co55 1 (by omega) q56
                          have hr56 := Kd.F_cut (m := (1 : Int).toNat) (c := co55) hC56 (by omega) hroom56
                          obtain ⟨A56, hA56⟩ : ∃ A1, A1 = (if co55 = (1 : Int).toNat then (some ad327) else ((some ad327) : Option Addr).map (·.add ((1 : Int).toNat * 1))) := ⟨_, rfl⟩
                          obtain ⟨c56, hc56⟩ : ∃ c1, c1 = co55 - (1 : Int).toNat := ⟨_, rfl⟩
                          have hy56 : y328.length = x4_4.length - (1 : Int).toNat := (by rw [Ny328.out, List.length_drop] <;> omega)
                          rw [show (x4_4).drop (1 : Int).toNat = y328 from Ny328.out.symm] at hr56
                          replace hr56 : Kd.F (Kd.int .i64) _ _ A56 y328.length y328 := (by rw [hA56]; exact hr56)
                          rw [← hy56, ← hA56, ← hc56] at hcut56
                          have HO332 := Aside0.mk (show Kd.V (Kd.int .i64) 3 _ w.heap.size _ (.slice A56 y328.length c56) y328 from Kd.V_mk (by rw [hy56, hc56]; exact Nat.sub_le_sub_right hroom56 _) hr56)
                          have HC332 := Aside0.mk (show y328.length ≤ c56 from by rw [hy56, hc56]; exact Nat.sub_le_sub_right hroom56 _)
                          clear hr56 hC56 hroom56 hi056 hsz56 hc56
                          have KY56 := Aside0.mk hy56
                          have KA56 := Aside0.mk hA56
                          clear hy56 hA56
                          replace q56 := eq_true q56
                          go_wp2
                          repeat (go_quiet (fail); try go_wp2)
                          go_meet
                          case rel => exact ⟨_, (y328), (x17_4), (rd x4_4 0), (by first | rfl | (simp; done) | (simp [*]; done)), H', ⟨by have := HJ5.out; have := HK2.out; have := HK3.out; have := HK4.out; have := HJ44.out; have := HJ47.out; first | omega | exact Nat.le_refl _⟩, ⟨mv HO_2.out⟩, ⟨mv HO332.out⟩, ⟨mv HO_12.out⟩, ⟨mv HO_85.out⟩, ⟨bt⟩, ⟨(by (with_reducible repeat (first | apply MR_alloc | apply MR_drewN | apply MR_drew)); exact HM13.out)⟩, ⟨(by (with_reducible repeat (first | apply MR_alloc | apply MR_drewN | apply MR_drew)); exact HM17.out)⟩, HNE⟩
                         ·rw [if_neg c54] at H
                          exact absurd H (by simp)
                        ·rw [if_neg c53] at H
                         exact absurd H (by simp)
               case rest =>
                clear HC41
                try clear c1
                try clear c2
                try clear p2
                try clear c3
                try clear p3
                try clear q3
                try clear hx3
                try clear qi3
                try clear c4
                try clear c5
                try clear q5
                try clear p6
                try clear c8
                try clear c10
                try clear c11
                try clear c11b0
                try clear c11b1
                try clear c11b2
                try clear c13
                try clear c16
                try clear c20
                try clear c20b0
                try clear c21
                try clear c21b0
                try clear c22
                try clear c22b0
                try clear c24
                try clear c25
                try clear c25b0
                try clear c26
                try clear c26b0
                try clear c30
                try clear p30
                try clear q30
                try clear hx30
                try clear p32
                try clear q32
                try clear hx32
                try clear qi32
                try clear c34
                try clear c34b0
                try clear c37
                try clear c37b0
                try clear c38
                try clear c38b0
                try clear c39
                try clear c39b0
                try clear c42
                try clear c42b0
                try clear c46
                try clear c47
                try clear c49
                try clear c51
                try clear c52
                try clear c53
                try clear c53b0
                try clear c53b1
                try clear c54
                try clear c54b0
                try clear c54b1
                try clear c56
                try clear q56
                try clear hx300_0
                try clear hx307_0
                try clear hx308_0
                try clear hx322_0
                try clear hx327_0
                try clear p2
                try clear p3
                try clear p30
                try clear p300
                try clear p307
                try clear p308
                try clear p32
                try clear p322
                try clear p327
                try clear p6
                try clear q3
                try clear q30
                try clear q300
                try clear q307
                try clear q308
                try clear q32
                try clear q322
                try clear q327
                try clear q56
                obtain ⟨kq, x4_40, x17_40, x20_40, rfl, HA, HJ40, HO_2, HO_4, HO_12, HO_85, HB, HM13, HM17, HNE⟩ := hcut
                cases kq with
                | zero => exact absurd HA.out (by simp [impl_climbMany.j6])
                | succ kj40 =>
                 have H := HA.out
                 clear HA
                 simp only [impl_climbMany.j6] at H
                 replace H := Option.bind_eq_some_iff.mp H
                 obtain ⟨t333, A570, H⟩ := H
                 (try dsimp -simprocs only at H)
                 have A57 := Aside0.mk A570
                 clear A570
                 by_cases c58 : (Int.tmod (rd x2_3 x87_4) 2) = 1
                 ·rw [if_pos c58] at H
                  have c58b0 : ((Int.tmod (rd x2_3 x87_4) 2) == 1) = true := beq_iff_eq.mpr c58
                  have c58b1 : ((Int.tmod (rd x2_3 x87_4) 2) != 1) = false := bne_eq_false_iff_eq.mpr c58
                  clear c58
                  replace H := Option.bind_eq_some_iff.mp H
                  obtain ⟨t334, A590, H⟩ := H
                  (try dsimp -simprocs only at H)
                  have A59 := Aside0.mk A590
                  clear A590
                  by_cases c60 : x12_4.length < 5864062014805
                  ·rw [if_pos c60] at H
                   have LMc60 := Aside0.mk c60
                   clear c60
                   obtain ⟨y337, hy337⟩ : ∃ y_ : List (List Int), y_ = (x12_4 ++ [t334]) := ⟨_, rfl⟩
                   replace H : (if 0 ≤ (wrap64 ((y337.length : Int) - 1)) then (if (wrap64 ((y337.length : Int) - 1)) < (y337.length : Int) then ((impl_Digest.f a0 (rd_L2 y337 (wrap64 ((y337.length : Int) - 1)))).bind fun t341 => ((fake_mp_put.f x17_40 (wrap64 (Int.tdiv (rd x2_3 x87_4) 2)) t341).bind fun t342 => (impl_climbMany.l2 kj40 a0 a1 x2_3 x4_40 y337 x13_3 x16_3 t342 x2_3 (x2_3.length : Int) (wrap64 (x87_4 + 1))))) else (none)) else (none)) = some (r1, r2) := by first | (rw [hy337]; exact H) | exact H
                   have Ny337 := Aside0.mk hy337
                   clear hy337
                   obtain ⟨ji61, hji61⟩ : ∃ j_ : Int, (wrap64 ((y337.length : Int) - 1)) = j_ := ⟨_, rfl⟩
                   replace H : (if 0 ≤ (ji61) then (if (ji61) < (y337.length : Int) then ((impl_Digest.f a0 (rd_L2 y337 (ji61))).bind fun t341 => ((fake_mp_put.f x17_40 (wrap64 (Int.tdiv (rd x2_3 x87_4) 2)) t341).bind fun t342 => (impl_climbMany.l2 kj40 a0 a1 x2_3 x4_40 y337 x13_3 x16_3 t342 x2_3 (x2_3.length : Int) (wrap64 (x87_4 + 1))))) else (none)) else (none)) = some (r1, r2) := by first | (rw [hji61] at H; exact H) | (simp only [hji61] at H ⊢; exact H)
                   (try rw [hji61] at A57)
                   (try rw [hji61] at A59)
                   have hji61w : (IntKind.i64.wrap ((y337.length : Int) - 1)) = ji61 := (i64_w _).trans hji61
                   by_cases c62 : 0 ≤ (ji61)
                   ·rw [if_pos c62] at H
                    have c62b0 : decide (0 ≤ (ji61)) = true := decide_eq_true c62
                    clear c62
                    by_cases c63 : (ji61) < (y337.length : Int)
                    ·rw [if_pos c63] at H
                     have c63b0 : decide ((ji61) < (y337.length : Int)) = true := decide_eq_true c63
                     clear c63
                     replace H := Option.bind_eq_some_iff.mp H
                     obtain ⟨t341, A640, H⟩ := H
                     (try dsimp -simprocs only at H)
                     have A64 := Aside0.mk A640
                     clear A640
                     replace H := Option.bind_eq_some_iff.mp H
                     obtain ⟨t342, A650, H⟩ := H
                     (try dsimp -simprocs only at H)
                     have A65 := Aside0.mk A650
                     clear A650
                     have H' := Aside0.mk H
                     clear H
                     go_wp2_with (first | (at_lookup; refine wp_mget rfl _ _ rfl rfl rfl (by (with_reducible repeat (first | apply MR_alloc | apply MR_drewN | apply MR_drew)); exact HM13.out) A57.out ?_) | (go_at_call 72; (with_reducible refine (impl_nodeInput.calls kj40 x20_40 t333 t334 _ A59.out).mono ?_); rintro e w66 ⟨v335, rfl, ho0, hb⟩; (try (replace HM13 := Aside0.mk (MR_below (by (with_reducible repeat (first | apply MR_alloc | apply MR_drewN | apply MR_drew)); exact HM13.out) hb))); (try (replace HM17 := Aside0.mk (MR_below (by (with_reducible repeat (first | apply MR_alloc | apply MR_drewN | apply MR_drew)); exact HM17.out) hb))); replace HO_2 := Aside0.mk (Kd.V_elder' (mv HO_2.out) (Kd.R_base ho0) hb); replace HO_4 := Aside0.mk (Kd.V_elder' (mv HO_4.out) (Kd.R_base ho0) hb); replace HO_12 := Aside0.mk (Kd.S_elder' (mv HO_12.out) (Kd.R_base ho0) hb); replace HO_85 := Aside0.mk (Kd.V_elder' (mv HO_85.out) (Kd.R_base ho0) hb); have HO336 := Aside0.mk (Kd.R_lower (Kd.R_newM (M := fun k_ => (w.heap.size ≤ k_)) ho0 (below_size (bt)) (fun k_ h_ => h_)) (below_size (bt))); replace HB := Aside0.mk (below_step (bt) hb); (try clear hb); (try clear hb2); (try clear hk); (try clear hi); (try clear ho0); obtain ⟨Ao68, co68, eo68⟩ := Kd.R_slice HO336.out; subst eo68) | ((with_reducible refine gate_builtin (b := .append) (xs := #[.tmp 141, .tmp 145]) rfl ?_); (try (refine gate_guard (by rfl) ?_; dsimp only)); at_builtin; refine Kd.S_append (Kd.slice 5 (Kd.int .u8)) (w0 := w) w.heap.size rfl (.tmp 141) (.tmp 145) 30 22 (.slice none 0 0) 24 rfl Try.underlying30 info22 rfl (by decide) (by omega) u12 x12_4 t334 [.slice Ao68 t334.length co68] (fun k_ => (w.heap.size ≤ k_)) (fun k_ => some k_ = (.slice Ao68 t334.length co68 : Value).ownBlock) rfl rfl ?aP (fun k_ hk_ => ((Kd.R_mono (ok' := fun k_ => ((fun k_ => (w.heap.size ≤ k_))) k_ ∧ some k_ ≠ (u12 : Value).ownBlock) (Kd.R_apart' (HO336.out) (Kd.S_typed HO_12.out) (by decide)) (fun k_ hk => ⟨hk.1.1, hk.2⟩))).1 k_ hk_.symm) ?aF ?aO ?aB ?aS ?aL ?_; (case aP => exact Kd.M_row (Kd.R_mono (Kd.R_tight rfl (Kd.R_mono (ok' := fun k_ => ((fun k_ => (w.heap.size ≤ k_))) k_ ∧ some k_ ≠ (u12 : Value).ownBlock) (Kd.R_apart' (HO336.out) (Kd.S_typed HO_12.out) (by decide)) (fun k_ hk => ⟨hk.1.1, hk.2⟩))) (fun _ h_ => h_))); (case aB => exact (bt)); (case aF => exact (fun k_ hk => (Nat.le_trans (below_size (bt)) hk))); (case aO => exact (by (with_reducible repeat (first | apply Kd.S_alloc | apply Kd.S_drewN | apply Kd.S_drew)); exact Kd.S_mono HO_12.out (fun k_ hk => ⟨hk.1, fun e_ => hk.2 e_⟩))); (case aS => exact (below_size (bt))); (case aL => have := LMc60.out; omega); intro v338 w67 ho hb hg hat; (try (replace HM13 := Aside0.mk (MR_grown (by (with_reducible repeat (first | apply MR_alloc | apply MR_drewN | apply MR_drew)); exact HM13.out) hg (MR_ne HM13.out (Kd.S_typed (by (with_reducible repeat (first | apply Kd.S_alloc | apply Kd.S_drewN | apply Kd.S_drew)); exact HO_12.out)))))); (try (replace HM17 := Aside0.mk (MR_grown (by (with_reducible repeat (first | apply MR_alloc | apply MR_drewN | apply MR_drew)); exact HM17.out) hg (MR_ne HM17.out (Kd.S_typed (by (with_reducible repeat (first | apply Kd.S_alloc | apply Kd.S_drewN | apply Kd.S_drew)); exact HO_12.out)))))); rw [← Ny337.out] at ho; replace HO_2 := Aside0.mk (Kd.V_afterv (ok := (fun k_ => ((P2_ k_ ∨ P4_ k_) ∨ w.heap.size ≤ k_) ∧ some k_ ≠ (.slice Ao68 t334.length co68 : Value).ownBlock)) (by (with_reducible repeat (first | apply Kd.V_alloc | apply Kd.V_drewN | apply Kd.V_drew)); exact Kd.V_mono HO_2.out (fun _ hk => ⟨⟨hk.1.1, hk.2⟩, hk.1.2⟩)) hg hat); replace HO_4 := Aside0.mk (Kd.V_afterv (ok := (fun k_ => ((P2_ k_ ∨ P4_ k_) ∨ w.heap.size ≤ k_) ∧ some k_ ≠ (.slice Ao68 t334.length co68 : Value).ownBlock)) (by (with_reducible repeat (first | apply Kd.V_alloc | apply Kd.V_drewN | apply Kd.V_drew)); exact Kd.V_mono HO_4.out (fun _ hk => ⟨⟨hk.1.1, hk.2⟩, hk.1.2⟩)) hg hat); replace HO_85 := Aside0.mk (Kd.V_afterv (ok := (fun k_ => ((P2_ k_ ∨ P4_ k_) ∨ w.heap.size ≤ k_) ∧ some k_ ≠ (.slice Ao68 t334.length co68 : Value).ownBlock)) (by (with_reducible repeat (first | apply Kd.V_alloc | apply Kd.V_drewN | apply Kd.V_drew)); exact Kd.V_mono HO_85.out (fun _ hk => ⟨⟨hk.1.1, hk.2⟩, hk.1.2⟩)) hg hat); replace HB := Aside0.mk (hb); have HO339 := Aside0.mk (ho); clear HO_12 HO336; clear ho hb hg hat; obtain ⟨Ao69, co69, eo69⟩ := Kd.S_slice HO339.out; subst eo69; have p340 : 0 ≤ ((ji61) : Int) := of_decide_eq_true asm; have q340 : (ji61) < (y337.length : Int) := of_decide_eq_true asm; obtain ⟨ad340, A340_0, c340_0, e340, hx340_0, hl340_0, hi340_0⟩ := at_L2 (Kd.S_reads' HO339.out).2.2 (ji61) p340 q340; cases e340; obtain ⟨ce340, hce340, hMe340, hcc340⟩ := Kd.S_get HO339.out [] (ji61) p340 (by first | exact q340 | exact of_decide_eq_true asm | (have e_ := (Kd.S_reads' HO339.out).1; omega)); obtain ⟨ve340_0, rfl, ge340_0⟩ := hMe340; have hv340_0 := hcc340 0 _ rfl; rw [Nat.add_zero, show ((Kd.slice 5 (Kd.int .u8))).sz = 1 from rfl, Nat.mul_one] at hv340_0; replace hv340_0 := Option.some.inj (hv340_0.symm.trans hx340_0); rw [hv340_0] at ge340_0; have HL340_0 := Aside0.mk (show Kd.R (Kd.int .u8) 5 _ _ _ _ (rd_L2 y337 (ji61)) from ge340_0); clear hv340_0 ge340_0; clear hcc340 hce340; have HR340_0 := Aside0.mk hi340_0; have HC340_0 := Aside0.mk hl340_0; clear hi340_0 hl340_0; replace p340 := eq_true p340; replace q340 := eq_true q340) | (go_at_call 29; (with_reducible refine (impl_Digest.calls a0 _ _ (rd_L2 y337 (ji61)) t341 _ ?side1 ?side2 A64.out).mono ?_); (case side1 => repeat (first | exact (by repeat (first | (with_reducible exact HR340_0.out) | (with_reducible refine Kd.C_alloc ?_ _) | (with_reducible refine Kd.C_drewN ?_ _) | (with_reducible refine Kd.C_drew ?_) | exact HR340_0.out)) | (with_reducible refine Kd.C_alloc ?_ _) | (with_reducible refine Kd.C_drewN ?_ _) | (with_reducible refine Kd.C_drew ?_))); (case side2 => exact HC340_0.out); rintro e w70 ⟨rfl, hb⟩; (try (replace HM13 := Aside0.mk (MR_below (by (with_reducible repeat (first | apply MR_alloc | apply MR_drewN | apply MR_drew)); exact HM13.out) hb))); (try (replace HM17 := Aside0.mk (MR_below (by (with_reducible repeat (first | apply MR_alloc | apply MR_drewN | apply MR_drew)); exact HM17.out) hb))); replace HO_2 := Aside0.mk (Kd.V_below (mv HO_2.out) hb); replace HO_4 := Aside0.mk (Kd.V_below (mv HO_4.out) hb); replace HO_85 := Aside0.mk (Kd.V_below (mv HO_85.out) hb); replace HO339 := Aside0.mk (Kd.S_below (mv HO339.out) hb); replace HL340_0 := Aside0.mk (Kd.R_below (mv HL340_0.out) hb); replace HR340_0 := Aside0.mk (Kd.C_below (by repeat (first | (with_reducible exact HR340_0.out) | (with_reducible refine Kd.C_alloc ?_ _) | (with_reducible refine Kd.C_drewN ?_ _) | (with_reducible refine Kd.C_drew ?_) | exact HR340_0.out)) hb); replace HB := Aside0.mk (below_step (bt) hb); (try clear hb); (try clear hb2); (try clear hk); (try clear hi)) | (at_mapUpdate; refine wp_mput rfl rfl _ _ _ rfl rfl rfl rfl (by (with_reducible repeat (first | apply MR_alloc | apply MR_drewN | apply MR_drew)); exact HM17.out) A65.out ?_; intro wm hM_ ht_; (first | replace HO339 := Aside0.mk (V_turn (mv HO339.out) ht_) | replace HO339 := Aside0.mk (S_turn (mv HO339.out) ht_)); (first | replace HO_2 := Aside0.mk (V_turn (mv HO_2.out) ht_) | replace HO_2 := Aside0.mk (S_turn (mv HO_2.out) ht_)); (first | replace HO_4 := Aside0.mk (V_turn (mv HO_4.out) ht_) | replace HO_4 := Aside0.mk (S_turn (mv HO_4.out) ht_)); (first | replace HO_85 := Aside0.mk (V_turn (mv HO_85.out) ht_) | replace HO_85 := Aside0.mk (S_turn (mv HO_85.out) ht_)); replace HM13 := Aside0.mk (MR_turn (by (with_reducible repeat (first | apply MR_alloc | apply MR_drewN | apply MR_drew)); exact HM13.out) ht_ HNE.out); replace HB := Aside0.mk (below_turn (bt) ht_); replace HM17 := Aside0.mk hM_; clear hM_ ht_))
                     repeat (go_quiet (first | (at_lookup; refine wp_mget rfl _ _ rfl rfl rfl (by (with_reducible repeat (first | apply MR_alloc | apply MR_drewN | apply MR_drew)); exact HM13.out) A57.out ?_) | (go_at_call 72; (with_reducible refine (impl_nodeInput.calls kj40 x20_40 t333 t334 _ A59.out).mono ?_); rintro e w66 ⟨v335, rfl, ho0, hb⟩; (try (replace HM13 := Aside0.mk (MR_below (by (with_reducible repeat (first | apply MR_alloc | apply MR_drewN | apply MR_drew)); exact HM13.out) hb))); (try (replace HM17 := Aside0.mk (MR_below (by (with_reducible repeat (first | apply MR_alloc | apply MR_drewN | apply MR_drew)); exact HM17.out) hb))); replace HO_2 := Aside0.mk (Kd.V_elder' (mv HO_2.out) (Kd.R_base ho0) hb); replace HO_4 := Aside0.mk (Kd.V_elder' (mv HO_4.out) (Kd.R_base ho0) hb); replace HO_12 := Aside0.mk (Kd.S_elder' (mv HO_12.out) (Kd.R_base ho0) hb); replace HO_85 := Aside0.mk (Kd.V_elder' (mv HO_85.out) (Kd.R_base ho0) hb); have HO336 := Aside0.mk (Kd.R_lower (Kd.R_newM (M := fun k_ => (w.heap.size ≤ k_)) ho0 (below_size (bt)) (fun k_ h_ => h_)) (below_size (bt))); replace HB := Aside0.mk (below_step (bt) hb); (try clear hb); (try clear hb2); (try clear hk); (try clear hi); (try clear ho0); obtain ⟨Ao68, co68, eo68⟩ := Kd.R_slice HO336.out; subst eo68) | ((with_reducible refine gate_builtin (b := .append) (xs := #[.tmp 141, .tmp 145]) rfl ?_); (try (refine gate_guard (by rfl) ?_; dsimp only)); at_builtin; refine Kd.S_append (Kd.slice 5 (Kd.int .u8)) (w0 := w) w.heap.size rfl (.tmp 141) (.tmp 145) 30 22 (.slice none 0 0) 24 rfl Try.underlying30 info22 rfl (by decide) (by omega) u12 x12_4 t334 [.slice Ao68 t334.length co68] (fun k_ => (w.heap.size ≤ k_)) (fun k_ => some k_ = (.slice Ao68 t334.length co68 : Value).ownBlock) rfl rfl ?aP (fun k_ hk_ => ((Kd.R_mono (ok' := fun k_ => ((fun k_ => (w.heap.size ≤ k_))) k_ ∧ some k_ ≠ (u12 : Value).ownBlock) (Kd.R_apart' (HO336.out) (Kd.S_typed HO_12.out) (by decide)) (fun k_ hk => ⟨hk.1.1, hk.2⟩))).1 k_ hk_.symm) ?aF ?aO ?aB ?aS ?aL ?_; (case aP => exact Kd.M_row (Kd.R_mono (Kd.R_tight rfl (Kd.R_mono (ok' := fun k_ => ((fun k_ => (w.heap.size ≤ k_))) k_ ∧ some k_ ≠ (u12 : Value).ownBlock) (Kd.R_apart' (HO336.out) (Kd.S_typed HO_12.out) (by decide)) (fun k_ hk => ⟨hk.1.1, hk.2⟩))) (fun _ h_ => h_))); (case aB => exact (bt)); (case aF => exact (fun k_ hk => (Nat.le_trans (below_size (bt)) hk))); (case aO => exact (by (with_reducible repeat (first | apply Kd.S_alloc | apply Kd.S_drewN | apply Kd.S_drew)); exact Kd.S_mono HO_12.out (fun k_ hk => ⟨hk.1, fun e_ => hk.2 e_⟩))); (case aS => exact (below_size (bt))); (case aL => have := LMc60.out; omega); intro v338 w67 ho hb hg hat; (try (replace HM13 := Aside0.mk (MR_grown (by (with_reducible repeat (first | apply MR_alloc | apply MR_drewN | apply MR_drew)); exact HM13.out) hg (MR_ne HM13.out (Kd.S_typed (by (with_reducible repeat (first | apply Kd.S_alloc | apply Kd.S_drewN | apply Kd.S_drew)); exact HO_12.out)))))); (try (replace HM17 := Aside0.mk (MR_grown (by (with_reducible repeat (first | apply MR_alloc | apply MR_drewN | apply MR_drew)); exact HM17.out) hg (MR_ne HM17.out (Kd.S_typed (by (with_reducible repeat (first | apply Kd.S_alloc | apply Kd.S_drewN | apply Kd.S_drew)); exact HO_12.out)))))); rw [← Ny337.out] at ho; replace HO_2 := Aside0.mk (Kd.V_afterv (ok := (fun k_ => ((P2_ k_ ∨ P4_ k_) ∨ w.heap.size ≤ k_) ∧ some k_ ≠ (.slice Ao68 t334.length co68 : Value).ownBlock)) (by (with_reducible repeat (first | apply Kd.V_alloc | apply Kd.V_drewN | apply Kd.V_drew)); exact Kd.V_mono HO_2.out (fun _ hk => ⟨⟨hk.1.1, hk.2⟩, hk.1.2⟩)) hg hat); replace HO_4 := Aside0.mk (Kd.V_afterv (ok := (fun k_ => ((P2_ k_ ∨ P4_ k_) ∨ w.heap.size ≤ k_) ∧ some k_ ≠ (.slice Ao68 t334.length co68 : Value).ownBlock)) (by (with_reducible repeat (first | apply Kd.V_alloc | apply Kd.V_drewN | apply Kd.V_drew)); exact Kd.V_mono HO_4.out (fun _ hk => ⟨⟨hk.1.1, hk.2⟩, hk.1.2⟩)) hg hat); replace HO_85 := Aside0.mk (Kd.V_afterv (ok := (fun k_ => ((P2_ k_ ∨ P4_ k_) ∨ w.heap.size ≤ k_) ∧ some k_ ≠ (.slice Ao68 t334.length co68 : Value).ownBlock)) (by (with_reducible repeat (first | apply Kd.V_alloc | apply Kd.V_drewN | apply Kd.V_drew)); exact Kd.V_mono HO_85.out (fun _ hk => ⟨⟨hk.1.1, hk.2⟩, hk.1.2⟩)) hg hat); replace HB := Aside0.mk (hb); have HO339 := Aside0.mk (ho); clear HO_12 HO336; clear ho hb hg hat; obtain ⟨Ao69, co69, eo69⟩ := Kd.S_slice HO339.out; subst eo69; have p340 : 0 ≤ ((ji61) : Int) := of_decide_eq_true asm; have q340 : (ji61) < (y337.length : Int) := of_decide_eq_true asm; obtain ⟨ad340, A340_0, c340_0, e340, hx340_0, hl340_0, hi340_0⟩ := at_L2 (Kd.S_reads' HO339.out).2.2 (ji61) p340 q340; cases e340; obtain ⟨ce340, hce340, hMe340, hcc340⟩ := Kd.S_get HO339.out [] (ji61) p340 (by first | exact q340 | exact of_decide_eq_true asm | (have e_ := (Kd.S_reads' HO339.out).1; omega)); obtain ⟨ve340_0, rfl, ge340_0⟩ := hMe340; have hv340_0 := hcc340 0 _ rfl; rw [Nat.add_zero, show ((Kd.slice 5 (Kd.int .u8))).sz = 1 from rfl, Nat.mul_one] at hv340_0; replace hv340_0 := Option.some.inj (hv340_0.symm.trans hx340_0); rw [hv340_0] at ge340_0; have HL340_0 := Aside0.mk (show Kd.R (Kd.int .u8) 5 _ _ _ _ (rd_L2 y337 (ji61)) from ge340_0); clear hv340_0 ge340_0; clear hcc340 hce340; have HR340_0 := Aside0.mk hi340_0; have HC340_0 := Aside0.mk hl340_0; clear hi340_0 hl340_0; replace p340 := eq_true p340; replace q340 := eq_true q340) | (go_at_call 29; (with_reducible refine (impl_Digest.calls a0 _ _ (rd_L2 y337 (ji61)) t341 _ ?side1 ?side2 A64.out).mono ?_); (case side1 => repeat (first | exact (by repeat (first | (with_reducible exact HR340_0.out) | (with_reducible refine Kd.C_alloc ?_ _) | (with_reducible refine Kd.C_drewN ?_ _) | (with_reducible refine Kd.C_drew ?_) | exact HR340_0.out)) | (with_reducible refine Kd.C_alloc ?_ _) | (with_reducible refine Kd.C_drewN ?_ _) | (with_reducible refine Kd.C_drew ?_))); (case side2 => exact HC340_0.out); rintro e w70 ⟨rfl, hb⟩; (try (replace HM13 := Aside0.mk (MR_below (by (with_reducible repeat (first | apply MR_alloc | apply MR_drewN | apply MR_drew)); exact HM13.out) hb))); (try (replace HM17 := Aside0.mk (MR_below (by (with_reducible repeat (first | apply MR_alloc | apply MR_drewN | apply MR_drew)); exact HM17.out) hb))); replace HO_2 := Aside0.mk (Kd.V_below (mv HO_2.out) hb); replace HO_4 := Aside0.mk (Kd.V_below (mv HO_4.out) hb); replace HO_85 := Aside0.mk (Kd.V_below (mv HO_85.out) hb); replace HO339 := Aside0.mk (Kd.S_below (mv HO339.out) hb); replace HL340_0 := Aside0.mk (Kd.R_below (mv HL340_0.out) hb); replace HR340_0 := Aside0.mk (Kd.C_below (by repeat (first | (with_reducible exact HR340_0.out) | (with_reducible refine Kd.C_alloc ?_ _) | (with_reducible refine Kd.C_drewN ?_ _) | (with_reducible refine Kd.C_drew ?_) | exact HR340_0.out)) hb); replace HB := Aside0.mk (below_step (bt) hb); (try clear hb); (try clear hb2); (try clear hk); (try clear hi)) | (at_mapUpdate; refine wp_mput rfl rfl _ _ _ rfl rfl rfl rfl (by (with_reducible repeat (first | apply MR_alloc | apply MR_drewN | apply MR_drew)); exact HM17.out) A65.out ?_; intro wm hM_ ht_; (first | replace HO339 := Aside0.mk (V_turn (mv HO339.out) ht_) | replace HO339 := Aside0.mk (S_turn (mv HO339.out) ht_)); (first | replace HO_2 := Aside0.mk (V_turn (mv HO_2.out) ht_) | replace HO_2 := Aside0.mk (S_turn (mv HO_2.out) ht_)); (first | replace HO_4 := Aside0.mk (V_turn (mv HO_4.out) ht_) | replace HO_4 := Aside0.mk (S_turn (mv HO_4.out) ht_)); (first | replace HO_85 := Aside0.mk (V_turn (mv HO_85.out) ht_) | replace HO_85 := Aside0.mk (S_turn (mv HO_85.out) ht_)); replace HM13 := Aside0.mk (MR_turn (by (with_reducible repeat (first | apply MR_alloc | apply MR_drewN | apply MR_drew)); exact HM13.out) ht_ HNE.out); replace HB := Aside0.mk (below_turn (bt) ht_); replace HM17 := Aside0.mk hM_; clear hM_ ht_)); try go_wp2_with (first | (at_lookup; refine wp_mget rfl _ _ rfl rfl rfl (by (with_reducible repeat (first | apply MR_alloc | apply MR_drewN | apply MR_drew)); exact HM13.out) A57.out ?_) | (go_at_call 72; (with_reducible refine (impl_nodeInput.calls kj40 x20_40 t333 t334 _ A59.out).mono ?_); rintro e w66 ⟨v335, rfl, ho0, hb⟩; (try (replace HM13 := Aside0.mk (MR_below (by (with_reducible repeat (first | apply MR_alloc | apply MR_drewN | apply MR_drew)); exact HM13.out) hb))); (try (replace HM17 := Aside0.mk (MR_below (by (with_reducible repeat (first | apply MR_alloc | apply MR_drewN | apply MR_drew)); exact HM17.out) hb))); replace HO_2 := Aside0.mk (Kd.V_elder' (mv HO_2.out) (Kd.R_base ho0) hb); replace HO_4 := Aside0.mk (Kd.V_elder' (mv HO_4.out) (Kd.R_base ho0) hb); replace HO_12 := Aside0.mk (Kd.S_elder' (mv HO_12.out) (Kd.R_base ho0) hb); replace HO_85 := Aside0.mk (Kd.V_elder' (mv HO_85.out) (Kd.R_base ho0) hb); have HO336 := Aside0.mk (Kd.R_lower (Kd.R_newM (M := fun k_ => (w.heap.size ≤ k_)) ho0 (below_size (bt)) (fun k_ h_ => h_)) (below_size (bt))); replace HB := Aside0.mk (below_step (bt) hb); (try clear hb); (try clear hb2); (try clear hk); (try clear hi); (try clear ho0); obtain ⟨Ao68, co68, eo68⟩ := Kd.R_slice HO336.out; subst eo68) | ((with_reducible refine gate_builtin (b := .append) (xs := #[.tmp 141, .tmp 145]) rfl ?_); (try (refine gate_guard (by rfl) ?_; dsimp only)); at_builtin; refine Kd.S_append (Kd.slice 5 (Kd.int .u8)) (w0 := w) w.heap.size rfl (.tmp 141) (.tmp 145) 30 22 (.slice none 0 0) 24 rfl Try.underlying30 info22 rfl (by decide) (by omega) u12 x12_4 t334 [.slice Ao68 t334.length co68] (fun k_ => (w.heap.size ≤ k_)) (fun k_ => some k_ = (.slice Ao68 t334.length co68 : Value).ownBlock) rfl rfl ?aP (fun k_ hk_ => ((Kd.R_mono (ok' := fun k_ => ((fun k_ => (w.heap.size ≤ k_))) k_ ∧ some k_ ≠ (u12 : Value).ownBlock) (Kd.R_apart' (HO336.out) (Kd.S_typed HO_12.out) (by decide)) (fun k_ hk => ⟨hk.1.1, hk.2⟩))).1 k_ hk_.symm) ?aF ?aO ?aB ?aS ?aL ?_; (case aP => exact Kd.M_row (Kd.R_mono (Kd.R_tight rfl (Kd.R_mono (ok' := fun k_ => ((fun k_ => (w.heap.size ≤ k_))) k_ ∧ some k_ ≠ (u12 : Value).ownBlock) (Kd.R_apart' (HO336.out) (Kd.S_typed HO_12.out) (by decide)) (fun k_ hk => ⟨hk.1.1, hk.2⟩))) (fun _ h_ => h_))); (case aB => exact (bt)); (case aF => exact (fun k_ hk => (Nat.le_trans (below_size (bt)) hk))); (case aO => exact (by (with_reducible repeat (first | apply Kd.S_alloc | apply Kd.S_drewN | apply Kd.S_drew)); exact Kd.S_mono HO_12.out (fun k_ hk => ⟨hk.1, fun e_ => hk.2 e_⟩))); (case aS => exact (below_size (bt))); (case aL => have := LMc60.out; omega); intro v338 w67 ho hb hg hat; (try (replace HM13 := Aside0.mk (MR_grown (by (with_reducible repeat (first | apply MR_alloc | apply MR_drewN | apply MR_drew)); exact HM13.out) hg (MR_ne HM13.out (Kd.S_typed (by (with_reducible repeat (first | apply Kd.S_alloc | apply Kd.S_drewN | apply Kd.S_drew)); exact HO_12.out)))))); (try (replace HM17 := Aside0.mk (MR_grown (by (with_reducible repeat (first | apply MR_alloc | apply MR_drewN | apply MR_drew)); exact HM17.out) hg (MR_ne HM17.out (Kd.S_typed (by (with_reducible repeat (first | apply Kd.S_alloc | apply Kd.S_drewN | apply Kd.S_drew)); exact HO_12.out)))))); rw [← Ny337.out] at ho; replace HO_2 := Aside0.mk (Kd.V_afterv (ok := (fun k_ => ((P2_ k_ ∨ P4_ k_) ∨ w.heap.size ≤ k_) ∧ some k_ ≠ (.slice Ao68 t334.length co68 : Value).ownBlock)) (by (with_reducible repeat (first | apply Kd.V_alloc | apply Kd.V_drewN | apply Kd.V_drew)); exact Kd.V_mono HO_2.out (fun _ hk => ⟨⟨hk.1.1, hk.2⟩, hk.1.2⟩)) hg hat); replace HO_4 := Aside0.mk (Kd.V_afterv (ok := (fun k_ => ((P2_ k_ ∨ P4_ k_) ∨ w.heap.size ≤ k_) ∧ some k_ ≠ (.slice Ao68 t334.length co68 : Value).ownBlock)) (by (with_reducible repeat (first | apply Kd.V_alloc | apply Kd.V_drewN | apply Kd.V_drew)); exact Kd.V_mono HO_4.out (fun _ hk => ⟨⟨hk.1.1, hk.2⟩, hk.1.2⟩)) hg hat); replace HO_85 := Aside0.mk (Kd.V_afterv (ok := (fun k_ => ((P2_ k_ ∨ P4_ k_) ∨ w.heap.size ≤ k_) ∧ some k_ ≠ (.slice Ao68 t334.length co68 : Value).ownBlock)) (by (with_reducible repeat (first | apply Kd.V_alloc | apply Kd.V_drewN | apply Kd.V_drew)); exact Kd.V_mono HO_85.out (fun _ hk => ⟨⟨hk.1.1, hk.2⟩, hk.1.2⟩)) hg hat); replace HB := Aside0.mk (hb); have HO339 := Aside0.mk (ho); clear HO_12 HO336; clear ho hb hg hat; obtain ⟨Ao69, co69, eo69⟩ := Kd.S_slice HO339.out; subst eo69; have p340 : 0 ≤ ((ji61) : Int) := of_decide_eq_true asm; have q340 : (ji61) < (y337.length : Int) := of_decide_eq_true asm; obtain ⟨ad340, A340_0, c340_0, e340, hx340_0, hl340_0, hi340_0⟩ := at_L2 (Kd.S_reads' HO339.out).2.2 (ji61) p340 q340; cases e340; obtain ⟨ce340, hce340, hMe340, hcc340⟩ := Kd.S_get HO339.out [] (ji61) p340 (by first | exact q340 | exact of_decide_eq_true asm | (have e_ := (Kd.S_reads' HO339.out).1; omega)); obtain ⟨ve340_0, rfl, ge340_0⟩ := hMe340; have hv340_0 := hcc340 0 _ rfl; rw [Nat.add_zero, show ((Kd.slice 5 (Kd.int .u8))).sz = 1 from rfl, Nat.mul_one] at hv340_0; replace hv340_0 := Option.some.inj (hv340_0.symm.trans hx340_0); rw [hv340_0] at ge340_0; have HL340_0 := Aside0.mk (show Kd.R (Kd.int .u8) 5 _ _ _ _ (rd_L2 y337 (ji61)) from ge340_0); clear hv340_0 ge340_0; clear hcc340 hce340; have HR340_0 := Aside0.mk hi340_0; have HC340_0 := Aside0.mk hl340_0; clear hi340_0 hl340_0; replace p340 := eq_true p340; replace q340 := eq_true q340) | (go_at_call 29; (with_reducible refine (impl_Digest.calls a0 _ _ (rd_L2 y337 (ji61)) t341 _ ?side1 ?side2 A64.out).mono ?_); (case side1 => repeat (first | exact (by repeat (first | (with_reducible exact HR340_0.out) | (with_reducible refine Kd.C_alloc ?_ _) | (with_reducible refine Kd.C_drewN ?_ _) | (with_reducible refine Kd.C_drew ?_) | exact HR340_0.out)) | (with_reducible refine Kd.C_alloc ?_ _) | (with_reducible refine Kd.C_drewN ?_ _) | (with_reducible refine Kd.C_drew ?_))); (case side2 => exact HC340_0.out); rintro e w70 ⟨rfl, hb⟩; (try (replace HM13 := Aside0.mk (MR_below (by (with_reducible repeat (first | apply MR_alloc | apply MR_drewN | apply MR_drew)); exact HM13.out) hb))); (try (replace HM17 := Aside0.mk (MR_below (by (with_reducible repeat (first | apply MR_alloc | apply MR_drewN | apply MR_drew)); exact HM17.out) hb))); replace HO_2 := Aside0.mk (Kd.V_below (mv HO_2.out) hb); replace HO_4 := Aside0.mk (Kd.V_below (mv HO_4.out) hb); replace HO_85 := Aside0.mk (Kd.V_below (mv HO_85.out) hb); replace HO339 := Aside0.mk (Kd.S_below (mv HO339.out) hb); replace HL340_0 := Aside0.mk (Kd.R_below (mv HL340_0.out) hb); replace HR340_0 := Aside0.mk (Kd.C_below (by repeat (first | (with_reducible exact HR340_0.out) | (with_reducible refine Kd.C_alloc ?_ _) | (with_reducible refine Kd.C_drewN ?_ _) | (with_reducible refine Kd.C_drew ?_) | exact HR340_0.out)) hb); replace HB := Aside0.mk (below_step (bt) hb); (try clear hb); (try clear hb2); (try clear hk); (try clear hi)) | (at_mapUpdate; refine wp_mput rfl rfl _ _ _ rfl rfl rfl rfl (by (with_reducible repeat (first | apply MR_alloc | apply MR_drewN | apply MR_drew)); exact HM17.out) A65.out ?_; intro wm hM_ ht_; (first | replace HO339 := Aside0.mk (V_turn (mv HO339.out) ht_) | replace HO339 := Aside0.mk (S_turn (mv HO339.out) ht_)); (first | replace HO_2 := Aside0.mk (V_turn (mv HO_2.out) ht_) | replace HO_2 := Aside0.mk (S_turn (mv HO_2.out) ht_)); (first | replace HO_4 := Aside0.mk (V_turn (mv HO_4.out) ht_) | replace HO_4 := Aside0.mk (S_turn (mv HO_4.out) ht_)); (first | replace HO_85 := Aside0.mk (V_turn (mv HO_85.out) ht_) | replace HO_85 := Aside0.mk (S_turn (mv HO_85.out) ht_)); replace HM13 := Aside0.mk (MR_turn (by (with_reducible repeat (first | apply MR_alloc | apply MR_drewN | apply MR_drew)); exact HM13.out) ht_ HNE.out); replace HB := Aside0.mk (below_turn (bt) ht_); replace HM17 := Aside0.mk hM_; clear hM_ ht_)))
                     go_roundg kj40
                     case measure => have := HJ5.out; have := HK2.out; have := HK3.out; have := HK4.out; have := HJ40.out; omega
                     case rel => exact ⟨(x4_40), (y337), (t342), (wrap64 (x87_4 + 1)), (by first | rfl | (simp; done) | (simp [*]; done)), H', ⟨by have := HJ5.out; have := HK2.out; have := HK3.out; have := HK4.out; have := HJ40.out; omega⟩, ⟨by (with_reducible repeat (first | apply Kd.V_alloc | apply Kd.V_drewN | apply Kd.V_drew)); exact Kd.V_mono HO_2.out (fun _ hk => ⟨hk.1.1, hk.2⟩)⟩, ⟨by (with_reducible repeat (first | apply Kd.V_alloc | apply Kd.V_drewN | apply Kd.V_drew)); exact Kd.V_mono HO_4.out (fun _ hk => ⟨hk.1.1, hk.2⟩)⟩, ⟨mv HO339.out⟩, ⟨by (with_reducible repeat (first | apply Kd.V_alloc | apply Kd.V_drewN | apply Kd.V_drew)); exact Kd.V_mono HO_85.out (fun _ hk => ⟨hk.1.1, hk.2⟩)⟩, ⟨bt⟩, ⟨(by (with_reducible repeat (first | apply MR_alloc | apply MR_drewN | apply MR_drew)); exact HM13.out)⟩, ⟨(by (with_reducible repeat (first | apply MR_alloc | apply MR_drewN | apply MR_drew)); exact HM17.out)⟩, HNE⟩
                    ·rw [if_neg c63] at H
                     exact absurd H (by simp)
                   ·rw [if_neg c62] at H
                    exact absurd H (by simp)
                  ·rw [if_neg c60] at H
                   exact absurd H (by simp)
                 ·rw [if_neg c58] at H
                  have c58b0 : ((Int.tmod (rd x2_3 x87_4) 2) == 1) = false := beq_eq_false_iff_ne.mpr c58
                  have c58b1 : ((Int.tmod (rd x2_3 x87_4) 2) != 1) = true := bne_iff_ne.mpr c58
                  replace H := Option.bind_eq_some_iff.mp H
                  obtain ⟨t343, A710, H⟩ := H
                  (try dsimp -simprocs only at H)
                  have A71 := Aside0.mk A710
                  clear A710
                  by_cases c72 : x12_4.length < 5864062014805
                  ·rw [if_pos c72] at H
                   have LMc72 := Aside0.mk c72
                   clear c72
                   obtain ⟨y346, hy346⟩ : ∃ y_ : List (List Int), y_ = (x12_4 ++ [t343]) := ⟨_, rfl⟩
                   replace H : (if 0 ≤ (wrap64 ((y346.length : Int) - 1)) then (if (wrap64 ((y346.length : Int) - 1)) < (y346.length : Int) then ((impl_Digest.f a0 (rd_L2 y346 (wrap64 ((y346.length : Int) - 1)))).bind fun t350 => ((fake_mp_put.f x17_40 (wrap64 (Int.tdiv (rd x2_3 x87_4) 2)) t350).bind fun t351 => (impl_climbMany.l2 kj40 a0 a1 x2_3 x4_40 y346 x13_3 x16_3 t351 x2_3 (x2_3.length : Int) (wrap64 (x87_4 + 1))))) else (none)) else (none)) = some (r1, r2) := by first | (rw [hy346]; exact H) | exact H
                   have Ny346 := Aside0.mk hy346
                   clear hy346
                   obtain ⟨ji73, hji73⟩ : ∃ j_ : Int, (wrap64 ((y346.length : Int) - 1)) = j_ := ⟨_, rfl⟩
                   replace H : (if 0 ≤ (ji73) then (if (ji73) < (y346.length : Int) then ((impl_Digest.f a0 (rd_L2 y346 (ji73))).bind fun t350 => ((fake_mp_put.f x17_40 (wrap64 (Int.tdiv (rd x2_3 x87_4) 2)) t350).bind fun t351 => (impl_climbMany.l2 kj40 a0 a1 x2_3 x4_40 y346 x13_3 x16_3 t351 x2_3 (x2_3.length : Int) (wrap64 (x87_4 + 1))))) else (none)) else (none)) = some (r1, r2) := by first | (rw [hji73] at H; exact H) | (simp only [hji73] at H ⊢; exact H)
                   (try rw [hji73] at A57)
                   (try rw [hji73] at A71)
                   have hji73w : (IntKind.i64.wrap ((y346.length : Int) - 1)) = ji73 := (i64_w _).trans hji73
                   by_cases c74 : 0 ≤ (ji73)
                   ·rw [if_pos c74] at H
                    have c74b0 : decide (0 ≤ (ji73)) = true := decide_eq_true c74
                    clear c74
                    by_cases c75 : (ji73) < (y346.length : Int)
                    ·rw [if_pos c75] at H
                     have c75b0 : decide ((ji73) < (y346.length : Int)) = true := decide_eq_true c75
                     clear c75
                     replace H := Option.bind_eq_some_iff.mp H
                     obtain ⟨t350, A760, H⟩ := H
                     (try dsimp -simprocs only at H)
                     have A76 := Aside0.mk A760
                     clear A760
                     replace H := Option.bind_eq_some_iff.mp H
                     obtain ⟨t351, A770, H⟩ := H
                     (try dsimp -simprocs only at H)
                     have A77 := Aside0.mk A770
                     clear A770
                     have H' := Aside0.mk H
                     clear H
                     go_wp2_with (first | (at_lookup; refine wp_mget rfl _ _ rfl rfl rfl (by (with_reducible repeat (first | apply MR_alloc | apply MR_drewN | apply MR_drew)); exact HM13.out) A57.out ?_) | (go_at_call 72; (with_reducible refine (impl_nodeInput.calls kj40 t333 x20_40 t343 _ A71.out).mono ?_); rintro e w78 ⟨v344, rfl, ho0, hb⟩; (try (replace HM13 := Aside0.mk (MR_below (by (with_reducible repeat (first | apply MR_alloc | apply MR_drewN | apply MR_drew)); exact HM13.out) hb))); (try (replace HM17 := Aside0.mk (MR_below (by (with_reducible repeat (first | apply MR_alloc | apply MR_drewN | apply MR_drew)); exact HM17.out) hb))); replace HO_2 := Aside0.mk (Kd.V_elder' (mv HO_2.out) (Kd.R_base ho0) hb); replace HO_4 := Aside0.mk (Kd.V_elder' (mv HO_4.out) (Kd.R_base ho0) hb); replace HO_12 := Aside0.mk (Kd.S_elder' (mv HO_12.out) (Kd.R_base ho0) hb); replace HO_85 := Aside0.mk (Kd.V_elder' (mv HO_85.out) (Kd.R_base ho0) hb); have HO345 := Aside0.mk (Kd.R_lower (Kd.R_newM (M := fun k_ => (w.heap.size ≤ k_)) ho0 (below_size (bt)) (fun k_ h_ => h_)) (below_size (bt))); replace HB := Aside0.mk (below_step (bt) hb); (try clear hb); (try clear hb2); (try clear hk); (try clear hi); (try clear ho0); obtain ⟨Ao80, co80, eo80⟩ := Kd.R_slice HO345.out; subst eo80) | ((with_reducible refine gate_builtin (b := .append) (xs := #[.tmp 141, .tmp 145]) rfl ?_); (try (refine gate_guard (by rfl) ?_; dsimp only)); at_builtin; refine Kd.S_append (Kd.slice 5 (Kd.int .u8)) (w0 := w) w.heap.size rfl (.tmp 141) (.tmp 145) 30 22 (.slice none 0 0) 24 rfl Try.underlying30 info22 rfl (by decide) (by omega) u12 x12_4 t343 [.slice Ao80 t343.length co80] (fun k_ => (w.heap.size ≤ k_)) (fun k_ => some k_ = (.slice Ao80 t343.length co80 : Value).ownBlock) rfl rfl ?aP (fun k_ hk_ => ((Kd.R_mono (ok' := fun k_ => ((fun k_ => (w.heap.size ≤ k_))) k_ ∧ some k_ ≠ (u12 : Value).ownBlock) (Kd.R_apart' (HO345.out) (Kd.S_typed HO_12.out) (by decide)) (fun k_ hk => ⟨hk.1.1, hk.2⟩))).1 k_ hk_.symm) ?aF ?aO ?aB ?aS ?aL ?_; (case aP => exact Kd.M_row (Kd.R_mono (Kd.R_tight rfl (Kd.R_mono (ok' := fun k_ => ((fun k_ => (w.heap.size ≤ k_))) k_ ∧ some k_ ≠ (u12 : Value).ownBlock) (Kd.R_apart' (HO345.out) (Kd.S_typed HO_12.out) (by decide)) (fun k_ hk => ⟨hk.1.1, hk.2⟩))) (fun _ h_ => h_))); (case aB => exact (bt)); (case aF => exact (fun k_ hk => (Nat.le_trans (below_size (bt)) hk))); (case aO => exact (by (with_reducible repeat (first | apply Kd.S_alloc | apply Kd.S_drewN | apply Kd.S_drew)); exact Kd.S_mono HO_12.out (fun k_ hk => ⟨hk.1, fun e_ => hk.2 e_⟩))); (case aS => exact (below_size (bt))); (case aL => have := LMc72.out; omega); intro v347 w79 ho hb hg hat; (try (replace HM13 := Aside0.mk (MR_grown (by (with_reducible repeat (first | apply MR_alloc | apply MR_drewN | apply MR_drew)); exact HM13.out) hg (MR_ne HM13.out (Kd.S_typed (by (with_reducible repeat (first | apply Kd.S_alloc | apply Kd.S_drewN | apply Kd.S_drew)); exact HO_12.out)))))); (try (replace HM17 := Aside0.mk (MR_grown (by (with_reducible repeat (first | apply MR_alloc | apply MR_drewN | apply MR_drew)); exact HM17.out) hg (MR_ne HM17.out (Kd.S_typed (by (with_reducible repeat (first | apply Kd.S_alloc | apply Kd.S_drewN | apply Kd.S_drew)); exact HO_12.out)))))); rw [← Ny346.out] at ho; replace HO_2 := Aside0.mk (Kd.V_afterv (ok := (fun k_ => ((P2_ k_ ∨ P4_ k_) ∨ w.heap.size ≤ k_) ∧ some k_ ≠ (.slice Ao80 t343.length co80 : Value).ownBlock)) (by (with_reducible repeat (first | apply Kd.V_alloc | apply Kd.V_drewN | apply Kd.V_drew)); exact Kd.V_mono HO_2.out (fun _ hk => ⟨⟨hk.1.1, hk.2⟩, hk.1.2⟩)) hg hat); replace HO_4 := Aside0.mk (Kd.V_afterv (ok := (fun k_ => ((P2_ k_ ∨ P4_ k_) ∨ w.heap.size ≤ k_) ∧ some k_ ≠ (.slice Ao80 t343.length co80 : Value).ownBlock)) (by (with_reducible repeat (first | apply Kd.V_alloc | apply Kd.V_drewN | apply Kd.V_drew)); exact Kd.V_mono HO_4.out (fun _ hk => ⟨⟨hk.1.1, hk.2⟩, hk.1.2⟩)) hg hat); replace HO_85 := Aside0.mk (Kd.V_afterv (ok := (fun k_ => ((P2_ k_ ∨ P4_ k_) ∨ w.heap.size ≤ k_) ∧ some k_ ≠ (.slice Ao80 t343.length co80 : Value).ownBlock)) (by (with_reducible repeat (first | apply Kd.V_alloc | apply Kd.V_drewN | apply Kd.V_drew)); exact Kd.V_mono HO_85.out (fun _ hk => ⟨⟨hk.1.1, hk.2⟩, hk.1.2⟩)) hg hat); replace HB := Aside0.mk (hb); have HO348 := Aside0.mk (ho); clear HO_12 HO345; clear ho hb hg hat; obtain ⟨Ao81, co81, eo81⟩ := Kd.S_slice HO348.out; subst eo81; have p349 : 0 ≤ ((ji73) : Int) := of_decide_eq_true asm; have q349 : (ji73) < (y346.length : Int) := of_decide_eq_true asm; obtain ⟨ad349, A349_0, c349_0, e349, hx349_0, hl349_0, hi349_0⟩ := at_L2 (Kd.S_reads' HO348.out).2.2 (ji73) p349 q349; cases e349; obtain ⟨ce349, hce349, hMe349, hcc349⟩ := Kd.S_get HO348.out [] (ji73) p349 (by first | exact q349 | exact of_decide_eq_true asm | (have e_ := (Kd.S_reads' HO348.out).1; omega)); obtain ⟨ve349_0, rfl, ge349_0⟩ := hMe349; have hv349_0 := hcc349 0 _ rfl; rw [Nat.add_zero, show ((Kd.slice 5 (Kd.int .u8))).sz = 1 from rfl, Nat.mul_one] at hv349_0; replace hv349_0 := Option.some.inj (hv349_0.symm.trans hx349_0); rw [hv349_0] at ge349_0; have HL349_0 := Aside0.mk (show Kd.R (Kd.int .u8) 5 _ _ _ _ (rd_L2 y346 (ji73)) from ge349_0); clear hv349_0 ge349_0; clear hcc349 hce349; have HR349_0 := Aside0.mk hi349_0; have HC349_0 := Aside0.mk hl349_0; clear hi349_0 hl349_0; replace p349 := eq_true p349; replace q349 := eq_true q349) | (go_at_call 29; (with_reducible refine (impl_Digest.calls a0 _ _ (rd_L2 y346 (ji73)) t350 _ ?side1 ?side2 A76.out).mono ?_); (case side1 => repeat (first | exact (by repeat (first | (with_reducible exact HR349_0.out) | (with_reducible refine Kd.C_alloc ?_ _) | (with_reducible refine Kd.C_drewN ?_ _) | (with_reducible refine Kd.C_drew ?_) | exact HR349_0.out)) | (with_reducible refine Kd.C_alloc ?_ _) | (with_reducible refine Kd.C_drewN ?_ _) | (with_reducible refine Kd.C_drew ?_))); (case side2 => exact HC349_0.out); rintro e w82 ⟨rfl, hb⟩; (try (replace HM13 := Aside0.mk (MR_below (by (with_reducible repeat (first | apply MR_alloc | apply MR_drewN | apply MR_drew)); exact HM13.out) hb))); (try (replace HM17 := Aside0.mk (MR_below (by (with_reducible repeat (first | apply MR_alloc | apply MR_drewN | apply MR_drew)); exact HM17.out) hb))); replace HO_2 := Aside0.mk (Kd.V_below (mv HO_2.out) hb); replace HO_4 := Aside0.mk (Kd.V_below (mv HO_4.out) hb); replace HO_85 := Aside0.mk (Kd.V_below (mv HO_85.out) hb); replace HO348 := Aside0.mk (Kd.S_below (mv HO348.out) hb); replace HL349_0 := Aside0.mk (Kd.R_below (mv HL349_0.out) hb); replace HR349_0 := Aside0.mk (Kd.C_below (by repeat (first | (with_reducible exact HR349_0.out) | (with_reducible refine Kd.C_alloc ?_ _) | (with_reducible refine Kd.C_drewN ?_ _) | (with_reducible refine Kd.C_drew ?_) | exact HR349_0.out)) hb); replace HB := Aside0.mk (below_step (bt) hb); (try clear hb); (try clear hb2); (try clear hk); (try clear hi)) | (at_mapUpdate; refine wp_mput rfl rfl _ _ _ rfl rfl rfl rfl (by (with_reducible repeat (first | apply MR_alloc | apply MR_drewN | apply MR_drew)); exact HM17.out) A77.out ?_; intro wm hM_ ht_; (first | replace HO348 := Aside0.mk (V_turn (mv HO348.out) ht_) | replace HO348 := Aside0.mk (S_turn (mv HO348.out) ht_)); (first | replace HO_2 := Aside0.mk (V_turn (mv HO_2.out) ht_) | replace HO_2 := Aside0.mk (S_turn (mv HO_2.out) ht_)); (first | replace HO_4 := Aside0.mk (V_turn (mv HO_4.out) ht_) | replace HO_4 := Aside0.mk (S_turn (mv HO_4.out) ht_)); (first | replace HO_85 := Aside0.mk (V_turn (mv HO_85.out) ht_) | replace HO_85 := Aside0.mk (S_turn (mv HO_85.out) ht_)); replace HM13 := Aside0.mk (MR_turn (by (with_reducible repeat (first | apply MR_alloc | apply MR_drewN | apply MR_drew)); exact HM13.out) ht_ HNE.out); replace HB := Aside0.mk (below_turn (bt) ht_); replace HM17 := Aside0.mk hM_; clear hM_ ht_))
                     repeat (go_quiet (first | (at_lookup; refine wp_mget rfl _ _ rfl rfl rfl (by (with_reducible repeat (first | apply MR_alloc | apply MR_drewN | apply MR_drew)); exact HM13.out) A57.out ?_) | (go_at_call 72; (with_reducible refine (impl_nodeInput.calls kj40 t333 x20_40 t343 _ A71.out).mono ?_); rintro e w78 ⟨v344, rfl, ho0, hb⟩; (try (replace HM13 := Aside0.mk (MR_below (by (with_reducible repeat (first | apply MR_alloc | apply MR_drewN | apply MR_drew)); exact HM13.out) hb))); (try (replace HM17 := Aside0.mk (MR_below (by (with_reducible repeat (first | apply MR_alloc | apply MR_drewN | apply MR_drew)); exact HM17.out) hb))); replace HO_2 := Aside0.mk (Kd.V_elder' (mv HO_2.out) (Kd.R_base ho0) hb); replace HO_4 := Aside0.mk (Kd.V_elder' (mv HO_4.out) (Kd.R_base ho0) hb); replace HO_12 := Aside0.mk (Kd.S_elder' (mv HO_12.out) (Kd.R_base ho0) hb); replace HO_85 := Aside0.mk (Kd.V_elder' (mv HO_85.out) (Kd.R_base ho0) hb); have HO345 := Aside0.mk (Kd.R_lower (Kd.R_newM (M := fun k_ => (w.heap.size ≤ k_)) ho0 (below_size (bt)) (fun k_ h_ => h_)) (below_size (bt))); replace HB := Aside0.mk (below_step (bt) hb); (try clear hb); (try clear hb2); (try clear hk); (try clear hi); (try clear ho0); obtain ⟨Ao80, co80, eo80⟩ := Kd.R_slice HO345.out; subst eo80) | ((with_reducible refine gate_builtin (b := .append) (xs := #[.tmp 141, .tmp 145]) rfl ?_); (try (refine gate_guard (by rfl) ?_; dsimp only)); at_builtin; refine Kd.S_append (Kd.slice 5 (Kd.int .u8)) (w0 := w) w.heap.size rfl (.tmp 141) (.tmp 145) 30 22 (.slice none 0 0) 24 rfl Try.underlying30 info22 rfl (by decide) (by omega) u12 x12_4 t343 [.slice Ao80 t343.length co80] (fun k_ => (w.heap.size ≤ k_)) (fun k_ => some k_ = (.slice Ao80 t343.length co80 : Value).ownBlock) rfl rfl ?aP (fun k_ hk_ => ((Kd.R_mono (ok' := fun k_ => ((fun k_ => (w.heap.size ≤ k_))) k_ ∧ some k_ ≠ (u12 : Value).ownBlock) (Kd.R_apart' (HO345.out) (Kd.S_typed HO_12.out) (by decide)) (fun k_ hk => ⟨hk.1.1, hk.2⟩))).1 k_ hk_.symm) ?aF ?aO ?aB ?aS ?aL ?_; (case aP => exact Kd.M_row (Kd.R_mono (Kd.R_tight rfl (Kd.R_mono (ok' := fun k_ => ((fun k_ => (w.heap.size ≤ k_))) k_ ∧ some k_ ≠ (u12 : Value).ownBlock) (Kd.R_apart' (HO345.out) (Kd.S_typed HO_12.out) (by decide)) (fun k_ hk => ⟨hk.1.1, hk.2⟩))) (fun _ h_ => h_))); (case aB => exact (bt)); (case aF => exact (fun k_ hk => (Nat.le_trans (below_size (bt)) hk))); (case aO => exact (by (with_reducible repeat (first | apply Kd.S_alloc | apply Kd.S_drewN | apply Kd.S_drew)); exact Kd.S_mono HO_12.out (fun k_ hk => ⟨hk.1, fun e_ => hk.2 e_⟩))); (case aS => exact (below_size (bt))); (case aL => have := LMc72.out; omega); intro v347 w79 ho hb hg hat; (try (replace HM13 := Aside0.mk (MR_grown (by (with_reducible repeat (first | apply MR_alloc | apply MR_drewN | apply MR_drew)); exact HM13.out) hg (MR_ne HM13.out (Kd.S_typed (by (with_reducible repeat (first | apply Kd.S_alloc | apply Kd.S_drewN | apply Kd.S_drew)); exact HO_12.out)))))); (try (replace HM17 := Aside0.mk (MR_grown (by (with_reducible repeat (first | apply MR_alloc | apply MR_drewN | apply MR_drew)); exact HM17.out) hg (MR_ne HM17.out (Kd.S_typed (by (with_reducible repeat (first | apply Kd.S_alloc | apply Kd.S_drewN | apply Kd.S_drew)); exact HO_12.out)))))); rw [← Ny346.out] at ho; replace HO_2 := Aside0.mk (Kd.V_afterv (ok := (fun k_ => ((P2_ k_ ∨ P4_ k_) ∨ w.heap.size ≤ k_) ∧ some k_ ≠ (.slice Ao80 t343.length co80 : Value).ownBlock)) (by (with_reducible repeat (first | apply Kd.V_alloc | apply Kd.V_drewN | apply Kd.V_drew)); exact Kd.V_mono HO_2.out (fun _ hk => ⟨⟨hk.1.1, hk.2⟩, hk.1.2⟩)) hg hat); replace HO_4 := Aside0.mk (Kd.V_afterv (ok := (fun k_ => ((P2_ k_ ∨ P4_ k_) ∨ w.heap.size ≤ k_) ∧ some k_ ≠ (.slice Ao80 t343.length co80 : Value).ownBlock)) (by (with_reducible repeat (first | apply Kd.V_alloc | apply Kd.V_drewN | apply Kd.V_drew)); exact Kd.V_mono HO_4.out (fun _ hk => ⟨⟨hk.1.1, hk.2⟩, hk.1.2⟩)) hg hat); replace HO_85 := Aside0.mk (Kd.V_afterv (ok := (fun k_ => ((P2_ k_ ∨ P4_ k_) ∨ w.heap.size ≤ k_) ∧ some k_ ≠ (.slice Ao80 t343.length co80 : Value).ownBlock)) (by (with_reducible repeat (first | apply Kd.V_alloc | apply Kd.V_drewN | apply Kd.V_drew)); exact Kd.V_mono HO_85.out (fun _ hk => ⟨⟨hk.1.1, hk.2⟩, hk.1.2⟩)) hg hat); replace HB := Aside0.mk (hb); have HO348 := Aside0.mk (ho); clear HO_12 HO345; clear ho hb hg hat; obtain ⟨Ao81, co81, eo81⟩ := Kd.S_slice HO348.out; subst eo81; have p349 : 0 ≤ ((ji73) : Int) := of_decide_eq_true asm; have q349 : (ji73) < (y346.length : Int) := of_decide_eq_true asm; obtain ⟨ad349, A349_0, c349_0, e349, hx349_0, hl349_0, hi349_0⟩ := at_L2 (Kd.S_reads' HO348.out).2.2 (ji73) p349 q349; cases e349; obtain ⟨ce349, hce349, hMe349, hcc349⟩ := Kd.S_get HO348.out [] (ji73) p349 (by first | exact q349 | exact of_decide_eq_true asm | (have e_ := (Kd.S_reads' HO348.out).1; omega)); obtain ⟨ve349_0, rfl, ge349_0⟩ := hMe349; have hv349_0 := hcc349 0 _ rfl; rw [Nat.add_zero, show ((Kd.slice 5 (Kd.int .u8))).sz = 1 from rfl, Nat.mul_one] at hv349_0; replace hv349_0 := Option.some.inj (hv349_0.symm.trans hx349_0); rw [hv349_0] at ge349_0; have HL349_0 := Aside0.mk (show Kd.R (Kd.int .u8) 5 _ _ _ _ (rd_L2 y346 (ji73)) from ge349_0); clear hv349_0 ge349_0; clear hcc349 hce349; have HR349_0 := Aside0.mk hi349_0; have HC349_0 := Aside0.mk hl349_0; clear hi349_0 hl349_0; replace p349 := eq_true p349; replace q349 := eq_true q349) | (go_at_call 29; (with_reducible refine (impl_Digest.calls a0 _ _ (rd_L2 y346 (ji73)) t350 _ ?side1 ?side2 A76.out).mono ?_); (case side1 => repeat (first | exact (by repeat (first | (with_reducible exact HR349_0.out) | (with_reducible refine Kd.C_alloc ?_ _) | (with_reducible refine Kd.C_drewN ?_ _) | (with_reducible refine Kd.C_drew ?_) | exact HR349_0.out)) | (with_reducible refine Kd.C_alloc ?_ _) | (with_reducible refine Kd.C_drewN ?_ _) | (with_reducible refine Kd.C_drew ?_))); (case side2 => exact HC349_0.out); rintro e w82 ⟨rfl, hb⟩; (try (replace HM13 := Aside0.mk (MR_below (by (with_reducible repeat (first | apply MR_alloc | apply MR_drewN | apply MR_drew)); exact HM13.out) hb))); (try (replace HM17 := Aside0.mk (MR_below (by (with_reducible repeat (first | apply MR_alloc | apply MR_drewN | apply MR_drew)); exact HM17.out) hb))); replace HO_2 := Aside0.mk (Kd.V_below (mv HO_2.out) hb); replace HO_4 := Aside0.mk (Kd.V_below (mv HO_4.out) hb); replace HO_85 := Aside0.mk (Kd.V_below (mv HO_85.out) hb); replace HO348 := Aside0.mk (Kd.S_below (mv HO348.out) hb); replace HL349_0 := Aside0.mk (Kd.R_below (mv HL349_0.out) hb); replace HR349_0 := Aside0.mk (Kd.C_below (by repeat (first | (with_reducible exact HR349_0.out) | (with_reducible refine Kd.C_alloc ?_ _) | (with_reducible refine Kd.C_drewN ?_ _) | (with_reducible refine Kd.C_drew ?_) | exact HR349_0.out)) hb); replace HB := Aside0.mk (below_step (bt) hb); (try clear hb); (try clear hb2); (try clear hk); (try clear hi)) | (at_mapUpdate; refine wp_mput rfl rfl _ _ _ rfl rfl rfl rfl (by (with_reducible repeat (first | apply MR_alloc | apply MR_drewN | apply MR_drew)); exact HM17.out) A77.out ?_; intro wm hM_ ht_; (first | replace HO348 := Aside0.mk (V_turn (mv HO348.out) ht_) | replace HO348 := Aside0.mk (S_turn (mv HO348.out) ht_)); (first | replace HO_2 := Aside0.mk (V_turn (mv HO_2.out) ht_) | replace HO_2 := Aside0.mk (S_turn (mv HO_2.out) ht_)); (first | replace HO_4 := Aside0.mk (V_turn (mv HO_4.out) ht_) | replace HO_4 := Aside0.mk (S_turn (mv HO_4.out) ht_)); (first | replace HO_85 := Aside0.mk (V_turn (mv HO_85.out) ht_) | replace HO_85 := Aside0.mk (S_turn (mv HO_85.out) ht_)); replace HM13 := Aside0.mk (MR_turn (by (with_reducible repeat (first | apply MR_alloc | apply MR_drewN | apply MR_drew)); exact HM13.out) ht_ HNE.out); replace HB := Aside0.mk (below_turn (bt) ht_); replace HM17 := Aside0.mk hM_; clear hM_ ht_)); try go_wp2_with (first | (at_lookup; refine wp_mget rfl _ _ rfl rfl rfl (by (with_reducible repeat (first | apply MR_alloc | apply MR_drewN | apply MR_drew)); exact HM13.out) A57.out ?_) | (go_at_call 72; (with_reducible refine (impl_nodeInput.calls kj40 t333 x20_40 t343 _ A71.out).mono ?_); rintro e w78 ⟨v344, rfl, ho0, hb⟩; (try (replace HM13 := Aside0.mk (MR_below (by (with_reducible repeat (first | apply MR_alloc | apply MR_drewN | apply MR_drew)); exact HM13.out) hb))); (try (replace HM17 := Aside0.mk (MR_below (by (with_reducible repeat (first | apply MR_alloc | apply MR_drewN | apply MR_drew)); exact HM17.out) hb))); replace HO_2 := Aside0.mk (Kd.V_elder' (mv HO_2.out) (Kd.R_base ho0) hb); replace HO_4 := Aside0.mk (Kd.V_elder' (mv HO_4.out) (Kd.R_base ho0) hb); replace HO_12 := Aside0.mk (Kd.S_elder' (mv HO_12.out) (Kd.R_base ho0) hb); replace HO_85 := Aside0.mk (Kd.V_elder' (mv HO_85.out) (Kd.R_base ho0) hb); have HO345 := Aside0.mk (Kd.R_lower (Kd.R_newM (M := fun k_ => (w.heap.size ≤ k_)) ho0 (below_size (bt)) (fun k_ h_ => h_)) (below_size (bt))); replace HB := Aside0.mk (below_step (bt) hb); (try clear hb); (try clear hb2); (try clear hk); (try clear hi); (try clear ho0); obtain ⟨Ao80, co80, eo80⟩ := Kd.R_slice HO345.out; subst eo80) | ((with_reducible refine gate_builtin (b := .append) (xs := #[.tmp 141, .tmp 145]) rfl ?_); (try (refine gate_guard (by rfl) ?_; dsimp only)); at_builtin; refine Kd.S_append (Kd.slice 5 (Kd.int .u8)) (w0 := w) w.heap.size rfl (.tmp 141) (.tmp 145) 30 22 (.slice none 0 0) 24 rfl Try.underlying30 info22 rfl (by decide) (by omega) u12 x12_4 t343 [.slice Ao80 t343.length co80] (fun k_ => (w.heap.size ≤ k_)) (fun k_ => some k_ = (.slice Ao80 t343.length co80 : Value).ownBlock) rfl rfl ?aP (fun k_ hk_ => ((Kd.R_mono (ok' := fun k_ => ((fun k_ => (w.heap.size ≤ k_))) k_ ∧ some k_ ≠ (u12 : Value).ownBlock) (Kd.R_apart' (HO345.out) (Kd.S_typed HO_12.out) (by decide)) (fun k_ hk => ⟨hk.1.1, hk.2⟩))).1 k_ hk_.symm) ?aF ?aO ?aB ?aS ?aL ?_; (case aP => exact Kd.M_row (Kd.R_mono (Kd.R_tight rfl (Kd.R_mono (ok' := fun k_ => ((fun k_ => (w.heap.size ≤ k_))) k_ ∧ some k_ ≠ (u12 : Value).ownBlock) (Kd.R_apart' (HO345.out) (Kd.S_typed HO_12.out) (by decide)) (fun k_ hk => ⟨hk.1.1, hk.2⟩))) (fun _ h_ => h_))); (case aB => exact (bt)); (case aF => exact (fun k_ hk => (Nat.le_trans (below_size (bt)) hk))); (case aO => exact (by (with_reducible repeat (first | apply Kd.S_alloc | apply Kd.S_drewN | apply Kd.S_drew)); exact Kd.S_mono HO_12.out (fun k_ hk => ⟨hk.1, fun e_ => hk.2 e_⟩))); (case aS => exact (below_size (bt))); (case aL => have := LMc72.out; omega); intro v347 w79 ho hb hg hat; (try (replace HM13 := Aside0.mk (MR_grown (by (with_reducible repeat (first | apply MR_alloc | apply MR_drewN | apply MR_drew)); exact HM13.out) hg (MR_ne HM13.out (Kd.S_typed (by (with_reducible repeat (first | apply Kd.S_alloc | apply Kd.S_drewN | apply Kd.S_drew)); exact HO_12.out)))))); (try (replace HM17 := Aside0.mk (MR_grown (by (with_reducible repeat (first | apply MR_alloc | apply MR_drewN | apply MR_drew)); exact HM17.out) hg (MR_ne HM17.out (Kd.S_typed (by (with_reducible repeat (first | apply Kd.S_alloc | apply Kd.S_drewN | apply Kd.S_drew)); exact HO_12.out)))))); rw [← Ny346.out] at ho; replace HO_2 := Aside0.mk (Kd.V_afterv (ok := (fun k_ => ((P2_ k_ ∨ P4_ k_) ∨ w.heap.size ≤ k_) ∧ some k_ ≠ (.slice Ao80 t343.length co80 : Value).ownBlock)) (by (with_reducible repeat (first | apply Kd.V_alloc | apply Kd.V_drewN | apply Kd.V_drew)); exact Kd.V_mono HO_2.out (fun _ hk => ⟨⟨hk.1.1, hk.2⟩, hk.1.2⟩)) hg hat); replace HO_4 := Aside0.mk (Kd.V_afterv (ok := (fun k_ => ((P2_ k_ ∨ P4_ k_) ∨ w.heap.size ≤ k_) ∧ some k_ ≠ (.slice Ao80 t343.length co80 : Value).ownBlock)) (by (with_reducible repeat (first | apply Kd.V_alloc | apply Kd.V_drewN | apply Kd.V_drew)); exact Kd.V_mono HO_4.out (fun _ hk => ⟨⟨hk.1.1, hk.2⟩, hk.1.2⟩)) hg hat); replace HO_85 := Aside0.mk (Kd.V_afterv (ok := (fun k_ => ((P2_ k_ ∨ P4_ k_) ∨ w.heap.size ≤ k_) ∧ some k_ ≠ (.slice Ao80 t343.length co80 : Value).ownBlock)) (by (with_reducible repeat (first | apply Kd.V_alloc | apply Kd.V_drewN | apply Kd.V_drew)); exact Kd.V_mono HO_85.out (fun _ hk => ⟨⟨hk.1.1, hk.2⟩, hk.1.2⟩)) hg hat); replace HB := Aside0.mk (hb); have HO348 := Aside0.mk (ho); clear HO_12 HO345; clear ho hb hg hat; obtain ⟨Ao81, co81, eo81⟩ := Kd.S_slice HO348.out; subst eo81; have p349 : 0 ≤ ((ji73) : Int) := of_decide_eq_true asm; have q349 : (ji73) < (y346.length : Int) := of_decide_eq_true asm; obtain ⟨ad349, A349_0, c349_0, e349, hx349_0, hl349_0, hi349_0⟩ := at_L2 (Kd.S_reads' HO348.out).2.2 (ji73) p349 q349; cases e349; obtain ⟨ce349, hce349, hMe349, hcc349⟩ := Kd.S_get HO348.out [] (ji73) p349 (by first | exact q349 | exact of_decide_eq_true asm | (have e_ := (Kd.S_reads' HO348.out).1; omega)); obtain ⟨ve349_0, rfl, ge349_0⟩ := hMe349; have hv349_0 := hcc349 0 _ rfl; rw [Nat.add_zero, show ((Kd.slice 5 (Kd.int .u8))).sz = 1 from rfl, Nat.mul_one] at hv349_0; replace hv349_0 := Option.some.inj (hv349_0.symm.trans hx349_0); rw [hv349_0] at ge349_0; have HL349_0 := Aside0.mk (show Kd.R (Kd.int .u8) 5 _ _ _ _ (rd_L2 y346 (ji73)) from ge349_0); clear hv349_0 ge349_0; clear hcc349 hce349; have HR349_0 := Aside0.mk hi349_0; have HC349_0 := Aside0.mk hl349_0; clear hi349_0 hl349_0; replace p349 := eq_true p349; replace q349 := eq_true q349) | (go_at_call 29; (with_reducible refine (impl_Digest.calls a0 _ _ (rd_L2 y346 (ji73)) t350 _ ?side1 ?side2 A76.out).mono ?_); (case side1 => repeat (first | exact (by repeat (first | (with_reducible exact HR349_0.out) | (with_reducible refine Kd.C_alloc ?_ _) | (with_reducible refine Kd.C_drewN ?_ _) | (with_reducible refine Kd.C_drew ?_) | exact HR349_0.out)) | (with_reducible refine Kd.C_alloc ?_ _) | (with_reducible refine Kd.C_drewN ?_ _) | (with_reducible refine Kd.C_drew ?_))); (case side2 => exact HC349_0.out); rintro e w82 ⟨rfl, hb⟩; (try (replace HM13 := Aside0.mk (MR_below (by (with_reducible repeat (first | apply MR_alloc | apply MR_drewN | apply MR_drew)); exact HM13.out) hb))); (try (replace HM17 := Aside0.mk (MR_below (by (with_reducible repeat (first | apply MR_alloc | apply MR_drewN | apply MR_drew)); exact HM17.out) hb))); replace HO_2 := Aside0.mk (Kd.V_below (mv HO_2.out) hb); replace HO_4 := Aside0.mk (Kd.V_below (mv HO_4.out) hb); replace HO_85 := Aside0.mk (Kd.V_below (mv HO_85.out) hb); replace HO348 := Aside0.mk (Kd.S_below (mv HO348.out) hb); replace HL349_0 := Aside0.mk (Kd.R_below (mv HL349_0.out) hb); replace HR349_0 := Aside0.mk (Kd.C_below (by repeat (first | (with_reducible exact HR349_0.out) | (with_reducible refine Kd.C_alloc ?_ _) | (with_reducible refine Kd.C_drewN ?_ _) | (with_reducible refine Kd.C_drew ?_) | exact HR349_0.out)) hb); replace HB := Aside0.mk (below_step (bt) hb); (try clear hb); (try clear hb2); (try clear hk); (try clear hi)) | (at_mapUpdate; refine wp_mput rfl rfl _ _ _ rfl rfl rfl rfl (by (with_reducible repeat (first | apply MR_alloc | apply MR_drewN | apply MR_drew)); exact HM17.out) A77.out ?_; intro wm hM_ ht_; (first | replace HO348 := Aside0.mk (V_turn (mv HO348.out) ht_) | replace HO348 := Aside0.mk (S_turn (mv HO348.out) ht_)); (first | replace HO_2 := Aside0.mk (V_turn (mv HO_2.out) ht_) | replace HO_2 := Aside0.mk (S_turn (mv HO_2.out) ht_)); (first | replace HO_4 := Aside0.mk (V_turn (mv HO_4.out) ht_) | replace HO_4 := Aside0.mk (S_turn (mv HO_4.out) ht_)); (first | replace HO_85 := Aside0.mk (V_turn (mv HO_85.out) ht_) | replace HO_85 := Aside0.mk (S_turn (mv HO_85.out) ht_)); replace HM13 := Aside0.mk (MR_turn (by (with_reducible repeat (first | apply MR_alloc | apply MR_drewN | apply MR_drew)); exact HM13.out) ht_ HNE.out); replace HB := Aside0.mk (below_turn (bt) ht_); replace HM17 := Aside0.mk hM_; clear hM_ ht_)))
                     go_roundg kj40
                     case measure => have := HJ5.out; have := HK2.out; have := HK3.out; have := HK4.out; have := HJ40.out; omega
                     case rel => exact ⟨(x4_40), (y346), (t351), (wrap64 (x87_4 + 1)), (by first | rfl | (simp; done) | (simp [*]; done)), H', ⟨by have := HJ5.out; have := HK2.out; have := HK3.out; have := HK4.out; have := HJ40.out; omega⟩, ⟨by (with_reducible repeat (first | apply Kd.V_alloc | apply Kd.V_drewN | apply Kd.V_drew)); exact Kd.V_mono HO_2.out (fun _ hk => ⟨hk.1.1, hk.2⟩)⟩, ⟨by (with_reducible repeat (first | apply Kd.V_alloc | apply Kd.V_drewN | apply Kd.V_drew)); exact Kd.V_mono HO_4.out (fun _ hk => ⟨hk.1.1, hk.2⟩)⟩, ⟨mv HO348.out⟩, ⟨by (with_reducible repeat (first | apply Kd.V_alloc | apply Kd.V_drewN | apply Kd.V_drew)); exact Kd.V_mono HO_85.out (fun _ hk => ⟨hk.1.1, hk.2⟩)⟩, ⟨bt⟩, ⟨(by (with_reducible repeat (first | apply MR_alloc | apply MR_drewN | apply MR_drew)); exact HM13.out)⟩, ⟨(by (with_reducible repeat (first | apply MR_alloc | apply MR_drewN | apply MR_drew)); exact HM17.out)⟩, HNE⟩
                    ·rw [if_neg c75] at H
                     exact absurd H (by simp)
                   ·rw [if_neg c74] at H
                    exact absurd H (by simp)
                  ·rw [if_neg c72] at H
                   exact absurd H (by simp)
              ·rw [if_neg c39] at H
               exact absurd H (by simp)
             ·rw [if_neg c38] at H
              exact absurd H (by simp)
            ·rw [if_neg c37] at H
             have c37b0 : decide (x87_4 < (x2_3.length : Int)) = false := decide_eq_false c37
             clear c37
             replace H := Option.bind_eq_some_iff.mp H
             obtain ⟨t319, A830, H⟩ := H
             (try dsimp -simprocs only at H)
             have A83 := Aside0.mk A830
             clear A830
             have H' := Aside0.mk H
             clear H
             go_wp2_with (first | (go_at_call 96; (with_reducible refine (impl_above.calls _ _ x2_3 t319 _ ?side1 ?side2 A83.out).mono ?_); (case side1 => exact cv ((Kd.V_reads' HO_2.out).2.2)); (case side2 => exact (Kd.V_reads' HO_2.out).2.1); rintro e w84 ⟨v320, rfl, ho0, hb⟩; (try (replace HM13 := Aside0.mk (MR_below (by (with_reducible repeat (first | apply MR_alloc | apply MR_drewN | apply MR_drew)); exact HM13.out) hb))); (try (replace HM17 := Aside0.mk (MR_below (by (with_reducible repeat (first | apply MR_alloc | apply MR_drewN | apply MR_drew)); exact HM17.out) hb))); replace HO_2 := Aside0.mk (Kd.V_elder' (mv HO_2.out) (Kd.R_base ho0) hb); replace HO_4 := Aside0.mk (Kd.V_elder' (mv HO_4.out) (Kd.R_base ho0) hb); replace HO_12 := Aside0.mk (Kd.S_below (mv HO_12.out) hb); replace HO_85 := Aside0.mk (Kd.V_elder' (mv HO_85.out) (Kd.R_base ho0) hb); have HO321 := Aside0.mk (Kd.R_lower (Kd.R_newM (M := fun k_ => (w.heap.size ≤ k_)) ho0 (below_size (bt)) (fun k_ h_ => h_)) (below_size (bt))); replace HB := Aside0.mk (below_step (bt) hb); (try clear hb); (try clear hb2); (try clear hk); (try clear hi); (try clear ho0)))
             repeat (go_quiet (first | (go_at_call 96; (with_reducible refine (impl_above.calls _ _ x2_3 t319 _ ?side1 ?side2 A83.out).mono ?_); (case side1 => exact cv ((Kd.V_reads' HO_2.out).2.2)); (case side2 => exact (Kd.V_reads' HO_2.out).2.1); rintro e w84 ⟨v320, rfl, ho0, hb⟩; (try (replace HM13 := Aside0.mk (MR_below (by (with_reducible repeat (first | apply MR_alloc | apply MR_drewN | apply MR_drew)); exact HM13.out) hb))); (try (replace HM17 := Aside0.mk (MR_below (by (with_reducible repeat (first | apply MR_alloc | apply MR_drewN | apply MR_drew)); exact HM17.out) hb))); replace HO_2 := Aside0.mk (Kd.V_elder' (mv HO_2.out) (Kd.R_base ho0) hb); replace HO_4 := Aside0.mk (Kd.V_elder' (mv HO_4.out) (Kd.R_base ho0) hb); replace HO_12 := Aside0.mk (Kd.S_below (mv HO_12.out) hb); replace HO_85 := Aside0.mk (Kd.V_elder' (mv HO_85.out) (Kd.R_base ho0) hb); have HO321 := Aside0.mk (Kd.R_lower (Kd.R_newM (M := fun k_ => (w.heap.size ≤ k_)) ho0 (below_size (bt)) (fun k_ h_ => h_)) (below_size (bt))); replace HB := Aside0.mk (below_step (bt) hb); (try clear hb); (try clear hb2); (try clear hk); (try clear hi); (try clear ho0))); try go_wp2_with (first | (go_at_call 96; (with_reducible refine (impl_above.calls _ _ x2_3 t319 _ ?side1 ?side2 A83.out).mono ?_); (case side1 => exact cv ((Kd.V_reads' HO_2.out).2.2)); (case side2 => exact (Kd.V_reads' HO_2.out).2.1); rintro e w84 ⟨v320, rfl, ho0, hb⟩; (try (replace HM13 := Aside0.mk (MR_below (by (with_reducible repeat (first | apply MR_alloc | apply MR_drewN | apply MR_drew)); exact HM13.out) hb))); (try (replace HM17 := Aside0.mk (MR_below (by (with_reducible repeat (first | apply MR_alloc | apply MR_drewN | apply MR_drew)); exact HM17.out) hb))); replace HO_2 := Aside0.mk (Kd.V_elder' (mv HO_2.out) (Kd.R_base ho0) hb); replace HO_4 := Aside0.mk (Kd.V_elder' (mv HO_4.out) (Kd.R_base ho0) hb); replace HO_12 := Aside0.mk (Kd.S_below (mv HO_12.out) hb); replace HO_85 := Aside0.mk (Kd.V_elder' (mv HO_85.out) (Kd.R_base ho0) hb); have HO321 := Aside0.mk (Kd.R_lower (Kd.R_newM (M := fun k_ => (w.heap.size ≤ k_)) ho0 (below_size (bt)) (fun k_ h_ => h_)) (below_size (bt))); replace HB := Aside0.mk (below_step (bt) hb); (try clear hb); (try clear hb2); (try clear hk); (try clear hi); (try clear ho0))))
             go_roundg k4
             case measure => have := HJ5.out; have := HK2.out; have := HK3.out; have := HK4.out; omega
             case rel => exact ⟨(t319), (x4_4), (x12_4), (x17_4), _, (wrap64 (Int.tdiv (wrap64 (x16_3 + 1)) 2)), (by first | rfl | (simp; done) | (simp [*]; done)), (by first | rfl | (simp; done) | (simp [*]; done)), H', ⟨by have := HJ5.out; have := HK2.out; have := HK3.out; have := HK4.out; omega⟩, ⟨by have hR_ := (Kd.R_apart' HO321.out (Kd.S_typed HO_12.out) (by decide)); exact Kd.V_mono (Kd.R_V hR_) (fun k_ hk => ⟨.inr hk.1.1, hk.2⟩)⟩, ⟨by (with_reducible repeat (first | apply Kd.V_alloc | apply Kd.V_drewN | apply Kd.V_drew)); exact Kd.V_mono HO_4.out (fun _ hk => ⟨hk.1.1, hk.1.2⟩)⟩, ⟨mv HO_12.out⟩, ⟨bt⟩, ⟨(by (with_reducible repeat (first | apply MR_alloc | apply MR_drewN | apply MR_drew)); exact HM17.out)⟩⟩
         ·rw [if_neg c34] at H
          have c34b0 : decide (1 < x16_3) = false := decide_eq_false c34
          clear c34
          replace H := Option.bind_eq_some_iff.mp H
          obtain ⟨t311, A850, H⟩ := H
          (try dsimp -simprocs only at H)
          have A85 := Aside0.mk A850
          clear A850
          replace H := Option.bind_eq_some_iff.mp H
          obtain ⟨t312, A860, H⟩ := H
          (try dsimp -simprocs only at H)
          have A86 := Aside0.mk A860
          clear A860
          by_cases c87 : x12_3.length < 5864062014805
          ·rw [if_pos c87] at H
           have LMc87 := Aside0.mk c87
           clear c87
           obtain ⟨y315, hy315⟩ : ∃ y_ : List (List Int), y_ = (x12_3 ++ [t312]) := ⟨_, rfl⟩
           replace H : (some (y315, ((x4_3.length : Int) == 0))) = some (r1, r2) := by first | (rw [hy315]; exact H) | exact H
           have Ny315 := Aside0.mk hy315
           clear hy315
           simp only [Option.some.injEq, Prod.mk.injEq] at H
           obtain ⟨rfl, rfl⟩ := H
           go_wp2_with (first | (at_lookup; refine wp_mget rfl _ _ rfl rfl rfl (by (with_reducible repeat (first | apply MR_alloc | apply MR_drewN | apply MR_drew)); exact HM13.out) A85.out ?_) | (go_at_call 104; (with_reducible refine (impl_topInput.calls k3 a1 t311 t312 _ A86.out).mono ?_); rintro e w88 ⟨v313, rfl, ho0, hb⟩; (try (replace HM13 := Aside0.mk (MR_below (by (with_reducible repeat (first | apply MR_alloc | apply MR_drewN | apply MR_drew)); exact HM13.out) hb))); (try (replace HM17 := Aside0.mk (MR_below (by (with_reducible repeat (first | apply MR_alloc | apply MR_drewN | apply MR_drew)); exact HM17.out) hb))); replace HO_2 := Aside0.mk (Kd.V_elder' (mv HO_2.out) (Kd.R_base ho0) hb); replace HO_4 := Aside0.mk (Kd.V_elder' (mv HO_4.out) (Kd.R_base ho0) hb); replace HO_12 := Aside0.mk (Kd.S_elder' (mv HO_12.out) (Kd.R_base ho0) hb); have HO314 := Aside0.mk (Kd.R_lower (Kd.R_newM (M := fun k_ => (w.heap.size ≤ k_)) ho0 (below_size (bt)) (fun k_ h_ => h_)) (below_size (bt))); replace HB := Aside0.mk (below_step (bt) hb); (try clear hb); (try clear hb2); (try clear hk); (try clear hi); (try clear ho0); obtain ⟨Ao90, co90, eo90⟩ := Kd.R_slice HO314.out; subst eo90) | ((with_reducible refine gate_builtin (b := .append) (xs := #[.tmp 162, .tmp 167]) rfl ?_); (try (refine gate_guard (by rfl) ?_; dsimp only)); at_builtin; refine Kd.S_append (Kd.slice 5 (Kd.int .u8)) (w0 := w) w.heap.size rfl (.tmp 162) (.tmp 167) 30 22 (.slice none 0 0) 24 rfl Try.underlying30 info22 rfl (by decide) (by omega) u12 x12_3 t312 [.slice Ao90 t312.length co90] (fun k_ => (w.heap.size ≤ k_)) (fun k_ => some k_ = (.slice Ao90 t312.length co90 : Value).ownBlock) rfl rfl ?aP (fun k_ hk_ => ((Kd.R_mono (ok' := fun k_ => ((fun k_ => (w.heap.size ≤ k_))) k_ ∧ some k_ ≠ (u12 : Value).ownBlock) (Kd.R_apart' (HO314.out) (Kd.S_typed HO_12.out) (by decide)) (fun k_ hk => ⟨hk.1.1, hk.2⟩))).1 k_ hk_.symm) ?aF ?aO ?aB ?aS ?aL ?_; (case aP => exact Kd.M_row (Kd.R_mono (Kd.R_tight rfl (Kd.R_mono (ok' := fun k_ => ((fun k_ => (w.heap.size ≤ k_))) k_ ∧ some k_ ≠ (u12 : Value).ownBlock) (Kd.R_apart' (HO314.out) (Kd.S_typed HO_12.out) (by decide)) (fun k_ hk => ⟨hk.1.1, hk.2⟩))) (fun _ h_ => h_))); (case aB => exact (bt)); (case aF => exact (fun k_ hk => (Nat.le_trans (below_size (bt)) hk))); (case aO => exact (by (with_reducible repeat (first | apply Kd.S_alloc | apply Kd.S_drewN | apply Kd.S_drew)); exact Kd.S_mono HO_12.out (fun k_ hk => ⟨hk.1, fun e_ => hk.2 e_⟩))); (case aS => exact (below_size (bt))); (case aL => have := LMc87.out; omega); intro v316 w89 ho hb hg hat; (try (replace HM13 := Aside0.mk (MR_grown (by (with_reducible repeat (first | apply MR_alloc | apply MR_drewN | apply MR_drew)); exact HM13.out) hg (MR_ne HM13.out (Kd.S_typed (by (with_reducible repeat (first | apply Kd.S_alloc | apply Kd.S_drewN | apply Kd.S_drew)); exact HO_12.out)))))); (try (replace HM17 := Aside0.mk (MR_grown (by (with_reducible repeat (first | apply MR_alloc | apply MR_drewN | apply MR_drew)); exact HM17.out) hg (MR_ne HM17.out (Kd.S_typed (by (with_reducible repeat (first | apply Kd.S_alloc | apply Kd.S_drewN | apply Kd.S_drew)); exact HO_12.out)))))); rw [← Ny315.out] at ho; replace HO_2 := Aside0.mk (Kd.V_afterv (ok := (fun k_ => ((P2_ k_ ∨ P4_ k_) ∨ w.heap.size ≤ k_) ∧ some k_ ≠ (.slice Ao90 t312.length co90 : Value).ownBlock)) (by (with_reducible repeat (first | apply Kd.V_alloc | apply Kd.V_drewN | apply Kd.V_drew)); exact Kd.V_mono HO_2.out (fun _ hk => ⟨⟨hk.1.1, hk.2⟩, hk.1.2⟩)) hg hat); replace HO_4 := Aside0.mk (Kd.V_afterv (ok := (fun k_ => ((P2_ k_ ∨ P4_ k_) ∨ w.heap.size ≤ k_) ∧ some k_ ≠ (.slice Ao90 t312.length co90 : Value).ownBlock)) (by (with_reducible repeat (first | apply Kd.V_alloc | apply Kd.V_drewN | apply Kd.V_drew)); exact Kd.V_mono HO_4.out (fun _ hk => ⟨⟨hk.1.1, hk.2⟩, hk.1.2⟩)) hg hat); replace HB := Aside0.mk (hb); have HO317 := Aside0.mk (ho); clear HO_12 HO314; clear ho hb hg hat; obtain ⟨Ao91, co91, eo91⟩ := Kd.V_slice HO_4.out; subst eo91))
           repeat (go_quiet (first | (at_lookup; refine wp_mget rfl _ _ rfl rfl rfl (by (with_reducible repeat (first | apply MR_alloc | apply MR_drewN | apply MR_drew)); exact HM13.out) A85.out ?_) | (go_at_call 104; (with_reducible refine (impl_topInput.calls k3 a1 t311 t312 _ A86.out).mono ?_); rintro e w88 ⟨v313, rfl, ho0, hb⟩; (try (replace HM13 := Aside0.mk (MR_below (by (with_reducible repeat (first | apply MR_alloc | apply MR_drewN | apply MR_drew)); exact HM13.out) hb))); (try (replace HM17 := Aside0.mk (MR_below (by (with_reducible repeat (first | apply MR_alloc | apply MR_drewN | apply MR_drew)); exact HM17.out) hb))); replace HO_2 := Aside0.mk (Kd.V_elder' (mv HO_2.out) (Kd.R_base ho0) hb); replace HO_4 := Aside0.mk (Kd.V_elder' (mv HO_4.out) (Kd.R_base ho0) hb); replace HO_12 := Aside0.mk (Kd.S_elder' (mv HO_12.out) (Kd.R_base ho0) hb); have HO314 := Aside0.mk (Kd.R_lower (Kd.R_newM (M := fun k_ => (w.heap.size ≤ k_)) ho0 (below_size (bt)) (fun k_ h_ => h_)) (below_size (bt))); replace HB := Aside0.mk (below_step (bt) hb); (try clear hb); (try clear hb2); (try clear hk); (try clear hi); (try clear ho0); obtain ⟨Ao90, co90, eo90⟩ := Kd.R_slice HO314.out; subst eo90) | ((with_reducible refine gate_builtin (b := .append) (xs := #[.tmp 162, .tmp 167]) rfl ?_); (try (refine gate_guard (by rfl) ?_; dsimp only)); at_builtin; refine Kd.S_append (Kd.slice 5 (Kd.int .u8)) (w0 := w) w.heap.size rfl (.tmp 162) (.tmp 167) 30 22 (.slice none 0 0) 24 rfl Try.underlying30 info22 rfl (by decide) (by omega) u12 x12_3 t312 [.slice Ao90 t312.length co90] (fun k_ => (w.heap.size ≤ k_)) (fun k_ => some k_ = (.slice Ao90 t312.length co90 : Value).ownBlock) rfl rfl ?aP (fun k_ hk_ => ((Kd.R_mono (ok' := fun k_ => ((fun k_ => (w.heap.size ≤ k_))) k_ ∧ some k_ ≠ (u12 : Value).ownBlock) (Kd.R_apart' (HO314.out) (Kd.S_typed HO_12.out) (by decide)) (fun k_ hk => ⟨hk.1.1, hk.2⟩))).1 k_ hk_.symm) ?aF ?aO ?aB ?aS ?aL ?_; (case aP => exact Kd.M_row (Kd.R_mono (Kd.R_tight rfl (Kd.R_mono (ok' := fun k_ => ((fun k_ => (w.heap.size ≤ k_))) k_ ∧ some k_ ≠ (u12 : Value).ownBlock) (Kd.R_apart' (HO314.out) (Kd.S_typed HO_12.out) (by decide)) (fun k_ hk => ⟨hk.1.1, hk.2⟩))) (fun _ h_ => h_))); (case aB => exact (bt)); (case aF => exact (fun k_ hk => (Nat.le_trans (below_size (bt)) hk))); (case aO => exact (by (with_reducible repeat (first | apply Kd.S_alloc | apply Kd.S_drewN | apply Kd.S_drew)); exact Kd.S_mono HO_12.out (fun k_ hk => ⟨hk.1, fun e_ => hk.2 e_⟩))); (case aS => exact (below_size (bt))); (case aL => have := LMc87.out; omega); intro v316 w89 ho hb hg hat; (try (replace HM13 := Aside0.mk (MR_grown (by (with_reducible repeat (first | apply MR_alloc | apply MR_drewN | apply MR_drew)); exact HM13.out) hg (MR_ne HM13.out (Kd.S_typed (by (with_reducible repeat (first | apply Kd.S_alloc | apply Kd.S_drewN | apply Kd.S_drew)); exact HO_12.out)))))); (try (replace HM17 := Aside0.mk (MR_grown (by (with_reducible repeat (first | apply MR_alloc | apply MR_drewN | apply MR_drew)); exact HM17.out) hg (MR_ne HM17.out (Kd.S_typed (by (with_reducible repeat (first | apply Kd.S_alloc | apply Kd.S_drewN | apply Kd.S_drew)); exact HO_12.out)))))); rw [← Ny315.out] at ho; replace HO_2 := Aside0.mk (Kd.V_afterv (ok := (fun k_ => ((P2_ k_ ∨ P4_ k_) ∨ w.heap.size ≤ k_) ∧ some k_ ≠ (.slice Ao90 t312.length co90 : Value).ownBlock)) (by (with_reducible repeat (first | apply Kd.V_alloc | apply Kd.V_drewN | apply Kd.V_drew)); exact Kd.V_mono HO_2.out (fun _ hk => ⟨⟨hk.1.1, hk.2⟩, hk.1.2⟩)) hg hat); replace HO_4 := Aside0.mk (Kd.V_afterv (ok := (fun k_ => ((P2_ k_ ∨ P4_ k_) ∨ w.heap.size ≤ k_) ∧ some k_ ≠ (.slice Ao90 t312.length co90 : Value).ownBlock)) (by (with_reducible repeat (first | apply Kd.V_alloc | apply Kd.V_drewN | apply Kd.V_drew)); exact Kd.V_mono HO_4.out (fun _ hk => ⟨⟨hk.1.1, hk.2⟩, hk.1.2⟩)) hg hat); replace HB := Aside0.mk (hb); have HO317 := Aside0.mk (ho); clear HO_12 HO314; clear ho hb hg hat; obtain ⟨Ao91, co91, eo91⟩ := Kd.V_slice HO_4.out; subst eo91)); try go_wp2_with (first | (at_lookup; refine wp_mget rfl _ _ rfl rfl rfl (by (with_reducible repeat (first | apply MR_alloc | apply MR_drewN | apply MR_drew)); exact HM13.out) A85.out ?_) | (go_at_call 104; (with_reducible refine (impl_topInput.calls k3 a1 t311 t312 _ A86.out).mono ?_); rintro e w88 ⟨v313, rfl, ho0, hb⟩; (try (replace HM13 := Aside0.mk (MR_below (by (with_reducible repeat (first | apply MR_alloc | apply MR_drewN | apply MR_drew)); exact HM13.out) hb))); (try (replace HM17 := Aside0.mk (MR_below (by (with_reducible repeat (first | apply MR_alloc | apply MR_drewN | apply MR_drew)); exact HM17.out) hb))); replace HO_2 := Aside0.mk (Kd.V_elder' (mv HO_2.out) (Kd.R_base ho0) hb); replace HO_4 := Aside0.mk (Kd.V_elder' (mv HO_4.out) (Kd.R_base ho0) hb); replace HO_12 := Aside0.mk (Kd.S_elder' (mv HO_12.out) (Kd.R_base ho0) hb); have HO314 := Aside0.mk (Kd.R_lower (Kd.R_newM (M := fun k_ => (w.heap.size ≤ k_)) ho0 (below_size (bt)) (fun k_ h_ => h_)) (below_size (bt))); replace HB := Aside0.mk (below_step (bt) hb); (try clear hb); (try clear hb2); (try clear hk); (try clear hi); (try clear ho0); obtain ⟨Ao90, co90, eo90⟩ := Kd.R_slice HO314.out; subst eo90) | ((with_reducible refine gate_builtin (b := .append) (xs := #[.tmp 162, .tmp 167]) rfl ?_); (try (refine gate_guard (by rfl) ?_; dsimp only)); at_builtin; refine Kd.S_append (Kd.slice 5 (Kd.int .u8)) (w0 := w) w.heap.size rfl (.tmp 162) (.tmp 167) 30 22 (.slice none 0 0) 24 rfl Try.underlying30 info22 rfl (by decide) (by omega) u12 x12_3 t312 [.slice Ao90 t312.length co90] (fun k_ => (w.heap.size ≤ k_)) (fun k_ => some k_ = (.slice Ao90 t312.length co90 : Value).ownBlock) rfl rfl ?aP (fun k_ hk_ => ((Kd.R_mono (ok' := fun k_ => ((fun k_ => (w.heap.size ≤ k_))) k_ ∧ some k_ ≠ (u12 : Value).ownBlock) (Kd.R_apart' (HO314.out) (Kd.S_typed HO_12.out) (by decide)) (fun k_ hk => ⟨hk.1.1, hk.2⟩))).1 k_ hk_.symm) ?aF ?aO ?aB ?aS ?aL ?_; (case aP => exact Kd.M_row (Kd.R_mono (Kd.R_tight rfl (Kd.R_mono (ok' := fun k_ => ((fun k_ => (w.heap.size ≤ k_))) k_ ∧ some k_ ≠ (u12 : Value).ownBlock) (Kd.R_apart' (HO314.out) (Kd.S_typed HO_12.out) (by decide)) (fun k_ hk => ⟨hk.1.1, hk.2⟩))) (fun _ h_ => h_))); (case aB => exact (bt)); (case aF => exact (fun k_ hk => (Nat.le_trans (below_size (bt)) hk))); (case aO => exact (by (with_reducible repeat (first | apply Kd.S_alloc | apply Kd.S_drewN | apply Kd.S_drew)); exact Kd.S_mono HO_12.out (fun k_ hk => ⟨hk.1, fun e_ => hk.2 e_⟩))); (case aS => exact (below_size (bt))); (case aL => have := LMc87.out; omega); intro v316 w89 ho hb hg hat; (try (replace HM13 := Aside0.mk (MR_grown (by (with_reducible repeat (first | apply MR_alloc | apply MR_drewN | apply MR_drew)); exact HM13.out) hg (MR_ne HM13.out (Kd.S_typed (by (with_reducible repeat (first | apply Kd.S_alloc | apply Kd.S_drewN | apply Kd.S_drew)); exact HO_12.out)))))); (try (replace HM17 := Aside0.mk (MR_grown (by (with_reducible repeat (first | apply MR_alloc | apply MR_drewN | apply MR_drew)); exact HM17.out) hg (MR_ne HM17.out (Kd.S_typed (by (with_reducible repeat (first | apply Kd.S_alloc | apply Kd.S_drewN | apply Kd.S_drew)); exact HO_12.out)))))); rw [← Ny315.out] at ho; replace HO_2 := Aside0.mk (Kd.V_afterv (ok := (fun k_ => ((P2_ k_ ∨ P4_ k_) ∨ w.heap.size ≤ k_) ∧ some k_ ≠ (.slice Ao90 t312.length co90 : Value).ownBlock)) (by (with_reducible repeat (first | apply Kd.V_alloc | apply Kd.V_drewN | apply Kd.V_drew)); exact Kd.V_mono HO_2.out (fun _ hk => ⟨⟨hk.1.1, hk.2⟩, hk.1.2⟩)) hg hat); replace HO_4 := Aside0.mk (Kd.V_afterv (ok := (fun k_ => ((P2_ k_ ∨ P4_ k_) ∨ w.heap.size ≤ k_) ∧ some k_ ≠ (.slice Ao90 t312.length co90 : Value).ownBlock)) (by (with_reducible repeat (first | apply Kd.V_alloc | apply Kd.V_drewN | apply Kd.V_drew)); exact Kd.V_mono HO_4.out (fun _ hk => ⟨⟨hk.1.1, hk.2⟩, hk.1.2⟩)) hg hat); replace HB := Aside0.mk (hb); have HO317 := Aside0.mk (ho); clear HO_12 HO314; clear ho hb hg hat; obtain ⟨Ao91, co91, eo91⟩ := Kd.V_slice HO_4.out; subst eo91)))
           go_ret2
           exact ⟨_, by first | rfl | (simp [errW_none, errW_some] <;> rfl) | (simp [*, errW_none, errW_some] <;> rfl), by (with_reducible repeat (first | apply Kd.S_alloc | apply Kd.S_drewN | apply Kd.S_drew)); exact HO317.out, bt⟩
          ·rw [if_neg c87] at H
           exact absurd H (by simp)

end Go.Proofs.Ytaacidhgnappdaa.PFnExactManyFrom
