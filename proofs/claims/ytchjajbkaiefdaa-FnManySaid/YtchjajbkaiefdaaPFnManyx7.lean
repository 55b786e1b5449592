-- Written by a program of this workplace (wip/mp.py) out of the translation.
import Derived.Test.YtchjajbkaiefdaaPFnManyx0
import Derived.Test.YtchjajbkaiefdaaPFnManyx1
import Derived.Test.YtchjajbkaiefdaaPFnManyx2
import Derived.Test.YtchjajbkaiefdaaPFnManyx3
import Derived.Test.YtchjajbkaiefdaaPFnManyx5
import Derived.Test.YtchjajbkaiefdaaPFnManyx6
namespace Go.Proofs.Ytchjajbkaiefdaa.PFnMany
open Go.RowKit Go.Proofs.YtchjajbkaiefdaaW.PrintWords Go.Proofs.YtchjajbkaiefdaaW.PrintLast Go.Proofs.YtchjajbkaiefdaaW.PrintMore Go.Proofs.Ytchjajbkaiefdaa.Slim
attribute [local go_sem] max2_int min2_int max_two min_two max_three min_three max_four min_four   -- for this text's walks alone
set_option linter.unusedVariables false
set_option linter.unusedSimpArgs false

/-! ### impl_climbMany: function 93 -/
mutual
def impl_climbMany.j0 : Nat → Int → Int → List Int → List (List Int) → List Int → Bool → Option ((List (List Int)) × Bool)
 | 0, _, _, _, _, _, _ => none
 | k + 1, x0, x1, x2, x3, x4, x51 => if x51 = true then (some (([] : List (List Int)), false)) else ((fake_mp_new.f).bind fun t297 => (impl_climbMany.l0 k x0 x1 x2 x4 (([] : List (List Int))) t297 x3 (x3.length : Int) 0))
def impl_climbMany.l0 : Nat → Int → Int → List Int → List Int → List (List Int) → Mp → List (List Int) → Int → Int → Option ((List (List Int)) × Bool)
 | 0, _, _, _, _, _, _, _, _, _ => none
 | k + 1, x0, x1, x2, x4, x12, x13, x54, x55, x56 => if x56 < x55 then (if 0 ≤ x56 then (if x56 < (x54.length : Int) then ((impl_leafInput.f (rd_L1 x54 x56)).bind fun t299 => (if x12.length < 5864062014805 then ((some (x12 ++ [t299] : List (List Int))).bind fun y302 => (if x56 < (x2.length : Int) then (if x56 < (y302.length : Int) then ((impl_Digest.f x0 (rd_L1 y302 x56)).bind fun t307 => ((fake_mp_put.f x13 (rd x2 x56) t307).bind fun t308 => (impl_climbMany.l0 k x0 x1 x2 x4 y302 t308 x54 x55 (wrap64 (x56 + 1))))) else (none)) else (none))) else (none))) else (none)) else (none)) else (impl_climbMany.l1 k x0 x1 x2 x4 x12 x13 x1)
def impl_climbMany.l1 : Nat → Int → Int → List Int → List Int → List (List Int) → Mp → Int → Option ((List (List Int)) × Bool)
 | 0, _, _, _, _, _, _, _ => none
 | k + 1, x0, x1, x2, x4, x12, x13, x16 => if x16 > 1 then ((fake_mp_new.f).bind fun t316 => (impl_climbMany.l2 k x0 x1 x2 x4 x12 x13 x16 t316 x2 (x2.length : Int) 0)) else ((fake_mp_get.f x13 0).bind fun t309 => ((impl_topInput.f k x1 t309).bind fun t310 => (if x12.length < 5864062014805 then (some ((x12 ++ [t310]), ((x4.length : Int) == 0))) else (none))))
def impl_climbMany.l2 : Nat → Int → Int → List Int → List Int → List (List Int) → Mp → Int → Mp → List Int → Int → Int → Option ((List (List Int)) × Bool)
 | 0, _, _, _, _, _, _, _, _, _, _, _ => none
 | k + 1, x0, x1, x2, x4, x12, x13, x16, x17, x85, x86, x87 => if x87 < x86 then (if 0 ≤ x87 then (if x87 < (x85.length : Int) then ((fake_mp_look.f x13 (Go.bits .xor .i64 (rd x85 x87) 1)).bind fun bt321 => (if (Go.bits .xor .i64 (rd x85 x87) 1) ≥ x16 then ((fake_mp_get.f x13 (rd x85 x87)).bind fun t323 => ((fake_mp_put.f x17 (wrap64 (Int.tdiv (rd x85 x87) 2)) t323).bind fun t324 => (impl_climbMany.l2 k x0 x1 x2 x4 x12 x13 x16 t324 x85 x86 (wrap64 (x87 + 1))))) else (if bt321.2 = true then (impl_climbMany.j4 k x0 x1 x2 x4 x12 x13 x16 x17 (rd x85 x87) bt321.1 bt321.2 x85 x86 x87 ((Int.tmod (rd x85 x87) 2) == 1)) else (impl_climbMany.j4 k x0 x1 x2 x4 x12 x13 x16 x17 (rd x85 x87) bt321.1 bt321.2 x85 x86 x87 false)))) else (none)) else (none)) else ((impl_above.f x2).bind fun t317 => (impl_climbMany.l1 k x0 x1 t317 x4 x12 x17 (wrap64 (Int.tdiv (wrap64 (x16 + 1)) 2))))
def impl_climbMany.j6 : Nat → Int → Int → List Int → List Int → List (List Int) → Mp → Int → Mp → Int → Int → List Int → Int → Int → Option ((List (List Int)) × Bool)
 | 0, _, _, _, _, _, _, _, _, _, _, _, _, _ => none
 | k + 1, x0, x1, x2, x4, x12, x13, x16, x17, x19, x20, x85, x86, x87 => (fake_mp_get.f x13 x19).bind fun t331 => (if (Int.tmod x19 2) = 1 then ((impl_nodeInput.f k x20 t331).bind fun t332 => (if x12.length < 5864062014805 then ((some (x12 ++ [t332] : List (List Int))).bind fun y335 => (if 0 ≤ (wrap64 ((y335.length : Int) - 1)) then (if (wrap64 ((y335.length : Int) - 1)) < (y335.length : Int) then ((impl_Digest.f x0 (rd_L1 y335 (wrap64 ((y335.length : Int) - 1)))).bind fun t339 => ((fake_mp_put.f x17 (wrap64 (Int.tdiv x19 2)) t339).bind fun t340 => (impl_climbMany.l2 k x0 x1 x2 x4 y335 x13 x16 t340 x85 x86 (wrap64 (x87 + 1))))) else (none)) else (none))) else (none))) else ((impl_nodeInput.f k t331 x20).bind fun t341 => (if x12.length < 5864062014805 then ((some (x12 ++ [t341] : List (List Int))).bind fun y344 => (if 0 ≤ (wrap64 ((y344.length : Int) - 1)) then (if (wrap64 ((y344.length : Int) - 1)) < (y344.length : Int) then ((impl_Digest.f x0 (rd_L1 y344 (wrap64 ((y344.length : Int) - 1)))).bind fun t348 => ((fake_mp_put.f x17 (wrap64 (Int.tdiv x19 2)) t348).bind fun t349 => (impl_climbMany.l2 k x0 x1 x2 x4 y344 x13 x16 t349 x85 x86 (wrap64 (x87 + 1))))) else (none)) else (none))) else (none))))
def impl_climbMany.j4 : Nat → Int → Int → List Int → List Int → List (List Int) → Mp → Int → Mp → Int → Int → Bool → List Int → Int → Int → Bool → Option ((List (List Int)) × Bool)
 | 0, _, _, _, _, _, _, _, _, _, _, _, _, _, _, _ => none
 | k + 1, x0, x1, x2, x4, x12, x13, x16, x17, x19, x20, x21, x85, x86, x87, x109 => if x109 = true then (impl_climbMany.l2 k x0 x1 x2 x4 x12 x13 x16 x17 x85 x86 (wrap64 (x87 + 1))) else (if x21 = true then (impl_climbMany.j5 k x0 x1 x2 x4 x12 x13 x16 x17 x19 x20 x21 x85 x86 x87 false) else (impl_climbMany.j5 k x0 x1 x2 x4 x12 x13 x16 x17 x19 x20 x21 x85 x86 x87 ((x4.length : Int) == 0)))
def impl_climbMany.j5 : Nat → Int → Int → List Int → List Int → List (List Int) → Mp → Int → Mp → Int → Int → Bool → List Int → Int → Int → Bool → Option ((List (List Int)) × Bool)
 | 0, _, _, _, _, _, _, _, _, _, _, _, _, _, _, _ => none
 | k + 1, x0, x1, x2, x4, x12, x13, x16, x17, x19, x20, x21, x85, x86, x87, x116 => if x116 = true then (some (([] : List (List Int)), false)) else (if x21 = true then (impl_climbMany.j6 k x0 x1 x2 x4 x12 x13 x16 x17 x19 x20 x85 x86 x87) else (if 0 < (x4.length : Int) then (if 1 ≤ (x4.length : Int) then (impl_climbMany.j6 k x0 x1 x2 (x4.drop 1) x12 x13 x16 x17 x19 (rd x4 0) x85 x86 x87) else (none)) else (none)))
end
def impl_climbMany.f (k : Nat) (a0 : Int) (a1 : Int) (l2 : List Int) (l3 : List (List Int)) (l4 : List Int) : Option ((List (List Int)) × Bool) := (impl_in.f a1 1 16).bind fun t290 => (if t290 = true then ((impl_placesOk.f k l2 a1).bind fun t291 => (if t291 = true then (if (l3.length : Int) = (l2.length : Int) then ((impl_leavesOk.f a0 l3).bind fun t292 => (if t292 = true then ((impl_digests.f a0 l4).bind fun t293 => (impl_climbMany.j0 k a0 a1 l2 l3 l4 (!t293))) else (impl_climbMany.j0 k a0 a1 l2 l3 l4 true))) else (impl_climbMany.j0 k a0 a1 l2 l3 l4 true)) else (impl_climbMany.j0 k a0 a1 l2 l3 l4 true))) else (impl_climbMany.j0 k a0 a1 l2 l3 l4 true))
def mp_T8 : Bool × List (List Nat × List Nat) := (true, [([], []), ([], []), ([], []), ([1, 2], [1, 2]), ([3], [3]), ([], []), ([], []), ([], []), ([6, 7], [6, 7]), ([8], [8]), ([5, 9], [5, 9]), ([0, 4, 10, 10, 0, 1, 2, 3, 4, 5, 6, 7, 8, 9, 10], [0, 4, 10])])
def mp_B8 : List Nat := [0, 0, 0, 6, 14, 0, 0, 0, 192, 448, 992, 2047]
theorem mp_tab8 : rtab .any (opsOf Try.f93 8) = mp_T8 := by kernel_rfl
theorem mp_bits8 : waitsOk mp_T8.2 mp_B8 = true := by kernel_rfl
set_option maxHeartbeats 8000000 in
set_option maxRecDepth 100000 in
theorem impl_climbMany.calls (k : Nat) (a0 : Int) (a1 : Int) (P2_ : Nat → Prop) (A2 : Option Addr) (c2 : Nat) (l2 : List Int) (A3 : Option Addr) (c3 : Nat) (l3 : List (List Int)) (P4_ : Nat → Prop) (A4 : Option Addr) (c4 : Nat) (l4 : List Int) (r1 : List (List Int)) (r2 : Bool) (w : World) (hs2 : Kd.V (Kd.int .i64) 3 w w.heap.size (fun k_ => P2_ k_) (.slice A2 l2.length c2) l2) (hr3 : Kd.C (Kd.slice 5 (Kd.int .u8)) w A3 l3.length l3) (hc3 : l3.length ≤ c3) (hs4 : Kd.V (Kd.int .i64) 3 w w.heap.size (fun k_ => P4_ k_) (.slice A4 l4.length c4) l4) (h : impl_climbMany.f k a0 a1 l2 l3 l4 = some (r1, r2)) :
  Calls Try.prog 93 #[.int .i64 a0, .int .i64 a1, .slice A2 l2.length c2, .slice A3 l3.length c3, .slice A4 l4.length c4] w fun e w' => ∃ v0_ : Value, e = .returned (.tuple #[v0_, .bool r2]) ∧ Kd.S (Kd.slice 5 (Kd.int .u8)) 22 w' w.heap.size (fun k_ => (w.heap.size ≤ k_)) v0_ r1 ∧ Below w.heap.size w w' := by
 have HO2 := am (show Kd.V (Kd.int .i64) 3 w w.heap.size (fun k_ => ((P2_ k_ ∨ P4_ k_) ∨ w.heap.size ≤ k_)) (.slice A2 l2.length c2) l2 from Kd.V_mono hs2 (fun k_ hk => .inl (.inl hk)))
 have HR3 := am hr3
 have HC3 := am hc3
 clear hr3 hc3
 have HO4 := am (show Kd.V (Kd.int .i64) 3 w w.heap.size (fun k_ => ((P2_ k_ ∨ P4_ k_) ∨ w.heap.size ≤ k_)) (.slice A4 l4.length c4) l4 from Kd.V_mono hs4 (fun k_ hk => .inl (.inr hk)))
 have HB := am (Below.refl w.heap.size w)
 have H : ((impl_in.f a1 1 16).bind fun t290 => (if t290 = true then ((impl_placesOk.f k l2 a1).bind fun t291 => (if t291 = true then (if (l3.length : Int) = (l2.length : Int) then ((impl_leavesOk.f a0 l3).bind fun t292 => (if t292 = true then ((impl_digests.f a0 l4).bind fun t293 => (impl_climbMany.j0 k a0 a1 l2 l3 l4 (!t293))) else (impl_climbMany.j0 k a0 a1 l2 l3 l4 true))) else (impl_climbMany.j0 k a0 a1 l2 l3 l4 true)) else (impl_climbMany.j0 k a0 a1 l2 l3 l4 true))) else (impl_climbMany.j0 k a0 a1 l2 l3 l4 true))) = some (r1, r2) := h
 clear h
 have HC6 := am H
 clear H
 go_enter Try.func93, Try.ntmps93
 go_upto_region 1 with (fail)
 go_cut [51] (fun v51 wc => ∃ (kq : Nat) (x51_5 : Bool), v51 = .bool x51_5 ∧ Aside0 (impl_climbMany.j0 kq a0 a1 l2 l3 l4 x51_5 = some (r1, r2)) ∧ Aside0 (kq ≤ k) ∧ Aside0 (Kd.V (Kd.int .i64) 3 wc w.heap.size (fun k_ => ((P2_ k_ ∨ P4_ k_) ∨ w.heap.size ≤ k_)) (.slice A2 l2.length c2) l2) ∧ Aside0 (Kd.V (Kd.int .i64) 3 wc w.heap.size (fun k_ => ((P2_ k_ ∨ P4_ k_) ∨ w.heap.size ≤ k_)) (.slice A4 l4.length c4) l4) ∧ Aside0 (Below w.heap.size w wc))
 case first =>
  have H := HC6.out
  clear HC6
  obtain ⟨t290, A7, H⟩ := bm H
  (try dsimp -simprocs only at H)
  by_cases c8 : t290 = true
  ·subst c8
   rw [if_pos rfl] at H
   obtain ⟨t291, A9, H⟩ := bm H
   (try dsimp -simprocs only at H)
   by_cases c10 : t291 = true
   ·subst c10
    rw [if_pos rfl] at H
    by_cases c11 : (l3.length : Int) = (l2.length : Int)
    ·rw [if_pos c11] at H
     have c11b0 : ((l3.length : Int) == (l2.length : Int)) = true := beq_iff_eq.mpr c11
     have c11b1 : ((l3.length : Int) != (l2.length : Int)) = false := bne_eq_false_iff_eq.mpr c11
     have c11b2 : (l3.length == l2.length) = true := by first | simpa using c11 | (simp at c11 ⊢; omega)
     clear c11
     (first | rw [c11b0] | (simp only [i64_w, i32_w]; rw [c11b0]) | skip)
     obtain ⟨t292, A12, H⟩ := bm H
     (try dsimp -simprocs only at H)
     by_cases c13 : t292 = true
     ·subst c13
      rw [if_pos rfl] at H
      obtain ⟨t293, A14, H⟩ := bm H
      (try dsimp -simprocs only at H)
      have H' := am H
      clear H
      go_wp2_with (first | (go_at_call 94; (with_reducible refine (impl_in.calls a1 1 16 true _ A7.out).mono ?_); rintro e w' ⟨rfl, ⟨nd, rfl⟩⟩; (try first | exact ⟨rfl, _, World.drewN_drewN _ _ _⟩ | exact ⟨rfl, _, Eq.trans (World.drewN_drewN _ _ _) (congrArg (World.drewN _) (Nat.add_assoc _ _ _))⟩)) | (go_at_call 89; (with_reducible refine (impl_placesOk.calls k _ _ l2 a1 true _ ?side1 ?side2 A9.out).mono ?_); (case side1 => exact cv ((Kd.V_reads' HO2.out).2.2)); (case side2 => exact (Kd.V_reads' HO2.out).2.1); rintro e w' ⟨rfl, ⟨nd, rfl⟩⟩; (try first | exact ⟨rfl, _, World.drewN_drewN _ _ _⟩ | exact ⟨rfl, _, Eq.trans (World.drewN_drewN _ _ _) (congrArg (World.drewN _) (Nat.add_assoc _ _ _))⟩)) | (go_at_call 55; (with_reducible refine (impl_leavesOk.calls a0 _ _ l3 true _ ?side1 ?side2 A12.out).mono ?_); (case side1 => exact cv ((Kd.C_below HR3.out (bt)))); (case side2 => exact HC3.out); rintro e w' ⟨rfl, ⟨nd, rfl⟩⟩; (try first | exact ⟨rfl, _, World.drewN_drewN _ _ _⟩ | exact ⟨rfl, _, Eq.trans (World.drewN_drewN _ _ _) (congrArg (World.drewN _) (Nat.add_assoc _ _ _))⟩)) | (go_at_call 106; (with_reducible refine (impl_digests.calls a0 _ _ l4 t293 _ ?side1 ?side2 A14.out).mono ?_); (case side1 => exact cv ((Kd.V_reads' HO4.out).2.2)); (case side2 => exact (Kd.V_reads' HO4.out).2.1); rintro e w15 ⟨rfl, hb⟩; (try (replace HM13 := am (MR_below (by (with_reducible repeat (first | apply MR_alloc | apply MR_drewN | apply MR_drew)); exact HM13.out) hb))); (try (replace HM17 := am (MR_below (by (with_reducible repeat (first | apply MR_alloc | apply MR_drewN | apply MR_drew)); exact HM17.out) hb))); replace HO2 := am (Kd.V_below (mv HO2.out) hb); replace HO4 := am (Kd.V_below (mv HO4.out) hb); replace HB := am (below_step (bt) hb); (try clear hb); (try clear hb2); (try clear hk); (try clear hi)))
      go_meet
      case rel => exact ⟨_, (!t293), e0, H', ⟨by first | omega | exact Nat.le_refl _⟩, ⟨mv HO2.out⟩, ⟨mv HO4.out⟩, ⟨bt⟩⟩
     ·replace c13 := Bool.eq_false_iff.mpr c13
      subst c13
      rw [if_neg nft] at H
      have H' := am H
      clear H
      go_wp2_with (first | (go_at_call 94; (with_reducible refine (impl_in.calls a1 1 16 true _ A7.out).mono ?_); rintro e w' ⟨rfl, ⟨nd, rfl⟩⟩; (try first | exact ⟨rfl, _, World.drewN_drewN _ _ _⟩ | exact ⟨rfl, _, Eq.trans (World.drewN_drewN _ _ _) (congrArg (World.drewN _) (Nat.add_assoc _ _ _))⟩)) | (go_at_call 89; (with_reducible refine (impl_placesOk.calls k _ _ l2 a1 true _ ?side1 ?side2 A9.out).mono ?_); (case side1 => exact cv ((Kd.V_reads' HO2.out).2.2)); (case side2 => exact (Kd.V_reads' HO2.out).2.1); rintro e w' ⟨rfl, ⟨nd, rfl⟩⟩; (try first | exact ⟨rfl, _, World.drewN_drewN _ _ _⟩ | exact ⟨rfl, _, Eq.trans (World.drewN_drewN _ _ _) (congrArg (World.drewN _) (Nat.add_assoc _ _ _))⟩)) | (go_at_call 55; (with_reducible refine (impl_leavesOk.calls a0 _ _ l3 false _ ?side1 ?side2 A12.out).mono ?_); (case side1 => exact cv ((Kd.C_below HR3.out (bt)))); (case side2 => exact HC3.out); rintro e w' ⟨rfl, ⟨nd, rfl⟩⟩; (try first | exact ⟨rfl, _, World.drewN_drewN _ _ _⟩ | exact ⟨rfl, _, Eq.trans (World.drewN_drewN _ _ _) (congrArg (World.drewN _) (Nat.add_assoc _ _ _))⟩)))
      go_meet
      case rel => exact ⟨_, (true), e0, H', ⟨by first | omega | exact Nat.le_refl _⟩, ⟨mv HO2.out⟩, ⟨mv HO4.out⟩, ⟨bt⟩⟩
    ·rw [if_neg c11] at H
     have c11b0 : ((l3.length : Int) == (l2.length : Int)) = false := beq_eq_false_iff_ne.mpr c11
     have c11b1 : ((l3.length : Int) != (l2.length : Int)) = true := bne_iff_ne.mpr c11
     have c11b2 : (l3.length == l2.length) = false := by first | simpa using c11 | (simp at c11 ⊢; omega)
     (first | rw [c11b0] | (simp only [i64_w, i32_w]; rw [c11b0]) | skip)
     have H' := am H
     clear H
     go_wp2_with (first | (go_at_call 94; (with_reducible refine (impl_in.calls a1 1 16 true _ A7.out).mono ?_); rintro e w' ⟨rfl, ⟨nd, rfl⟩⟩; (try first | exact ⟨rfl, _, World.drewN_drewN _ _ _⟩ | exact ⟨rfl, _, Eq.trans (World.drewN_drewN _ _ _) (congrArg (World.drewN _) (Nat.add_assoc _ _ _))⟩)) | (go_at_call 89; (with_reducible refine (impl_placesOk.calls k _ _ l2 a1 true _ ?side1 ?side2 A9.out).mono ?_); (case side1 => exact cv ((Kd.V_reads' HO2.out).2.2)); (case side2 => exact (Kd.V_reads' HO2.out).2.1); rintro e w' ⟨rfl, ⟨nd, rfl⟩⟩; (try first | exact ⟨rfl, _, World.drewN_drewN _ _ _⟩ | exact ⟨rfl, _, Eq.trans (World.drewN_drewN _ _ _) (congrArg (World.drewN _) (Nat.add_assoc _ _ _))⟩)))
     go_meet
     case rel => exact ⟨_, (true), e0, H', ⟨by first | omega | exact Nat.le_refl _⟩, ⟨mv HO2.out⟩, ⟨mv HO4.out⟩, ⟨bt⟩⟩
   ·replace c10 := Bool.eq_false_iff.mpr c10
    subst c10
    rw [if_neg nft] at H
    have H' := am H
    clear H
    go_wp2_with (first | (go_at_call 94; (with_reducible refine (impl_in.calls a1 1 16 true _ A7.out).mono ?_); rintro e w' ⟨rfl, ⟨nd, rfl⟩⟩; (try first | exact ⟨rfl, _, World.drewN_drewN _ _ _⟩ | exact ⟨rfl, _, Eq.trans (World.drewN_drewN _ _ _) (congrArg (World.drewN _) (Nat.add_assoc _ _ _))⟩)) | (go_at_call 89; (with_reducible refine (impl_placesOk.calls k _ _ l2 a1 false _ ?side1 ?side2 A9.out).mono ?_); (case side1 => exact cv ((Kd.V_reads' HO2.out).2.2)); (case side2 => exact (Kd.V_reads' HO2.out).2.1); rintro e w' ⟨rfl, ⟨nd, rfl⟩⟩; (try first | exact ⟨rfl, _, World.drewN_drewN _ _ _⟩ | exact ⟨rfl, _, Eq.trans (World.drewN_drewN _ _ _) (congrArg (World.drewN _) (Nat.add_assoc _ _ _))⟩)))
    go_meet
    case rel => exact ⟨_, (true), e0, H', ⟨by first | omega | exact Nat.le_refl _⟩, ⟨mv HO2.out⟩, ⟨mv HO4.out⟩, ⟨bt⟩⟩
  ·replace c8 := Bool.eq_false_iff.mpr c8
   subst c8
   rw [if_neg nft] at H
   have H' := am H
   clear H
   go_wp2_with (first | (go_at_call 94; (with_reducible refine (impl_in.calls a1 1 16 false _ A7.out).mono ?_); rintro e w' ⟨rfl, ⟨nd, rfl⟩⟩; (try first | exact ⟨rfl, _, World.drewN_drewN _ _ _⟩ | exact ⟨rfl, _, Eq.trans (World.drewN_drewN _ _ _) (congrArg (World.drewN _) (Nat.add_assoc _ _ _))⟩)))
   go_meet
   case rel => exact ⟨_, (true), e0, H', ⟨by first | omega | exact Nat.le_refl _⟩, ⟨mv HO2.out⟩, ⟨mv HO4.out⟩, ⟨bt⟩⟩
 case rest =>
  clear HC6
  obtain ⟨kq, x51_5, rfl, HA, HJ5, HO_2, HO_4, HB⟩ := hcut
  cases kq with
  | zero => exact absurd HA.out (by simp [impl_climbMany.j0])
  | succ kj5 =>
   have H := HA.out
   clear HA
   simp only [impl_climbMany.j0] at H
   by_cases c16 : x51_5 = true
   ·subst c16
    rw [if_pos rfl] at H
    simp only [Option.some.injEq, Prod.mk.injEq] at H
    obtain ⟨rfl, rfl⟩ := H
    go_wp2
    go_ret2
    exact ⟨_, by first | rfl | (simp [errW_none, errW_some] <;> rfl) | (simp [*, errW_none, errW_some] <;> rfl), by first | exact Kd.S_nil _ _ _ _ _ | exact Kd.N_nil _ _ _ _ _ | exact Kd.V_nil _ _ _ _ _ | exact Kd.Q_nil _ _ _ _ _ | exact Kd.R_nil _ _ _ _ _, bt⟩
   ·replace c16 := Bool.eq_false_iff.mpr c16
    subst c16
    rw [if_neg nft] at H
    obtain ⟨y294, hy294⟩ : ∃ y_ : List (List Int), y_ = (([] : List (List Int))) := ⟨_, rfl⟩
    replace H : ((fake_mp_new.f).bind fun t297 => (impl_climbMany.l0 kj5 a0 a1 l2 l4 y294 t297 l3 (l3.length : Int) 0)) = some (r1, r2) := by first | (rw [hy294]; exact H) | exact H
    have Ny294 := am hy294
    clear hy294
    obtain ⟨t297, A17, H⟩ := bm H
    (try dsimp -simprocs only at H)
    have H' := am H
    clear H
    go_wp2_with (first | ((with_reducible refine gate_dst (N := 52) rfl ?_); (try (refine gate_guard (by rfl) ?_; dsimp only)); refine Kd.S_lit (Kd.slice 5 (Kd.int .u8)) _ 22 ?hg (N := 52) ?hd (xs := ([] : List (List Int))) (inner := []) (ok := fun _ => True) (okp := fun _ => True) ?hr ?hp (fun _ hk => hk) trivial (Below.refl _ _) (Nat.le_refl _) (by simp) ?_; (case hd => rfl); (case hg => rfl); (case hr => first | (go_simp; done) | (go_simp; rfl)); (case hp => exact (Reps.none _ _)); intro v295 w18 ho19 hb hg_ hnew_; (try (replace HM13 := am (MR_below (by (with_reducible repeat (first | apply MR_alloc | apply MR_drewN | apply MR_drew)); exact HM13.out) hb))); (try (replace HM17 := am (MR_below (by (with_reducible repeat (first | apply MR_alloc | apply MR_drewN | apply MR_drew)); exact HM17.out) hb))); clear hg_ hnew_; (first | rw [← Ny294.out] at ho19 | (simp only [Int.reduceToNat] at ho19; rw [← Ny294.out] at ho19)); replace HO_2 := am (Kd.V_elder' (mv HO_2.out) (Kd.S_base ho19) hb); replace HO_4 := am (Kd.V_elder' (mv HO_4.out) (Kd.S_base ho19) hb); have HO296 := am (Kd.S_lower (Kd.S_newM (M := fun k_ => (w.heap.size ≤ k_)) ho19 (below_size (bt)) (fun k_ h_ => h_)) (below_size (bt))); replace HB := am (below_step (bt) hb); clear hb ho19) | ((with_reducible refine gate_dst (N := 53) rfl ?_); refine wp_mnew rfl rfl rfl w.heap.size (below_size (bt)) ?_; intro b13 wm hbn_ hM_ hb hne_; obtain rfl := Option.some.inj A17.out; (try (replace HO_2 := am (Kd.V_below (mv HO_2.out) hb))); (try (replace HO_4 := am (Kd.V_below (mv HO_4.out) hb))); (try (replace HO_12 := am (Kd.S_below (mv HO_12.out) hb))); (try (replace HO296 := am (Kd.S_below (mv HO296.out) hb))); replace HB := am (below_step (bt) hb); have HM13 := am hM_; clear hM_ hb hne_; clear hbn_))
    go_loopg [12, 56] kj5 (fun kq v12 v56 w' => ∃ (x12_2 : List (List Int)) (x13_2 : Mp) (x56_2 : Int), v56 = .int .i64 x56_2 ∧ Aside0 (impl_climbMany.l0 kq a0 a1 l2 l4 x12_2 x13_2 l3 (l3.length : Int) x56_2 = some (r1, r2)) ∧ Aside0 (kq ≤ kj5) ∧ Aside0 (Kd.V (Kd.int .i64) 3 w' w.heap.size (fun k_ => ((P2_ k_ ∨ P4_ k_) ∨ w.heap.size ≤ k_) ∧ nb k_ v12) (.slice A2 l2.length c2) l2) ∧ Aside0 (Kd.V (Kd.int .i64) 3 w' w.heap.size (fun k_ => ((P2_ k_ ∨ P4_ k_) ∨ w.heap.size ≤ k_) ∧ nb k_ v12) (.slice A4 l4.length c4) l4) ∧ Aside0 (Kd.S (Kd.slice 5 (Kd.int .u8)) 22 w' w.heap.size (fun k_ => (w.heap.size ≤ k_)) v12 x12_2) ∧ Aside0 (Below w.heap.size w w') ∧ Aside0 (MR w' w.heap.size b13 x13_2))
    case atStart => exact ⟨(y294), _, (0), e0, H', ⟨Nat.le_refl _⟩, ⟨mv HO_2.out⟩, ⟨mv HO_4.out⟩, ⟨rS (h := by exact Kd.S_mono HO296.out (fun _ hk => hk.1))⟩, ⟨bt⟩, ⟨(by (with_reducible repeat (first | apply MR_alloc | apply MR_drewN | apply MR_drew)); exact HM13.out)⟩⟩
    case round =>
     clear H'
     obtain ⟨x12_2, x13_2, x56_2, rfl, HA, HK2, HO_2, HO_4, HO_12, HB, HM13⟩ := hrel
     cases gk with
     | zero => exact absurd HA.out (by simp [impl_climbMany.l0])
     | succ k2 =>
      have H := HA.out
      clear HA
      simp only [impl_climbMany.l0] at H
      by_cases c20 : x56_2 < (l3.length : Int)
      ·rw [if_pos c20] at H
       have c20b0 : decide (x56_2 < (l3.length : Int)) = true := decide_eq_true c20
       clear c20
       by_cases c21 : 0 ≤ x56_2
       ·rw [if_pos c21] at H
        have c21b0 : decide (0 ≤ x56_2) = true := decide_eq_true c21
        clear c21
        by_cases c22 : x56_2 < (l3.length : Int)
        ·rw [if_pos c22] at H
         have c22b0 : decide (x56_2 < (l3.length : Int)) = true := decide_eq_true c22
         clear c22
         obtain ⟨t299, A23, H⟩ := bm H
         (try dsimp -simprocs only at H)
         by_cases c24 : x12_2.length < 5864062014805
         ·rw [if_pos c24] at H
          have LMc24 := am c24
          clear c24
          obtain ⟨y302, hy302⟩ : ∃ y_ : List (List Int), y_ = (x12_2 ++ [t299]) := ⟨_, rfl⟩
          replace H : (if x56_2 < (l2.length : Int) then (if x56_2 < (y302.length : Int) then ((impl_Digest.f a0 (rd_L1 y302 x56_2)).bind fun t307 => ((fake_mp_put.f x13_2 (rd l2 x56_2) t307).bind fun t308 => (impl_climbMany.l0 k2 a0 a1 l2 l4 y302 t308 l3 (l3.length : Int) (wrap64 (x56_2 + 1))))) else (none)) else (none)) = some (r1, r2) := by first | (rw [hy302]; exact H) | exact H
          have Ny302 := am hy302
          clear hy302
          by_cases c25 : x56_2 < (l2.length : Int)
          ·rw [if_pos c25] at H
           have c25b0 : decide (x56_2 < (l2.length : Int)) = true := decide_eq_true c25
           clear c25
           by_cases c26 : x56_2 < (y302.length : Int)
           ·rw [if_pos c26] at H
            have c26b0 : decide (x56_2 < (y302.length : Int)) = true := decide_eq_true c26
            clear c26
            obtain ⟨t307, A27, H⟩ := bm H
            (try dsimp -simprocs only at H)
            obtain ⟨t308, A28, H⟩ := bm H
            (try dsimp -simprocs only at H)
            have H' := am H
            clear H
            have p298 : 0 ≤ (x56_2 : Int) := of_decide_eq_true asm
            have q298 : x56_2 < (l3.length : Int) := of_decide_eq_true asm
            obtain ⟨ad298, A298_0, c298_0, e298, hx298_0, hl298_0, hi298_0⟩ := at_L1 HR3.out x56_2 p298 q298
            cases e298
            replace hx298_0 := (HB.out.cell (World.block_lt_of_cell? w _ hx298_0)).trans hx298_0
            have HR298_0 := am hi298_0
            have HC298_0 := am hl298_0
            clear hi298_0 hl298_0
            replace p298 := eq_true p298
            replace q298 := eq_true q298
            go_upto_region 8 with (first | (go_at_call 107; (with_reducible refine (impl_leafInput.calls _ _ (rd_L1 l3 x56_2) t299 _ ?side1 ?side2 A23.out).mono ?_); (case side1 => exact cv ((Kd.C_below HR298_0.out HB.out))); (case side2 => exact HC298_0.out); rintro e w29 ⟨v300, rfl, ho0, hb⟩; (try (replace HM13 := am (MR_below (by (with_reducible repeat (first | apply MR_alloc | apply MR_drewN | apply MR_drew)); exact HM13.out) hb))); (try (replace HM17 := am (MR_below (by (with_reducible repeat (first | apply MR_alloc | apply MR_drewN | apply MR_drew)); exact HM17.out) hb))); replace HO_2 := am (Kd.V_elder' (mv HO_2.out) (Kd.R_base ho0) hb); replace HO_4 := am (Kd.V_elder' (mv HO_4.out) (Kd.R_base ho0) hb); replace HO_12 := am (Kd.S_elder' (mv HO_12.out) (Kd.R_base ho0) hb); have HO301 := am (Kd.R_lower (Kd.R_newM (M := fun k_ => (w.heap.size ≤ k_)) ho0 (below_size (bt)) (fun k_ h_ => h_)) (below_size (bt))); replace HB := am (below_step (bt) hb); (try clear hb); (try clear hb2); (try clear hk); (try clear hi); (try clear ho0); obtain ⟨Ao31, co31, eo31⟩ := Kd.R_slice HO301.out; subst eo31) | ((with_reducible refine gate_builtin (b := .append) (xs := #[.tmp 61, .tmp 64]) rfl ?_); (try (refine gate_guard (by rfl) ?_; dsimp only)); at_builtin; refine Kd.S_append (Kd.slice 5 (Kd.int .u8)) (w0 := w) w.heap.size rfl (.tmp 61) (.tmp 64) 24 22 (.slice none 0 0) 24 rfl Try.underlying24 info22 rfl (by decide) (by omega) u12 x12_2 t299 [.slice Ao31 t299.length co31] (fun k_ => (w.heap.size ≤ k_)) (fun k_ => some k_ = (.slice Ao31 t299.length co31 : Value).ownBlock) rfl rfl ?aP (fun k_ hk_ => ((Kd.R_mono (ok' := fun k_ => ((fun k_ => (w.heap.size ≤ k_))) k_ ∧ nb k_ u12) (Kd.R_apart' (HO301.out) (Kd.S_typed HO_12.out) (by decide)) (fun k_ hk => ⟨hk.1.1, hk.2⟩))).1 k_ hk_.symm) ?aF ?aO ?aB ?aS ?aL ?_; (case aP => exact Kd.M_row (Kd.R_mono (Kd.R_tight rfl (Kd.R_mono (ok' := fun k_ => ((fun k_ => (w.heap.size ≤ k_))) k_ ∧ nb k_ u12) (Kd.R_apart' (HO301.out) (Kd.S_typed HO_12.out) (by decide)) (fun k_ hk => ⟨hk.1.1, hk.2⟩))) (fun _ h_ => h_))); (case aB => exact (bt)); (case aF => exact (fun k_ hk => (Nat.le_trans (below_size (bt)) hk))); (case aO => exact (rS (h := by exact Kd.S_mono HO_12.out (fun k_ hk => ⟨hk.1, fun e_ => hk.2 e_⟩)))); (case aS => exact (below_size (bt))); (case aL => have := LMc24.out; omega); intro v303 w30 ho hb hg hat; (try (replace HM13 := am (MR_grown (by (with_reducible repeat (first | apply MR_alloc | apply MR_drewN | apply MR_drew)); exact HM13.out) hg (MR_ne HM13.out (Kd.S_typed (rS (h := by exact HO_12.out))))))); (try (replace HM17 := am (MR_grown (by (with_reducible repeat (first | apply MR_alloc | apply MR_drewN | apply MR_drew)); exact HM17.out) hg (MR_ne HM17.out (Kd.S_typed (rS (h := by exact HO_12.out))))))); rw [← Ny302.out] at ho; replace HO_2 := am (Kd.V_afterv (ok := (fun k_ => ((P2_ k_ ∨ P4_ k_) ∨ w.heap.size ≤ k_) ∧ nb k_ (.slice Ao31 t299.length co31))) (rV (h := by exact Kd.V_mono HO_2.out (fun _ hk => ⟨⟨hk.1.1, hk.2⟩, hk.1.2⟩))) hg hat); replace HO_4 := am (Kd.V_afterv (ok := (fun k_ => ((P2_ k_ ∨ P4_ k_) ∨ w.heap.size ≤ k_) ∧ nb k_ (.slice Ao31 t299.length co31))) (rV (h := by exact Kd.V_mono HO_4.out (fun _ hk => ⟨⟨hk.1.1, hk.2⟩, hk.1.2⟩))) hg hat); replace HB := am (hb); have HO304 := am (ho); clear HO_12 HO301; clear ho hb hg hat; have p305 : 0 ≤ (x56_2 : Int) := of_decide_eq_true asm; have q305 : x56_2 < (l2.length : Int) := of_decide_eq_true asm; obtain ⟨ad305, e305, hx305_0⟩ := Kd.at_int (Kd.V_reads' HO_2.out).2.2 x56_2 p305 q305; cases e305; replace p305 := eq_true p305; replace q305 := eq_true q305; obtain ⟨Ao32, co32, eo32⟩ := Kd.S_slice HO304.out; subst eo32; have p306 : 0 ≤ (x56_2 : Int) := of_decide_eq_true asm; have q306 : x56_2 < (y302.length : Int) := of_decide_eq_true asm; obtain ⟨ad306, A306_0, c306_0, e306, hx306_0, hl306_0, hi306_0⟩ := at_L1 (Kd.S_reads' HO304.out).2.2 x56_2 p306 q306; cases e306; obtain ⟨ce306, hce306, hMe306, hcc306⟩ := Kd.S_get HO304.out [] x56_2 p306 (by first | exact q306 | exact of_decide_eq_true asm | (have e_ := (Kd.S_reads' HO304.out).1; omega)); obtain ⟨ve306_0, rfl, ge306_0⟩ := hMe306; have hv306_0 := hcc306 0 _ rfl; rw [Nat.add_zero, show ((Kd.slice 5 (Kd.int .u8))).sz = 1 from rfl, Nat.mul_one] at hv306_0; replace hv306_0 := Option.some.inj (hv306_0.symm.trans hx306_0); rw [hv306_0] at ge306_0; have HL306_0 := am (show Kd.R (Kd.int .u8) 5 _ _ _ _ (rd_L1 y302 x56_2) from ge306_0); clear hv306_0 ge306_0; clear hcc306 hce306; have HR306_0 := am hi306_0; have HC306_0 := am hl306_0; clear hi306_0 hl306_0; replace p306 := eq_true p306; replace q306 := eq_true q306) | (go_at_call 56; (with_reducible refine (impl_Digest.calls a0 _ _ (rd_L1 y302 x56_2) t307 _ ?side1 ?side2 A27.out).mono ?_); (case side1 => repeat (first | exact (cv HR306_0.out) | (with_reducible refine Kd.C_alloc ?_ _) | (with_reducible refine Kd.C_drewN ?_ _) | (with_reducible refine Kd.C_drew ?_))); (case side2 => exact HC306_0.out); rintro e w33 ⟨rfl, hb⟩; (try (replace HM13 := am (MR_below (by (with_reducible repeat (first | apply MR_alloc | apply MR_drewN | apply MR_drew)); exact HM13.out) hb))); (try (replace HM17 := am (MR_below (by (with_reducible repeat (first | apply MR_alloc | apply MR_drewN | apply MR_drew)); exact HM17.out) hb))); replace HO_2 := am (Kd.V_below (mv HO_2.out) hb); replace HO_4 := am (Kd.V_below (mv HO_4.out) hb); replace HO304 := am (Kd.S_below (mv HO304.out) hb); replace HL306_0 := am (Kd.R_below (mv HL306_0.out) hb); replace HR306_0 := am (Kd.C_below (cv HR306_0.out) hb); replace HB := am (below_step (bt) hb); (try clear hb); (try clear hb2); (try clear hk); (try clear hi)) | (at_mapUpdate; refine wp_mput rfl rfl _ _ _ rfl rfl rfl rfl (by (with_reducible repeat (first | apply MR_alloc | apply MR_drewN | apply MR_drew)); exact HM17.out) A28.out ?_; intro wm hM_ ht_; (first | replace HO304 := am (V_turn (mv HO304.out) ht_) | replace HO304 := am (S_turn (mv HO304.out) ht_)); (first | replace HO_2 := am (V_turn (mv HO_2.out) ht_) | replace HO_2 := am (S_turn (mv HO_2.out) ht_)); (first | replace HO_4 := am (V_turn (mv HO_4.out) ht_) | replace HO_4 := am (S_turn (mv HO_4.out) ht_)); replace HM13 := am (MR_turn (by (with_reducible repeat (first | apply MR_alloc | apply MR_drewN | apply MR_drew)); exact HM13.out) ht_ HNE.out); replace HB := am (below_turn (bt) ht_); replace HM17 := am hM_; clear hM_ ht_))
            refine start_ (n := 12) (S := (fun w' => w'.cell? (ad305.add x56_2.toNat) = some (.int .i64 (rd l2 x56_2)) ∧ w'.cell? (ad306.add x56_2.toNat) = some (.slice A306_0 (rd_L1 y302 x56_2).length c306_0))) (ds := [11]) #[false, false, false, false, false, false, false, false, false, false, false, false] (by kernel_rfl) rfl rfl ⟨hx305_0, hx306_0⟩ (fun hHeld => ?_)
            refine with_tabW mp_tab8 mp_bits8 (fun HT_ HW_ => ?_)
            refine pz (i := 0) (N := some 66) #[true, false, false, false, false, false, false, false, false, false, false, false] rfl rfl HT_.out ?_
            refine pz (i := 1) (N := some 67) #[true, true, false, false, false, false, false, false, false, false, false, false] rfl rfl HT_.out ?_
            refine pz (i := 2) (N := some 68) #[true, true, true, false, false, false, false, false, false, false, false, false] rfl rfl HT_.out ?_
            refine pz (i := 3) (N := some 69) #[true, true, true, true, false, false, false, false, false, false, false, false] rfl rfl HT_.out ?_
            refine tz (i := 4) (N := some 70) #[true, true, true, true, true, false, false, false, false, false, false, false] rfl rfl HT_.out HW_.out hHeld (Or.inl ⟨by rfl, by rintro w' ⟨s0, s1⟩; go_simp; with_reducible rfl⟩) ?_
            refine pz (i := 5) (N := some 71) #[true, true, true, true, true, true, false, false, false, false, false, false] rfl rfl HT_.out ?_
            refine pz (i := 6) (N := some 72) #[true, true, true, true, true, true, true, false, false, false, false, false] rfl rfl HT_.out ?_
            refine pz (i := 7) (N := some 73) #[true, true, true, true, true, true, true, true, false, false, false, false] rfl rfl HT_.out ?_
            refine pz (i := 8) (N := some 74) #[true, true, true, true, true, true, true, true, true, false, false, false] rfl rfl HT_.out ?_
            refine tz (i := 9) (N := some 75) #[true, true, true, true, true, true, true, true, true, true, false, false] rfl rfl HT_.out HW_.out hHeld (Or.inl ⟨by rfl, by rintro w' ⟨s0, s1⟩; go_simp; with_reducible rfl⟩) ?_
            refine one_ (i := 10) (N := some 76) #[true, true, true, true, true, true, true, true, true, true, true, false] rfl rfl (one_of HT_.out (by kernel_rfl)) (by decide) (fun K hK => ?_)
            refine goes_ Try.func56 (by kernel_rfl) rfl #[.int .i64 a0, .slice A306_0 (rd_L1 y302 x56_2).length c306_0] (by rfl) rfl rfl av ?_
            refine (impl_Digest.calls a0 _ _ (rd_L1 y302 x56_2) t307 _ (cv (HR306_0.out)) HC306_0.out A27.out).mono ?_
            rintro e w33 ⟨rfl, hb⟩
            refine ⟨_, rfl, ?_⟩
            replace HO_2 := am (Kd.V_below (mv HO_2.out) hb)
            replace HO_4 := am (Kd.V_below (mv HO_4.out) hb)
            replace HO304 := am (Kd.S_below (mv HO304.out) hb)
            replace HM13 := am (MR_below (by (with_reducible repeat (first | apply MR_alloc | apply MR_drewN | apply MR_drew)); exact HM13.out) hb)
            replace HB := am (below_step (bt) hb)
            have HS : (fun w' => w'.cell? (ad305.add x56_2.toNat) = some (.int .i64 (rd l2 x56_2)) ∧ w'.cell? (ad306.add x56_2.toNat) = some (.slice A306_0 (rd_L1 y302 x56_2).length c306_0)) w33 := ⟨(hb.cell (World.block_lt_of_cell? _ _ hHeld.1)).trans hHeld.1, (hb.cell (World.block_lt_of_cell? _ _ hHeld.2)).trans hHeld.2⟩
            refine hK.out _ _ HS (fun hHeld => ?_)
            clear hK K HS hHeld hb
            refine nz (N := some 76) ?_
            refine last_ (i := 11) (N := none) #[true, true, true, true, true, true, true, true, true, true, true, true] rfl rfl (one_of HT_.out (by kernel_rfl)) (by decide) (fun K hK => ?_)
            obtain ⟨w34, hrun_, hM_, ht_⟩ := MR_put HM13.out A28.out
            refine skip_ (w1 := w34) (by rfl) rfl (put_run rfl rfl rfl rfl hrun_) ?_
            refine hK.out _ _ ?_
            clear hK K hrun_
            refine done_ (done_of HT_.out (by kernel_rfl)) ?_
            replace HO_2 := am (V_turn HO_2.out ht_)
            replace HO_4 := am (V_turn HO_4.out ht_)
            replace HO304 := am (S_turn HO304.out ht_)
            replace HB := am (below_turn HB.out ht_)
            have HM13 := am hM_
            clear hM_ ht_ HT_ HW_
            go_wp2
            go_roundg k2
            case measure => have := HJ5.out; have := HK2.out; omega
            case rel => exact ⟨(y302), (t308), (wrap64 (x56_2 + 1)), e0, H', ⟨by have := HJ5.out; have := HK2.out; omega⟩, ⟨rV (h := by exact Kd.V_mono HO_2.out (fun _ hk => ⟨hk.1.1, hk.2⟩))⟩, ⟨rV (h := by exact Kd.V_mono HO_4.out (fun _ hk => ⟨hk.1.1, hk.2⟩))⟩, ⟨mv HO304.out⟩, ⟨bt⟩, ⟨(by (with_reducible repeat (first | apply MR_alloc | apply MR_drewN | apply MR_drew)); exact HM13.out)⟩⟩
           ·exact nh c26 H
          ·exact nh c25 H
         ·exact nh c24 H
        ·exact nh c22 H
       ·exact nh c21 H
      ·rw [if_neg c20] at H
       have c20b0 : decide (x56_2 < (l3.length : Int)) = false := decide_eq_false c20
       clear c20
       have H' := am H
       clear H
       go_wp2
       go_loopg [2, 4, 12, 13, 16] k2 (fun kq v2 v4 v12 v13 v16 w' => ∃ (x2_3 : List Int) (x4_3 : List Int) (x12_3 : List (List Int)) (x13_3 : Mp) (b13_3 : Nat) (x16_3 : Int), v13 = .map (some b13_3) ∧ v16 = .int .i64 x16_3 ∧ Aside0 (impl_climbMany.l1 kq a0 a1 x2_3 x4_3 x12_3 x13_3 x16_3 = some (r1, r2)) ∧ Aside0 (kq ≤ k2) ∧ Aside0 (Kd.V (Kd.int .i64) 3 w' w.heap.size (fun k_ => ((P2_ k_ ∨ P4_ k_) ∨ w.heap.size ≤ k_) ∧ nb k_ v12) v2 x2_3) ∧ Aside0 (Kd.V (Kd.int .i64) 3 w' w.heap.size (fun k_ => ((P2_ k_ ∨ P4_ k_) ∨ w.heap.size ≤ k_) ∧ nb k_ v12) v4 x4_3) ∧ Aside0 (Kd.S (Kd.slice 5 (Kd.int .u8)) 22 w' w.heap.size (fun k_ => (w.heap.size ≤ k_)) v12 x12_3) ∧ Aside0 (Below w.heap.size w w') ∧ Aside0 (MR w' w.heap.size b13_3 x13_3))
       case atStart => exact ⟨(l2), (l4), (x12_2), (x13_2), _, (a1), e0, e0, H', ⟨Nat.le_refl _⟩, ⟨mv HO_2.out⟩, ⟨mv HO_4.out⟩, ⟨mv HO_12.out⟩, ⟨bt⟩, ⟨(by (with_reducible repeat (first | apply MR_alloc | apply MR_drewN | apply MR_drew)); exact HM13.out)⟩⟩
       case round =>
        clear H'
        obtain ⟨x2_3, x4_3, x12_3, x13_3, b13_3, x16_3, rfl, rfl, HA, HK3, HO_2, HO_4, HO_12, HB, HM13⟩ := hrel
        cases gk with
        | zero => exact absurd HA.out (by simp [impl_climbMany.l1])
        | succ k3 =>
         have H := HA.out
         clear HA
         simp only [impl_climbMany.l1] at H
         by_cases c34 : x16_3 > 1
         ·rw [if_pos c34] at H
          have c34b0 : decide (1 < x16_3) = true := decide_eq_true c34
          clear c34
          obtain ⟨t316, A35, H⟩ := bm H
          (try dsimp -simprocs only at H)
          have H' := am H
          clear H
          go_wp2_with (first | ((with_reducible refine gate_dst (N := 84) rfl ?_); refine wp_mnew rfl rfl rfl w.heap.size (below_size (bt)) ?_; intro b17 wm hbn_ hM_ hb hne_; obtain rfl := Option.some.inj A35.out; have HNE := am (hne_ _ _ _ (by (with_reducible repeat (first | apply MR_alloc | apply MR_drewN | apply MR_drew)); exact HM13.out)); replace HM13 := am (MR_below (by (with_reducible repeat (first | apply MR_alloc | apply MR_drewN | apply MR_drew)); exact HM13.out) hb); (try (replace HO_2 := am (Kd.V_below (mv HO_2.out) hb))); (try (replace HO_4 := am (Kd.V_below (mv HO_4.out) hb))); (try (replace HO_12 := am (Kd.S_below (mv HO_12.out) hb))); (try (replace HO296 := am (Kd.S_below (mv HO296.out) hb))); replace HB := am (below_step (bt) hb); have HM17 := am hM_; clear hM_ hb hne_; clear hbn_; obtain ⟨Ao36, co36, eo36⟩ := Kd.V_slice HO_2.out; subst eo36))
          go_loopg [4, 12, 87] k3 (fun kq v4 v12 v87 w' => ∃ (x4_4 : List Int) (x12_4 : List (List Int)) (x17_4 : Mp) (x87_4 : Int), v87 = .int .i64 x87_4 ∧ Aside0 (impl_climbMany.l2 kq a0 a1 x2_3 x4_4 x12_4 x13_3 x16_3 x17_4 x2_3 (x2_3.length : Int) x87_4 = some (r1, r2)) ∧ Aside0 (kq ≤ k3) ∧ Aside0 (Kd.V (Kd.int .i64) 3 w' w.heap.size (fun k_ => ((P2_ k_ ∨ P4_ k_) ∨ w.heap.size ≤ k_) ∧ nb k_ v12) (.slice Ao36 x2_3.length co36) x2_3) ∧ Aside0 (Kd.V (Kd.int .i64) 3 w' w.heap.size (fun k_ => ((P2_ k_ ∨ P4_ k_) ∨ w.heap.size ≤ k_) ∧ nb k_ v12) v4 x4_4) ∧ Aside0 (Kd.S (Kd.slice 5 (Kd.int .u8)) 22 w' w.heap.size (fun k_ => (w.heap.size ≤ k_)) v12 x12_4) ∧ Aside0 (Kd.V (Kd.int .i64) 3 w' w.heap.size (fun k_ => ((P2_ k_ ∨ P4_ k_) ∨ w.heap.size ≤ k_) ∧ nb k_ v12) (.slice Ao36 x2_3.length co36) x2_3) ∧ Aside0 (Below w.heap.size w w') ∧ Aside0 (MR w' w.heap.size b13_3 x13_3) ∧ Aside0 (MR w' w.heap.size b17 x17_4) ∧ Aside0 (b13_3 ≠ b17))
          case atStart => exact ⟨(x4_3), (x12_3), _, (0), e0, H', ⟨Nat.le_refl _⟩, ⟨mv HO_2.out⟩, ⟨mv HO_4.out⟩, ⟨mv HO_12.out⟩, ⟨mv HO_2.out⟩, ⟨bt⟩, ⟨(by (with_reducible repeat (first | apply MR_alloc | apply MR_drewN | apply MR_drew)); exact HM13.out)⟩, ⟨(by (with_reducible repeat (first | apply MR_alloc | apply MR_drewN | apply MR_drew)); exact HM17.out)⟩, HNE⟩
          case round =>
           clear H'
           obtain ⟨x4_4, x12_4, x17_4, x87_4, rfl, HA, HK4, HO_2, HO_4, HO_12, HO_85, HB, HM13, HM17, HNE⟩ := hrel
           cases gk with
           | zero => exact absurd HA.out (by simp [impl_climbMany.l2])
           | succ k4 =>
            have H := HA.out
            clear HA
            simp only [impl_climbMany.l2] at H
            by_cases c37 : x87_4 < (x2_3.length : Int)
            ·rw [if_pos c37] at H
             have c37b0 : decide (x87_4 < (x2_3.length : Int)) = true := decide_eq_true c37
             clear c37
             by_cases c38 : 0 ≤ x87_4
             ·rw [if_pos c38] at H
              have c38b0 : decide (0 ≤ x87_4) = true := decide_eq_true c38
              clear c38
              by_cases c39 : x87_4 < (x2_3.length : Int)
              ·rw [if_pos c39] at H
               have c39b0 : decide (x87_4 < (x2_3.length : Int)) = true := decide_eq_true c39
               clear c39
               obtain ⟨⟨t321, t322⟩, A40, H⟩ := bm H
               (try dsimp -simprocs only at H)
               have HC41 := am H
               clear H
               have p320 : 0 ≤ (x87_4 : Int) := of_decide_eq_true asm
               have q320 : x87_4 < (x2_3.length : Int) := of_decide_eq_true asm
               obtain ⟨ad320, e320, hx320_0⟩ := Kd.at_int (Kd.V_reads' HO_85.out).2.2 x87_4 p320 q320
               cases e320
               replace p320 := eq_true p320
               replace q320 := eq_true q320
               go_upto_block 6 with (first | (at_lookup; refine wp_mlook rfl _ _ rfl rfl rfl (by (with_reducible repeat (first | apply MR_alloc | apply MR_drewN | apply MR_drew)); exact HM13.out) A40.out ?_))
               (try simp only [Act.put, List.setIfInBounds_toArray, List.set_cons_zero, List.set_cons_succ])
               go_cut [4, 20] (fun v4 v20 wc => ∃ (kq : Nat) (x4_40 : List Int) (x17_40 : Mp) (x20_40 : Int), v20 = .int .i64 x20_40 ∧ Aside0 (impl_climbMany.j6 kq a0 a1 x2_3 x4_40 x12_4 x13_3 x16_3 x17_40 (rd x2_3 x87_4) x20_40 x2_3 (x2_3.length : Int) x87_4 = some (r1, r2)) ∧ Aside0 (kq ≤ k4) ∧ Aside0 (Kd.V (Kd.int .i64) 3 wc w.heap.size (fun k_ => ((P2_ k_ ∨ P4_ k_) ∨ w.heap.size ≤ k_) ∧ nb k_ u12) (.slice (some ad320) x2_3.length co36) x2_3) ∧ Aside0 (Kd.V (Kd.int .i64) 3 wc w.heap.size (fun k_ => ((P2_ k_ ∨ P4_ k_) ∨ w.heap.size ≤ k_) ∧ nb k_ u12) v4 x4_40) ∧ Aside0 (Kd.S (Kd.slice 5 (Kd.int .u8)) 22 wc w.heap.size (fun k_ => (w.heap.size ≤ k_)) u12 x12_4) ∧ Aside0 (Kd.V (Kd.int .i64) 3 wc w.heap.size (fun k_ => ((P2_ k_ ∨ P4_ k_) ∨ w.heap.size ≤ k_) ∧ nb k_ u12) (.slice (some ad320) x2_3.length co36) x2_3) ∧ Aside0 (Below w.heap.size w wc) ∧ Aside0 (MR wc w.heap.size b13_3 x13_3) ∧ Aside0 (MR wc w.heap.size b17 x17_40) ∧ Aside0 (b13_3 ≠ b17))
               case first =>
                have H := HC41.out
                clear HC41
                by_cases c42 : (Go.bits .xor .i64 (rd x2_3 x87_4) 1) ≥ x16_3
                ·rw [if_pos c42] at H
                 have c42b0 : decide (x16_3 ≤ (Go.bits .xor .i64 (rd x2_3 x87_4) 1)) = true := decide_eq_true c42
                 clear c42
                 (first | rw [c42b0] | (simp only [i64_w, i32_w]; rw [c42b0]) | skip)
                 obtain ⟨t323, A43, H⟩ := bm H
                 (try dsimp -simprocs only at H)
                 obtain ⟨t324, A44, H⟩ := bm H
                 (try dsimp -simprocs only at H)
                 have H' := am H
                 clear H
                 go_wp2_with (first | (at_lookup; refine wp_mget rfl _ _ rfl rfl rfl (by (with_reducible repeat (first | apply MR_alloc | apply MR_drewN | apply MR_drew)); exact HM13.out) A43.out ?_) | (at_mapUpdate; refine wp_mput rfl rfl _ _ _ rfl rfl rfl rfl (by (with_reducible repeat (first | apply MR_alloc | apply MR_drewN | apply MR_drew)); exact HM17.out) A44.out ?_; intro wm hM_ ht_; (first | replace HO_12 := am (V_turn (mv HO_12.out) ht_) | replace HO_12 := am (S_turn (mv HO_12.out) ht_)); (first | replace HO_2 := am (V_turn (mv HO_2.out) ht_) | replace HO_2 := am (S_turn (mv HO_2.out) ht_)); (first | replace HO_4 := am (V_turn (mv HO_4.out) ht_) | replace HO_4 := am (S_turn (mv HO_4.out) ht_)); (first | replace HO_85 := am (V_turn (mv HO_85.out) ht_) | replace HO_85 := am (S_turn (mv HO_85.out) ht_)); replace HM13 := am (MR_turn (by (with_reducible repeat (first | apply MR_alloc | apply MR_drewN | apply MR_drew)); exact HM13.out) ht_ HNE.out); replace HB := am (below_turn (bt) ht_); replace HM17 := am hM_; clear hM_ ht_))
                 go_roundg k4
                 case measure => have := HJ5.out; have := HK2.out; have := HK3.out; have := HK4.out; omega
                 case rel => exact ⟨(x4_4), (x12_4), (t324), (wrap64 (x87_4 + 1)), e0, H', ⟨by have := HJ5.out; have := HK2.out; have := HK3.out; have := HK4.out; omega⟩, ⟨mv HO_2.out⟩, ⟨mv HO_4.out⟩, ⟨mv HO_12.out⟩, ⟨mv HO_85.out⟩, ⟨bt⟩, ⟨(by (with_reducible repeat (first | apply MR_alloc | apply MR_drewN | apply MR_drew)); exact HM13.out)⟩, ⟨(by (with_reducible repeat (first | apply MR_alloc | apply MR_drewN | apply MR_drew)); exact HM17.out)⟩, HNE⟩
                ·rw [if_neg c42] at H
                 have c42b0 : decide (x16_3 ≤ (Go.bits .xor .i64 (rd x2_3 x87_4) 1)) = false := decide_eq_false c42
                 clear c42
                 (first | rw [c42b0] | (simp only [i64_w, i32_w]; rw [c42b0]) | skip)
                 have HC45 := am H
                 clear H
                 go_upto_region 20 with (fail)
                 go_cut [109] (fun v109 wc => ∃ (kq : Nat) (x109_44 : Bool), v109 = .bool x109_44 ∧ Aside0 (impl_climbMany.j4 kq a0 a1 x2_3 x4_4 x12_4 x13_3 x16_3 x17_4 (rd x2_3 x87_4) t321 t322 x2_3 (x2_3.length : Int) x87_4 x109_44 = some (r1, r2)) ∧ Aside0 (kq ≤ k4) ∧ Aside0 (Kd.V (Kd.int .i64) 3 wc w.heap.size (fun k_ => ((P2_ k_ ∨ P4_ k_) ∨ w.heap.size ≤ k_) ∧ nb k_ u12) (.slice (some ad320) x2_3.length co36) x2_3) ∧ Aside0 (Kd.V (Kd.int .i64) 3 wc w.heap.size (fun k_ => ((P2_ k_ ∨ P4_ k_) ∨ w.heap.size ≤ k_) ∧ nb k_ u12) u4 x4_4) ∧ Aside0 (Kd.S (Kd.slice 5 (Kd.int .u8)) 22 wc w.heap.size (fun k_ => (w.heap.size ≤ k_)) u12 x12_4) ∧ Aside0 (Kd.V (Kd.int .i64) 3 wc w.heap.size (fun k_ => ((P2_ k_ ∨ P4_ k_) ∨ w.heap.size ≤ k_) ∧ nb k_ u12) (.slice (some ad320) x2_3.length co36) x2_3) ∧ Aside0 (Below w.heap.size w wc) ∧ Aside0 (MR wc w.heap.size b13_3 x13_3) ∧ Aside0 (MR wc w.heap.size b17 x17_4) ∧ Aside0 (b13_3 ≠ b17))
                 case first =>
                  have H := HC45.out
                  clear HC45
                  by_cases c46 : t322 = true
                  ·subst c46
                   rw [if_pos rfl] at H
                   have H' := am H
                   clear H
                   go_wp2
                   go_meet
                   case rel => exact ⟨_, (((Int.tmod (rd x2_3 x87_4) 2) == 1)), e0, H', ⟨by have := HJ5.out; have := HK2.out; have := HK3.out; have := HK4.out; first | omega | exact Nat.le_refl _⟩, ⟨mv HO_2.out⟩, ⟨mv HO_4.out⟩, ⟨mv HO_12.out⟩, ⟨mv HO_85.out⟩, ⟨bt⟩, ⟨(by (with_reducible repeat (first | apply MR_alloc | apply MR_drewN | apply MR_drew)); exact HM13.out)⟩, ⟨(by (with_reducible repeat (first | apply MR_alloc | apply MR_drewN | apply MR_drew)); exact HM17.out)⟩, HNE⟩
                  ·replace c46 := Bool.eq_false_iff.mpr c46
                   subst c46
                   rw [if_neg nft] at H
                   have H' := am H
                   clear H
                   go_wp2
                   go_meet
                   case rel => exact ⟨_, (false), e0, H', ⟨by have := HJ5.out; have := HK2.out; have := HK3.out; have := HK4.out; first | omega | exact Nat.le_refl _⟩, ⟨mv HO_2.out⟩, ⟨mv HO_4.out⟩, ⟨mv HO_12.out⟩, ⟨mv HO_85.out⟩, ⟨bt⟩, ⟨(by (with_reducible repeat (first | apply MR_alloc | apply MR_drewN | apply MR_drew)); exact HM13.out)⟩, ⟨(by (with_reducible repeat (first | apply MR_alloc | apply MR_drewN | apply MR_drew)); exact HM17.out)⟩, HNE⟩
                 case rest =>
                  clear HC45
                  obtain ⟨kq, x109_44, rfl, HA, HJ44, HO_2, HO_4, HO_12, HO_85, HB, HM13, HM17, HNE⟩ := hcut
                  cases kq with
                  | zero => exact absurd HA.out (by simp [impl_climbMany.j4])
                  | succ kj44 =>
                   have H := HA.out
                   clear HA
                   simp only [impl_climbMany.j4] at H
                   by_cases c47 : x109_44 = true
                   ·subst c47
                    rw [if_pos rfl] at H
                    have H' := am H
                    clear H
                    go_wp2
                    go_roundg kj44
                    case measure => have := HJ5.out; have := HK2.out; have := HK3.out; have := HK4.out; have := HJ44.out; omega
                    case rel => exact ⟨(x4_4), (x12_4), (x17_4), (wrap64 (x87_4 + 1)), e0, H', ⟨by have := HJ5.out; have := HK2.out; have := HK3.out; have := HK4.out; have := HJ44.out; omega⟩, ⟨mv HO_2.out⟩, ⟨mv HO_4.out⟩, ⟨mv HO_12.out⟩, ⟨mv HO_85.out⟩, ⟨bt⟩, ⟨(by (with_reducible repeat (first | apply MR_alloc | apply MR_drewN | apply MR_drew)); exact HM13.out)⟩, ⟨(by (with_reducible repeat (first | apply MR_alloc | apply MR_drewN | apply MR_drew)); exact HM17.out)⟩, HNE⟩
                   ·replace c47 := Bool.eq_false_iff.mpr c47
                    subst c47
                    rw [if_neg nft] at H
                    have HC48 := am H
                    clear H
                    go_upto_region 21 with (fail)
                    go_cut [116] (fun v116 wc => ∃ (kq : Nat) (x116_47 : Bool), v116 = .bool x116_47 ∧ Aside0 (impl_climbMany.j5 kq a0 a1 x2_3 x4_4 x12_4 x13_3 x16_3 x17_4 (rd x2_3 x87_4) t321 t322 x2_3 (x2_3.length : Int) x87_4 x116_47 = some (r1, r2)) ∧ Aside0 (kq ≤ kj44) ∧ Aside0 (Kd.V (Kd.int .i64) 3 wc w.heap.size (fun k_ => ((P2_ k_ ∨ P4_ k_) ∨ w.heap.size ≤ k_) ∧ nb k_ u12) (.slice (some ad320) x2_3.length co36) x2_3) ∧ Aside0 (Kd.V (Kd.int .i64) 3 wc w.heap.size (fun k_ => ((P2_ k_ ∨ P4_ k_) ∨ w.heap.size ≤ k_) ∧ nb k_ u12) u4 x4_4) ∧ Aside0 (Kd.S (Kd.slice 5 (Kd.int .u8)) 22 wc w.heap.size (fun k_ => (w.heap.size ≤ k_)) u12 x12_4) ∧ Aside0 (Kd.V (Kd.int .i64) 3 wc w.heap.size (fun k_ => ((P2_ k_ ∨ P4_ k_) ∨ w.heap.size ≤ k_) ∧ nb k_ u12) (.slice (some ad320) x2_3.length co36) x2_3) ∧ Aside0 (Below w.heap.size w wc) ∧ Aside0 (MR wc w.heap.size b13_3 x13_3) ∧ Aside0 (MR wc w.heap.size b17 x17_4) ∧ Aside0 (b13_3 ≠ b17))
                    case first =>
                     have H := HC48.out
                     clear HC48
                     by_cases c49 : t322 = true
                     ·subst c49
                      rw [if_pos rfl] at H
                      have H' := am H
                      clear H
                      go_wp2
                      go_meet
                      case rel => exact ⟨_, (false), e0, H', ⟨by have := HJ5.out; have := HK2.out; have := HK3.out; have := HK4.out; have := HJ44.out; first | omega | exact Nat.le_refl _⟩, ⟨mv HO_2.out⟩, ⟨mv HO_4.out⟩, ⟨mv HO_12.out⟩, ⟨mv HO_85.out⟩, ⟨bt⟩, ⟨(by (with_reducible repeat (first | apply MR_alloc | apply MR_drewN | apply MR_drew)); exact HM13.out)⟩, ⟨(by (with_reducible repeat (first | apply MR_alloc | apply MR_drewN | apply MR_drew)); exact HM17.out)⟩, HNE⟩
                     ·replace c49 := Bool.eq_false_iff.mpr c49
                      subst c49
                      rw [if_neg nft] at H
                      have H' := am H
                      clear H
                      obtain ⟨Ao50, co50, eo50⟩ := Kd.V_slice HO_4.out
                      subst eo50
                      go_wp2
                      go_meet
                      case rel => exact ⟨_, (((x4_4.length : Int) == 0)), e0, H', ⟨by have := HJ5.out; have := HK2.out; have := HK3.out; have := HK4.out; have := HJ44.out; first | omega | exact Nat.le_refl _⟩, ⟨mv HO_2.out⟩, ⟨mv HO_4.out⟩, ⟨mv HO_12.out⟩, ⟨mv HO_85.out⟩, ⟨bt⟩, ⟨(by (with_reducible repeat (first | apply MR_alloc | apply MR_drewN | apply MR_drew)); exact HM13.out)⟩, ⟨(by (with_reducible repeat (first | apply MR_alloc | apply MR_drewN | apply MR_drew)); exact HM17.out)⟩, HNE⟩
                    case rest =>
                     clear HC48
                     obtain ⟨kq, x116_47, rfl, HA, HJ47, HO_2, HO_4, HO_12, HO_85, HB, HM13, HM17, HNE⟩ := hcut
                     cases kq with
                     | zero => exact absurd HA.out (by simp [impl_climbMany.j5])
                     | succ kj47 =>
                      have H := HA.out
                      clear HA
                      simp only [impl_climbMany.j5] at H
                      by_cases c51 : x116_47 = true
                      ·subst c51
                       rw [if_pos rfl] at H
                       simp only [Option.some.injEq, Prod.mk.injEq] at H
                       obtain ⟨rfl, rfl⟩ := H
                       go_wp2
                       go_ret2
                       exact ⟨_, by first | rfl | (simp [errW_none, errW_some] <;> rfl) | (simp [*, errW_none, errW_some] <;> rfl), by first | exact Kd.S_nil _ _ _ _ _ | exact Kd.N_nil _ _ _ _ _ | exact Kd.V_nil _ _ _ _ _ | exact Kd.Q_nil _ _ _ _ _ | exact Kd.R_nil _ _ _ _ _, bt⟩
                      ·replace c51 := Bool.eq_false_iff.mpr c51
                       subst c51
                       rw [if_neg nft] at H
                       by_cases c52 : t322 = true
                       ·subst c52
                        rw [if_pos rfl] at H
                        have H' := am H
                        clear H
                        go_wp2
                        go_meet
                        case rel => exact ⟨_, (x4_4), (x17_4), (t321), e0, H', ⟨by have := HJ5.out; have := HK2.out; have := HK3.out; have := HK4.out; have := HJ44.out; have := HJ47.out; first | omega | exact Nat.le_refl _⟩, ⟨mv HO_2.out⟩, ⟨mv HO_4.out⟩, ⟨mv HO_12.out⟩, ⟨mv HO_85.out⟩, ⟨bt⟩, ⟨(by (with_reducible repeat (first | apply MR_alloc | apply MR_drewN | apply MR_drew)); exact HM13.out)⟩, ⟨(by (with_reducible repeat (first | apply MR_alloc | apply MR_drewN | apply MR_drew)); exact HM17.out)⟩, HNE⟩
                       ·replace c52 := Bool.eq_false_iff.mpr c52
                        subst c52
                        rw [if_neg nft] at H
                        by_cases c53 : 0 < (x4_4.length : Int)
                        ·rw [if_pos c53] at H
                         have c53b0 : decide (0 < (x4_4.length : Int)) = true := decide_eq_true c53
                         have c53b1 : decide (0 < x4_4.length) = true := decide_eq_true (by omega)
                         clear c53
                         by_cases c54 : 1 ≤ (x4_4.length : Int)
                         ·rw [if_pos c54] at H
                          have c54b0 := eq_true c54
                          have c54b1 : decide (1 ≤ (x4_4.length : Int)) = true := decide_eq_true c54
                          clear c54
                          obtain ⟨y326, hy326⟩ : ∃ y_ : List Int, y_ = (x4_4.drop 1) := ⟨_, rfl⟩
                          replace H : (impl_climbMany.j6 kj47 a0 a1 x2_3 y326 x12_4 x13_3 x16_3 x17_4 (rd x2_3 x87_4) (rd x4_4 0) x2_3 (x2_3.length : Int) x87_4) = some (r1, r2) := by first | (rw [hy326]; exact H) | exact H
                          have Ny326 := am hy326
                          clear hy326
                          have H' := am H
                          clear H
                          obtain ⟨Ao55, co55, eo55⟩ := Kd.V_slice HO_4.out
                          subst eo55
                          have p325 : 0 ≤ (0 : Int) := (by omega)
                          have q325 : 0 < (x4_4.length : Int) := of_decide_eq_true asm
                          obtain ⟨ad325, e325, hx325_0⟩ := Kd.at_int (Kd.V_reads' HO_4.out).2.2 0 p325 q325
                          cases e325
                          have qi325 : (0 < x4_4.length) = True := eq_true (by omega)
                          (try rw [show ((0 : Int)).toNat = 0 from rfl] at hx325_0)
                          (try rw [Addr.add_zero'] at hx325_0)
                          replace p325 := eq_true p325
                          replace q325 := eq_true q325
                          have q56 : (1 : Int) ≤ ((x4_4.length : Int) : Int) := of_decide_eq_true asm
                          obtain ⟨i056, hi056, _, hsz56, _⟩ := info_parts info3
                          have hroom56 : x4_4.length ≤ co55 := (Kd.V_reads' HO_4.out).2.1
                          have hC56 : Kd.F (Kd.int .i64) _ _ (some ad325) x4_4.length x4_4 := (Kd.V_at (base := w.heap.size) HO_4.out).2.2
                          have hcut56 := cut_from (P := Try.prog) 29 3 .i64 Try.underlying29 hi056 1 hsz56 (some ad325) x4_4.length co55 1 (by omega) q56
                          have hr56 := Kd.F_cut (m := (1 : Int).toNat) (c := co55) hC56 (by omega) hroom56
                          obtain ⟨A56, hA56⟩ : ∃ A1, A1 = (if co55 = (1 : Int).toNat then (some ad325) else ((some ad325) : Option Addr).map (·.add ((1 : Int).toNat * 1))) := ⟨_, rfl⟩
                          obtain ⟨c56, hc56⟩ : ∃ c1, c1 = co55 - (1 : Int).toNat := ⟨_, rfl⟩
                          have hy56 : y326.length = x4_4.length - (1 : Int).toNat := (by rw [Ny326.out, List.length_drop] <;> omega)
                          rw [show (x4_4).drop (1 : Int).toNat = y326 from Ny326.out.symm] at hr56
                          replace hr56 : Kd.F (Kd.int .i64) _ _ A56 y326.length y326 := (by rw [hA56]; exact hr56)
                          rw [← hy56, ← hA56, ← hc56] at hcut56
                          have HO330 := am (show Kd.V (Kd.int .i64) 3 _ w.heap.size _ (.slice A56 y326.length c56) y326 from Kd.V_mk (by rw [hy56, hc56]; exact Nat.sub_le_sub_right hroom56 _) hr56)
                          have HC330 := am (show y326.length ≤ c56 from by rw [hy56, hc56]; exact Nat.sub_le_sub_right hroom56 _)
                          clear hr56 hC56 hroom56 hi056 hsz56 hc56
                          have KY56 := am hy56
                          have KA56 := am hA56
                          clear hy56 hA56
                          replace q56 := eq_true q56
                          go_wp2
                          repeat (go_quiet (fail); try go_wp2)
                          go_meet
                          case rel => exact ⟨_, (y326), (x17_4), (rd x4_4 0), e0, H', ⟨by have := HJ5.out; have := HK2.out; have := HK3.out; have := HK4.out; have := HJ44.out; have := HJ47.out; first | omega | exact Nat.le_refl _⟩, ⟨mv HO_2.out⟩, ⟨mv HO330.out⟩, ⟨mv HO_12.out⟩, ⟨mv HO_85.out⟩, ⟨bt⟩, ⟨(by (with_reducible repeat (first | apply MR_alloc | apply MR_drewN | apply MR_drew)); exact HM13.out)⟩, ⟨(by (with_reducible repeat (first | apply MR_alloc | apply MR_drewN | apply MR_drew)); exact HM17.out)⟩, HNE⟩
                         ·exact nh c54 H
                        ·exact nh c53 H
               case rest =>
                clear HC41
                obtain ⟨kq, x4_40, x17_40, x20_40, rfl, HA, HJ40, HO_2, HO_4, HO_12, HO_85, HB, HM13, HM17, HNE⟩ := hcut
                cases kq with
                | zero => exact absurd HA.out (by simp [impl_climbMany.j6])
                | succ kj40 =>
                 have H := HA.out
                 clear HA
                 simp only [impl_climbMany.j6] at H
                 obtain ⟨t331, A57, H⟩ := bm H
                 (try dsimp -simprocs only at H)
                 by_cases c58 : (Int.tmod (rd x2_3 x87_4) 2) = 1
                 ·rw [if_pos c58] at H
                  have c58b0 : ((Int.tmod (rd x2_3 x87_4) 2) == 1) = true := beq_iff_eq.mpr c58
                  have c58b1 : ((Int.tmod (rd x2_3 x87_4) 2) != 1) = false := bne_eq_false_iff_eq.mpr c58
                  clear c58
                  obtain ⟨t332, A59, H⟩ := bm H
                  (try dsimp -simprocs only at H)
                  by_cases c60 : x12_4.length < 5864062014805
                  ·rw [if_pos c60] at H
                   have LMc60 := am c60
                   clear c60
                   obtain ⟨y335, hy335⟩ : ∃ y_ : List (List Int), y_ = (x12_4 ++ [t332]) := ⟨_, rfl⟩
                   replace H : (if 0 ≤ (wrap64 ((y335.length : Int) - 1)) then (if (wrap64 ((y335.length : Int) - 1)) < (y335.length : Int) then ((impl_Digest.f a0 (rd_L1 y335 (wrap64 ((y335.length : Int) - 1)))).bind fun t339 => ((fake_mp_put.f x17_40 (wrap64 (Int.tdiv (rd x2_3 x87_4) 2)) t339).bind fun t340 => (impl_climbMany.l2 kj40 a0 a1 x2_3 x4_40 y335 x13_3 x16_3 t340 x2_3 (x2_3.length : Int) (wrap64 (x87_4 + 1))))) else (none)) else (none)) = some (r1, r2) := by first | (rw [hy335]; exact H) | exact H
                   have Ny335 := am hy335
                   clear hy335
                   obtain ⟨ji61, hji61⟩ : ∃ j_ : Int, (wrap64 ((y335.length : Int) - 1)) = j_ := ⟨_, rfl⟩
                   replace H : (if 0 ≤ (ji61) then (if (ji61) < (y335.length : Int) then ((impl_Digest.f a0 (rd_L1 y335 (ji61))).bind fun t339 => ((fake_mp_put.f x17_40 (wrap64 (Int.tdiv (rd x2_3 x87_4) 2)) t339).bind fun t340 => (impl_climbMany.l2 kj40 a0 a1 x2_3 x4_40 y335 x13_3 x16_3 t340 x2_3 (x2_3.length : Int) (wrap64 (x87_4 + 1))))) else (none)) else (none)) = some (r1, r2) := by first | (rw [hji61] at H; exact H) | (simp only [hji61] at H ⊢; exact H)
                   (try rw [hji61] at A57)
                   (try rw [hji61] at A59)
                   have hji61w : (IntKind.i64.wrap ((y335.length : Int) - 1)) = ji61 := (i64_w _).trans hji61
                   by_cases c62 : 0 ≤ (ji61)
                   ·rw [if_pos c62] at H
                    have c62b0 : decide (0 ≤ (ji61)) = true := decide_eq_true c62
                    clear c62
                    by_cases c63 : (ji61) < (y335.length : Int)
                    ·rw [if_pos c63] at H
                     have c63b0 : decide ((ji61) < (y335.length : Int)) = true := decide_eq_true c63
                     clear c63
                     obtain ⟨t339, A64, H⟩ := bm H
                     (try dsimp -simprocs only at H)
                     obtain ⟨t340, A65, H⟩ := bm H
                     (try dsimp -simprocs only at H)
                     have H' := am H
                     clear H
                     go_wp2_with (first | (at_lookup; refine wp_mget rfl _ _ rfl rfl rfl (by (with_reducible repeat (first | apply MR_alloc | apply MR_drewN | apply MR_drew)); exact HM13.out) A57.out ?_) | (go_at_call 108; (with_reducible refine (impl_nodeInput.calls kj40 x20_40 t331 t332 _ A59.out).mono ?_); rintro e w66 ⟨v333, rfl, ho0, hb⟩; (try (replace HM13 := am (MR_below (by (with_reducible repeat (first | apply MR_alloc | apply MR_drewN | apply MR_drew)); exact HM13.out) hb))); (try (replace HM17 := am (MR_below (by (with_reducible repeat (first | apply MR_alloc | apply MR_drewN | apply MR_drew)); exact HM17.out) hb))); replace HO_2 := am (Kd.V_elder' (mv HO_2.out) (Kd.R_base ho0) hb); replace HO_4 := am (Kd.V_elder' (mv HO_4.out) (Kd.R_base ho0) hb); replace HO_12 := am (Kd.S_elder' (mv HO_12.out) (Kd.R_base ho0) hb); replace HO_85 := am (Kd.V_elder' (mv HO_85.out) (Kd.R_base ho0) hb); have HO334 := am (Kd.R_lower (Kd.R_newM (M := fun k_ => (w.heap.size ≤ k_)) ho0 (below_size (bt)) (fun k_ h_ => h_)) (below_size (bt))); replace HB := am (below_step (bt) hb); (try clear hb); (try clear hb2); (try clear hk); (try clear hi); (try clear ho0); obtain ⟨Ao68, co68, eo68⟩ := Kd.R_slice HO334.out; subst eo68) | ((with_reducible refine gate_builtin (b := .append) (xs := #[.tmp 141, .tmp 145]) rfl ?_); (try (refine gate_guard (by rfl) ?_; dsimp only)); at_builtin; refine Kd.S_append (Kd.slice 5 (Kd.int .u8)) (w0 := w) w.heap.size rfl (.tmp 141) (.tmp 145) 24 22 (.slice none 0 0) 24 rfl Try.underlying24 info22 rfl (by decide) (by omega) u12 x12_4 t332 [.slice Ao68 t332.length co68] (fun k_ => (w.heap.size ≤ k_)) (fun k_ => some k_ = (.slice Ao68 t332.length co68 : Value).ownBlock) rfl rfl ?aP (fun k_ hk_ => ((Kd.R_mono (ok' := fun k_ => ((fun k_ => (w.heap.size ≤ k_))) k_ ∧ nb k_ u12) (Kd.R_apart' (HO334.out) (Kd.S_typed HO_12.out) (by decide)) (fun k_ hk => ⟨hk.1.1, hk.2⟩))).1 k_ hk_.symm) ?aF ?aO ?aB ?aS ?aL ?_; (case aP => exact Kd.M_row (Kd.R_mono (Kd.R_tight rfl (Kd.R_mono (ok' := fun k_ => ((fun k_ => (w.heap.size ≤ k_))) k_ ∧ nb k_ u12) (Kd.R_apart' (HO334.out) (Kd.S_typed HO_12.out) (by decide)) (fun k_ hk => ⟨hk.1.1, hk.2⟩))) (fun _ h_ => h_))); (case aB => exact (bt)); (case aF => exact (fun k_ hk => (Nat.le_trans (below_size (bt)) hk))); (case aO => exact (rS (h := by exact Kd.S_mono HO_12.out (fun k_ hk => ⟨hk.1, fun e_ => hk.2 e_⟩)))); (case aS => exact (below_size (bt))); (case aL => have := LMc60.out; omega); intro v336 w67 ho hb hg hat; (try (replace HM13 := am (MR_grown (by (with_reducible repeat (first | apply MR_alloc | apply MR_drewN | apply MR_drew)); exact HM13.out) hg (MR_ne HM13.out (Kd.S_typed (rS (h := by exact HO_12.out))))))); (try (replace HM17 := am (MR_grown (by (with_reducible repeat (first | apply MR_alloc | apply MR_drewN | apply MR_drew)); exact HM17.out) hg (MR_ne HM17.out (Kd.S_typed (rS (h := by exact HO_12.out))))))); rw [← Ny335.out] at ho; replace HO_2 := am (Kd.V_afterv (ok := (fun k_ => ((P2_ k_ ∨ P4_ k_) ∨ w.heap.size ≤ k_) ∧ nb k_ (.slice Ao68 t332.length co68))) (rV (h := by exact Kd.V_mono HO_2.out (fun _ hk => ⟨⟨hk.1.1, hk.2⟩, hk.1.2⟩))) hg hat); replace HO_4 := am (Kd.V_afterv (ok := (fun k_ => ((P2_ k_ ∨ P4_ k_) ∨ w.heap.size ≤ k_) ∧ nb k_ (.slice Ao68 t332.length co68))) (rV (h := by exact Kd.V_mono HO_4.out (fun _ hk => ⟨⟨hk.1.1, hk.2⟩, hk.1.2⟩))) hg hat); replace HO_85 := am (Kd.V_afterv (ok := (fun k_ => ((P2_ k_ ∨ P4_ k_) ∨ w.heap.size ≤ k_) ∧ nb k_ (.slice Ao68 t332.length co68))) (rV (h := by exact Kd.V_mono HO_85.out (fun _ hk => ⟨⟨hk.1.1, hk.2⟩, hk.1.2⟩))) hg hat); replace HB := am (hb); have HO337 := am (ho); clear HO_12 HO334; clear ho hb hg hat; obtain ⟨Ao69, co69, eo69⟩ := Kd.S_slice HO337.out; subst eo69; have p338 : 0 ≤ ((ji61) : Int) := of_decide_eq_true asm; have q338 : (ji61) < (y335.length : Int) := of_decide_eq_true asm; obtain ⟨ad338, A338_0, c338_0, e338, hx338_0, hl338_0, hi338_0⟩ := at_L1 (Kd.S_reads' HO337.out).2.2 (ji61) p338 q338; cases e338; obtain ⟨ce338, hce338, hMe338, hcc338⟩ := Kd.S_get HO337.out [] (ji61) p338 (by first | exact q338 | exact of_decide_eq_true asm | (have e_ := (Kd.S_reads' HO337.out).1; omega)); obtain ⟨ve338_0, rfl, ge338_0⟩ := hMe338; have hv338_0 := hcc338 0 _ rfl; rw [Nat.add_zero, show ((Kd.slice 5 (Kd.int .u8))).sz = 1 from rfl, Nat.mul_one] at hv338_0; replace hv338_0 := Option.some.inj (hv338_0.symm.trans hx338_0); rw [hv338_0] at ge338_0; have HL338_0 := am (show Kd.R (Kd.int .u8) 5 _ _ _ _ (rd_L1 y335 (ji61)) from ge338_0); clear hv338_0 ge338_0; clear hcc338 hce338; have HR338_0 := am hi338_0; have HC338_0 := am hl338_0; clear hi338_0 hl338_0; replace p338 := eq_true p338; replace q338 := eq_true q338) | (go_at_call 56; (with_reducible refine (impl_Digest.calls a0 _ _ (rd_L1 y335 (ji61)) t339 _ ?side1 ?side2 A64.out).mono ?_); (case side1 => repeat (first | exact (cv HR338_0.out) | (with_reducible refine Kd.C_alloc ?_ _) | (with_reducible refine Kd.C_drewN ?_ _) | (with_reducible refine Kd.C_drew ?_))); (case side2 => exact HC338_0.out); rintro e w70 ⟨rfl, hb⟩; (try (replace HM13 := am (MR_below (by (with_reducible repeat (first | apply MR_alloc | apply MR_drewN | apply MR_drew)); exact HM13.out) hb))); (try (replace HM17 := am (MR_below (by (with_reducible repeat (first | apply MR_alloc | apply MR_drewN | apply MR_drew)); exact HM17.out) hb))); replace HO_2 := am (Kd.V_below (mv HO_2.out) hb); replace HO_4 := am (Kd.V_below (mv HO_4.out) hb); replace HO_85 := am (Kd.V_below (mv HO_85.out) hb); replace HO337 := am (Kd.S_below (mv HO337.out) hb); replace HL338_0 := am (Kd.R_below (mv HL338_0.out) hb); replace HR338_0 := am (Kd.C_below (cv HR338_0.out) hb); replace HB := am (below_step (bt) hb); (try clear hb); (try clear hb2); (try clear hk); (try clear hi)) | (at_mapUpdate; refine wp_mput rfl rfl _ _ _ rfl rfl rfl rfl (by (with_reducible repeat (first | apply MR_alloc | apply MR_drewN | apply MR_drew)); exact HM17.out) A65.out ?_; intro wm hM_ ht_; (first | replace HO337 := am (V_turn (mv HO337.out) ht_) | replace HO337 := am (S_turn (mv HO337.out) ht_)); (first | replace HO_2 := am (V_turn (mv HO_2.out) ht_) | replace HO_2 := am (S_turn (mv HO_2.out) ht_)); (first | replace HO_4 := am (V_turn (mv HO_4.out) ht_) | replace HO_4 := am (S_turn (mv HO_4.out) ht_)); (first | replace HO_85 := am (V_turn (mv HO_85.out) ht_) | replace HO_85 := am (S_turn (mv HO_85.out) ht_)); replace HM13 := am (MR_turn (by (with_reducible repeat (first | apply MR_alloc | apply MR_drewN | apply MR_drew)); exact HM13.out) ht_ HNE.out); replace HB := am (below_turn (bt) ht_); replace HM17 := am hM_; clear hM_ ht_))
                     go_roundg kj40
                     case measure => have := HJ5.out; have := HK2.out; have := HK3.out; have := HK4.out; have := HJ40.out; omega
                     case rel => exact ⟨(x4_40), (y335), (t340), (wrap64 (x87_4 + 1)), e0, H', ⟨by have := HJ5.out; have := HK2.out; have := HK3.out; have := HK4.out; have := HJ40.out; omega⟩, ⟨rV (h := by exact Kd.V_mono HO_2.out (fun _ hk => ⟨hk.1.1, hk.2⟩))⟩, ⟨rV (h := by exact Kd.V_mono HO_4.out (fun _ hk => ⟨hk.1.1, hk.2⟩))⟩, ⟨mv HO337.out⟩, ⟨rV (h := by exact Kd.V_mono HO_85.out (fun _ hk => ⟨hk.1.1, hk.2⟩))⟩, ⟨bt⟩, ⟨(by (with_reducible repeat (first | apply MR_alloc | apply MR_drewN | apply MR_drew)); exact HM13.out)⟩, ⟨(by (with_reducible repeat (first | apply MR_alloc | apply MR_drewN | apply MR_drew)); exact HM17.out)⟩, HNE⟩
                    ·exact nh c63 H
                   ·exact nh c62 H
                  ·exact nh c60 H
                 ·rw [if_neg c58] at H
                  have c58b0 : ((Int.tmod (rd x2_3 x87_4) 2) == 1) = false := beq_eq_false_iff_ne.mpr c58
                  have c58b1 : ((Int.tmod (rd x2_3 x87_4) 2) != 1) = true := bne_iff_ne.mpr c58
                  obtain ⟨t341, A71, H⟩ := bm H
                  (try dsimp -simprocs only at H)
                  by_cases c72 : x12_4.length < 5864062014805
                  ·rw [if_pos c72] at H
                   have LMc72 := am c72
                   clear c72
                   obtain ⟨y344, hy344⟩ : ∃ y_ : List (List Int), y_ = (x12_4 ++ [t341]) := ⟨_, rfl⟩
                   replace H : (if 0 ≤ (wrap64 ((y344.length : Int) - 1)) then (if (wrap64 ((y344.length : Int) - 1)) < (y344.length : Int) then ((impl_Digest.f a0 (rd_L1 y344 (wrap64 ((y344.length : Int) - 1)))).bind fun t348 => ((fake_mp_put.f x17_40 (wrap64 (Int.tdiv (rd x2_3 x87_4) 2)) t348).bind fun t349 => (impl_climbMany.l2 kj40 a0 a1 x2_3 x4_40 y344 x13_3 x16_3 t349 x2_3 (x2_3.length : Int) (wrap64 (x87_4 + 1))))) else (none)) else (none)) = some (r1, r2) := by first | (rw [hy344]; exact H) | exact H
                   have Ny344 := am hy344
                   clear hy344
                   obtain ⟨ji73, hji73⟩ : ∃ j_ : Int, (wrap64 ((y344.length : Int) - 1)) = j_ := ⟨_, rfl⟩
                   replace H : (if 0 ≤ (ji73) then (if (ji73) < (y344.length : Int) then ((impl_Digest.f a0 (rd_L1 y344 (ji73))).bind fun t348 => ((fake_mp_put.f x17_40 (wrap64 (Int.tdiv (rd x2_3 x87_4) 2)) t348).bind fun t349 => (impl_climbMany.l2 kj40 a0 a1 x2_3 x4_40 y344 x13_3 x16_3 t349 x2_3 (x2_3.length : Int) (wrap64 (x87_4 + 1))))) else (none)) else (none)) = some (r1, r2) := by first | (rw [hji73] at H; exact H) | (simp only [hji73] at H ⊢; exact H)
                   (try rw [hji73] at A57)
                   (try rw [hji73] at A71)
                   have hji73w : (IntKind.i64.wrap ((y344.length : Int) - 1)) = ji73 := (i64_w _).trans hji73
                   by_cases c74 : 0 ≤ (ji73)
                   ·rw [if_pos c74] at H
                    have c74b0 : decide (0 ≤ (ji73)) = true := decide_eq_true c74
                    clear c74
                    by_cases c75 : (ji73) < (y344.length : Int)
                    ·rw [if_pos c75] at H
                     have c75b0 : decide ((ji73) < (y344.length : Int)) = true := decide_eq_true c75
                     clear c75
                     obtain ⟨t348, A76, H⟩ := bm H
                     (try dsimp -simprocs only at H)
                     obtain ⟨t349, A77, H⟩ := bm H
                     (try dsimp -simprocs only at H)
                     have H' := am H
                     clear H
                     go_wp2_with (first | (at_lookup; refine wp_mget rfl _ _ rfl rfl rfl (by (with_reducible repeat (first | apply MR_alloc | apply MR_drewN | apply MR_drew)); exact HM13.out) A57.out ?_) | (go_at_call 108; (with_reducible refine (impl_nodeInput.calls kj40 t331 x20_40 t341 _ A71.out).mono ?_); rintro e w78 ⟨v342, rfl, ho0, hb⟩; (try (replace HM13 := am (MR_below (by (with_reducible repeat (first | apply MR_alloc | apply MR_drewN | apply MR_drew)); exact HM13.out) hb))); (try (replace HM17 := am (MR_below (by (with_reducible repeat (first | apply MR_alloc | apply MR_drewN | apply MR_drew)); exact HM17.out) hb))); replace HO_2 := am (Kd.V_elder' (mv HO_2.out) (Kd.R_base ho0) hb); replace HO_4 := am (Kd.V_elder' (mv HO_4.out) (Kd.R_base ho0) hb); replace HO_12 := am (Kd.S_elder' (mv HO_12.out) (Kd.R_base ho0) hb); replace HO_85 := am (Kd.V_elder' (mv HO_85.out) (Kd.R_base ho0) hb); have HO343 := am (Kd.R_lower (Kd.R_newM (M := fun k_ => (w.heap.size ≤ k_)) ho0 (below_size (bt)) (fun k_ h_ => h_)) (below_size (bt))); replace HB := am (below_step (bt) hb); (try clear hb); (try clear hb2); (try clear hk); (try clear hi); (try clear ho0); obtain ⟨Ao80, co80, eo80⟩ := Kd.R_slice HO343.out; subst eo80) | ((with_reducible refine gate_builtin (b := .append) (xs := #[.tmp 141, .tmp 145]) rfl ?_); (try (refine gate_guard (by rfl) ?_; dsimp only)); at_builtin; refine Kd.S_append (Kd.slice 5 (Kd.int .u8)) (w0 := w) w.heap.size rfl (.tmp 141) (.tmp 145) 24 22 (.slice none 0 0) 24 rfl Try.underlying24 info22 rfl (by decide) (by omega) u12 x12_4 t341 [.slice Ao80 t341.length co80] (fun k_ => (w.heap.size ≤ k_)) (fun k_ => some k_ = (.slice Ao80 t341.length co80 : Value).ownBlock) rfl rfl ?aP (fun k_ hk_ => ((Kd.R_mono (ok' := fun k_ => ((fun k_ => (w.heap.size ≤ k_))) k_ ∧ nb k_ u12) (Kd.R_apart' (HO343.out) (Kd.S_typed HO_12.out) (by decide)) (fun k_ hk => ⟨hk.1.1, hk.2⟩))).1 k_ hk_.symm) ?aF ?aO ?aB ?aS ?aL ?_; (case aP => exact Kd.M_row (Kd.R_mono (Kd.R_tight rfl (Kd.R_mono (ok' := fun k_ => ((fun k_ => (w.heap.size ≤ k_))) k_ ∧ nb k_ u12) (Kd.R_apart' (HO343.out) (Kd.S_typed HO_12.out) (by decide)) (fun k_ hk => ⟨hk.1.1, hk.2⟩))) (fun _ h_ => h_))); (case aB => exact (bt)); (case aF => exact (fun k_ hk => (Nat.le_trans (below_size (bt)) hk))); (case aO => exact (rS (h := by exact Kd.S_mono HO_12.out (fun k_ hk => ⟨hk.1, fun e_ => hk.2 e_⟩)))); (case aS => exact (below_size (bt))); (case aL => have := LMc72.out; omega); intro v345 w79 ho hb hg hat; (try (replace HM13 := am (MR_grown (by (with_reducible repeat (first | apply MR_alloc | apply MR_drewN | apply MR_drew)); exact HM13.out) hg (MR_ne HM13.out (Kd.S_typed (rS (h := by exact HO_12.out))))))); (try (replace HM17 := am (MR_grown (by (with_reducible repeat (first | apply MR_alloc | apply MR_drewN | apply MR_drew)); exact HM17.out) hg (MR_ne HM17.out (Kd.S_typed (rS (h := by exact HO_12.out))))))); rw [← Ny344.out] at ho; replace HO_2 := am (Kd.V_afterv (ok := (fun k_ => ((P2_ k_ ∨ P4_ k_) ∨ w.heap.size ≤ k_) ∧ nb k_ (.slice Ao80 t341.length co80))) (rV (h := by exact Kd.V_mono HO_2.out (fun _ hk => ⟨⟨hk.1.1, hk.2⟩, hk.1.2⟩))) hg hat); replace HO_4 := am (Kd.V_afterv (ok := (fun k_ => ((P2_ k_ ∨ P4_ k_) ∨ w.heap.size ≤ k_) ∧ nb k_ (.slice Ao80 t341.length co80))) (rV (h := by exact Kd.V_mono HO_4.out (fun _ hk => ⟨⟨hk.1.1, hk.2⟩, hk.1.2⟩))) hg hat); replace HO_85 := am (Kd.V_afterv (ok := (fun k_ => ((P2_ k_ ∨ P4_ k_) ∨ w.heap.size ≤ k_) ∧ nb k_ (.slice Ao80 t341.length co80))) (rV (h := by exact Kd.V_mono HO_85.out (fun _ hk => ⟨⟨hk.1.1, hk.2⟩, hk.1.2⟩))) hg hat); replace HB := am (hb); have HO346 := am (ho); clear HO_12 HO343; clear ho hb hg hat; obtain ⟨Ao81, co81, eo81⟩ := Kd.S_slice HO346.out; subst eo81; have p347 : 0 ≤ ((ji73) : Int) := of_decide_eq_true asm; have q347 : (ji73) < (y344.length : Int) := of_decide_eq_true asm; obtain ⟨ad347, A347_0, c347_0, e347, hx347_0, hl347_0, hi347_0⟩ := at_L1 (Kd.S_reads' HO346.out).2.2 (ji73) p347 q347; cases e347; obtain ⟨ce347, hce347, hMe347, hcc347⟩ := Kd.S_get HO346.out [] (ji73) p347 (by first | exact q347 | exact of_decide_eq_true asm | (have e_ := (Kd.S_reads' HO346.out).1; omega)); obtain ⟨ve347_0, rfl, ge347_0⟩ := hMe347; have hv347_0 := hcc347 0 _ rfl; rw [Nat.add_zero, show ((Kd.slice 5 (Kd.int .u8))).sz = 1 from rfl, Nat.mul_one] at hv347_0; replace hv347_0 := Option.some.inj (hv347_0.symm.trans hx347_0); rw [hv347_0] at ge347_0; have HL347_0 := am (show Kd.R (Kd.int .u8) 5 _ _ _ _ (rd_L1 y344 (ji73)) from ge347_0); clear hv347_0 ge347_0; clear hcc347 hce347; have HR347_0 := am hi347_0; have HC347_0 := am hl347_0; clear hi347_0 hl347_0; replace p347 := eq_true p347; replace q347 := eq_true q347) | (go_at_call 56; (with_reducible refine (impl_Digest.calls a0 _ _ (rd_L1 y344 (ji73)) t348 _ ?side1 ?side2 A76.out).mono ?_); (case side1 => repeat (first | exact (cv HR347_0.out) | (with_reducible refine Kd.C_alloc ?_ _) | (with_reducible refine Kd.C_drewN ?_ _) | (with_reducible refine Kd.C_drew ?_))); (case side2 => exact HC347_0.out); rintro e w82 ⟨rfl, hb⟩; (try (replace HM13 := am (MR_below (by (with_reducible repeat (first | apply MR_alloc | apply MR_drewN | apply MR_drew)); exact HM13.out) hb))); (try (replace HM17 := am (MR_below (by (with_reducible repeat (first | apply MR_alloc | apply MR_drewN | apply MR_drew)); exact HM17.out) hb))); replace HO_2 := am (Kd.V_below (mv HO_2.out) hb); replace HO_4 := am (Kd.V_below (mv HO_4.out) hb); replace HO_85 := am (Kd.V_below (mv HO_85.out) hb); replace HO346 := am (Kd.S_below (mv HO346.out) hb); replace HL347_0 := am (Kd.R_below (mv HL347_0.out) hb); replace HR347_0 := am (Kd.C_below (cv HR347_0.out) hb); replace HB := am (below_step (bt) hb); (try clear hb); (try clear hb2); (try clear hk); (try clear hi)) | (at_mapUpdate; refine wp_mput rfl rfl _ _ _ rfl rfl rfl rfl (by (with_reducible repeat (first | apply MR_alloc | apply MR_drewN | apply MR_drew)); exact HM17.out) A77.out ?_; intro wm hM_ ht_; (first | replace HO346 := am (V_turn (mv HO346.out) ht_) | replace HO346 := am (S_turn (mv HO346.out) ht_)); (first | replace HO_2 := am (V_turn (mv HO_2.out) ht_) | replace HO_2 := am (S_turn (mv HO_2.out) ht_)); (first | replace HO_4 := am (V_turn (mv HO_4.out) ht_) | replace HO_4 := am (S_turn (mv HO_4.out) ht_)); (first | replace HO_85 := am (V_turn (mv HO_85.out) ht_) | replace HO_85 := am (S_turn (mv HO_85.out) ht_)); replace HM13 := am (MR_turn (by (with_reducible repeat (first | apply MR_alloc | apply MR_drewN | apply MR_drew)); exact HM13.out) ht_ HNE.out); replace HB := am (below_turn (bt) ht_); replace HM17 := am hM_; clear hM_ ht_))
                     go_roundg kj40
                     case measure => have := HJ5.out; have := HK2.out; have := HK3.out; have := HK4.out; have := HJ40.out; omega
                     case rel => exact ⟨(x4_40), (y344), (t349), (wrap64 (x87_4 + 1)), e0, H', ⟨by have := HJ5.out; have := HK2.out; have := HK3.out; have := HK4.out; have := HJ40.out; omega⟩, ⟨rV (h := by exact Kd.V_mono HO_2.out (fun _ hk => ⟨hk.1.1, hk.2⟩))⟩, ⟨rV (h := by exact Kd.V_mono HO_4.out (fun _ hk => ⟨hk.1.1, hk.2⟩))⟩, ⟨mv HO346.out⟩, ⟨rV (h := by exact Kd.V_mono HO_85.out (fun _ hk => ⟨hk.1.1, hk.2⟩))⟩, ⟨bt⟩, ⟨(by (with_reducible repeat (first | apply MR_alloc | apply MR_drewN | apply MR_drew)); exact HM13.out)⟩, ⟨(by (with_reducible repeat (first | apply MR_alloc | apply MR_drewN | apply MR_drew)); exact HM17.out)⟩, HNE⟩
                    ·exact nh c75 H
                   ·exact nh c74 H
                  ·exact nh c72 H
              ·exact nh c39 H
             ·exact nh c38 H
            ·rw [if_neg c37] at H
             have c37b0 : decide (x87_4 < (x2_3.length : Int)) = false := decide_eq_false c37
             clear c37
             obtain ⟨t317, A83, H⟩ := bm H
             (try dsimp -simprocs only at H)
             have H' := am H
             clear H
             go_wp2_with (first | (go_at_call 92; (with_reducible refine (impl_above.calls _ _ x2_3 t317 _ ?side1 ?side2 A83.out).mono ?_); (case side1 => exact cv ((Kd.V_reads' HO_2.out).2.2)); (case side2 => exact (Kd.V_reads' HO_2.out).2.1); rintro e w84 ⟨v318, rfl, ho0, hb⟩; (try (replace HM13 := am (MR_below (by (with_reducible repeat (first | apply MR_alloc | apply MR_drewN | apply MR_drew)); exact HM13.out) hb))); (try (replace HM17 := am (MR_below (by (with_reducible repeat (first | apply MR_alloc | apply MR_drewN | apply MR_drew)); exact HM17.out) hb))); replace HO_2 := am (Kd.V_elder' (mv HO_2.out) (Kd.R_base ho0) hb); replace HO_4 := am (Kd.V_elder' (mv HO_4.out) (Kd.R_base ho0) hb); replace HO_12 := am (Kd.S_below (mv HO_12.out) hb); replace HO_85 := am (Kd.V_elder' (mv HO_85.out) (Kd.R_base ho0) hb); have HO319 := am (Kd.R_lower (Kd.R_newM (M := fun k_ => (w.heap.size ≤ k_)) ho0 (below_size (bt)) (fun k_ h_ => h_)) (below_size (bt))); replace HB := am (below_step (bt) hb); (try clear hb); (try clear hb2); (try clear hk); (try clear hi); (try clear ho0)))
             go_roundg k4
             case measure => have := HJ5.out; have := HK2.out; have := HK3.out; have := HK4.out; omega
             case rel => exact ⟨(t317), (x4_4), (x12_4), (x17_4), _, (wrap64 (Int.tdiv (wrap64 (x16_3 + 1)) 2)), e0, e0, H', ⟨by have := HJ5.out; have := HK2.out; have := HK3.out; have := HK4.out; omega⟩, ⟨by have hR_ := (Kd.R_apart' HO319.out (Kd.S_typed HO_12.out) (by decide)); exact Kd.V_mono (Kd.R_V hR_) (fun k_ hk => ⟨.inr (hk.1.1), hk.2⟩)⟩, ⟨rV (h := by exact Kd.V_mono HO_4.out (fun _ hk => ⟨hk.1.1, hk.1.2⟩))⟩, ⟨mv HO_12.out⟩, ⟨bt⟩, ⟨(by (with_reducible repeat (first | apply MR_alloc | apply MR_drewN | apply MR_drew)); exact HM17.out)⟩⟩
         ·rw [if_neg c34] at H
          have c34b0 : decide (1 < x16_3) = false := decide_eq_false c34
          clear c34
          obtain ⟨t309, A85, H⟩ := bm H
          (try dsimp -simprocs only at H)
          obtain ⟨t310, A86, H⟩ := bm H
          (try dsimp -simprocs only at H)
          by_cases c87 : x12_3.length < 5864062014805
          ·rw [if_pos c87] at H
           have LMc87 := am c87
           clear c87
           obtain ⟨y313, hy313⟩ : ∃ y_ : List (List Int), y_ = (x12_3 ++ [t310]) := ⟨_, rfl⟩
           replace H : (some (y313, ((x4_3.length : Int) == 0))) = some (r1, r2) := by first | (rw [hy313]; exact H) | exact H
           have Ny313 := am hy313
           clear hy313
           simp only [Option.some.injEq, Prod.mk.injEq] at H
           obtain ⟨rfl, rfl⟩ := H
           go_wp2_with (first | (at_lookup; refine wp_mget rfl _ _ rfl rfl rfl (by (with_reducible repeat (first | apply MR_alloc | apply MR_drewN | apply MR_drew)); exact HM13.out) A85.out ?_) | (go_at_call 105; (with_reducible refine (impl_topInput.calls k3 a1 t309 t310 _ A86.out).mono ?_); rintro e w88 ⟨v311, rfl, ho0, hb⟩; (try (replace HM13 := am (MR_below (by (with_reducible repeat (first | apply MR_alloc | apply MR_drewN | apply MR_drew)); exact HM13.out) hb))); (try (replace HM17 := am (MR_below (by (with_reducible repeat (first | apply MR_alloc | apply MR_drewN | apply MR_drew)); exact HM17.out) hb))); replace HO_2 := am (Kd.V_elder' (mv HO_2.out) (Kd.R_base ho0) hb); replace HO_4 := am (Kd.V_elder' (mv HO_4.out) (Kd.R_base ho0) hb); replace HO_12 := am (Kd.S_elder' (mv HO_12.out) (Kd.R_base ho0) hb); have HO312 := am (Kd.R_lower (Kd.R_newM (M := fun k_ => (w.heap.size ≤ k_)) ho0 (below_size (bt)) (fun k_ h_ => h_)) (below_size (bt))); replace HB := am (below_step (bt) hb); (try clear hb); (try clear hb2); (try clear hk); (try clear hi); (try clear ho0); obtain ⟨Ao90, co90, eo90⟩ := Kd.R_slice HO312.out; subst eo90) | ((with_reducible refine gate_builtin (b := .append) (xs := #[.tmp 162, .tmp 167]) rfl ?_); (try (refine gate_guard (by rfl) ?_; dsimp only)); at_builtin; refine Kd.S_append (Kd.slice 5 (Kd.int .u8)) (w0 := w) w.heap.size rfl (.tmp 162) (.tmp 167) 24 22 (.slice none 0 0) 24 rfl Try.underlying24 info22 rfl (by decide) (by omega) u12 x12_3 t310 [.slice Ao90 t310.length co90] (fun k_ => (w.heap.size ≤ k_)) (fun k_ => some k_ = (.slice Ao90 t310.length co90 : Value).ownBlock) rfl rfl ?aP (fun k_ hk_ => ((Kd.R_mono (ok' := fun k_ => ((fun k_ => (w.heap.size ≤ k_))) k_ ∧ nb k_ u12) (Kd.R_apart' (HO312.out) (Kd.S_typed HO_12.out) (by decide)) (fun k_ hk => ⟨hk.1.1, hk.2⟩))).1 k_ hk_.symm) ?aF ?aO ?aB ?aS ?aL ?_; (case aP => exact Kd.M_row (Kd.R_mono (Kd.R_tight rfl (Kd.R_mono (ok' := fun k_ => ((fun k_ => (w.heap.size ≤ k_))) k_ ∧ nb k_ u12) (Kd.R_apart' (HO312.out) (Kd.S_typed HO_12.out) (by decide)) (fun k_ hk => ⟨hk.1.1, hk.2⟩))) (fun _ h_ => h_))); (case aB => exact (bt)); (case aF => exact (fun k_ hk => (Nat.le_trans (below_size (bt)) hk))); (case aO => exact (rS (h := by exact Kd.S_mono HO_12.out (fun k_ hk => ⟨hk.1, fun e_ => hk.2 e_⟩)))); (case aS => exact (below_size (bt))); (case aL => have := LMc87.out; omega); intro v314 w89 ho hb hg hat; (try (replace HM13 := am (MR_grown (by (with_reducible repeat (first | apply MR_alloc | apply MR_drewN | apply MR_drew)); exact HM13.out) hg (MR_ne HM13.out (Kd.S_typed (rS (h := by exact HO_12.out))))))); (try (replace HM17 := am (MR_grown (by (with_reducible repeat (first | apply MR_alloc | apply MR_drewN | apply MR_drew)); exact HM17.out) hg (MR_ne HM17.out (Kd.S_typed (rS (h := by exact HO_12.out))))))); rw [← Ny313.out] at ho; replace HO_2 := am (Kd.V_afterv (ok := (fun k_ => ((P2_ k_ ∨ P4_ k_) ∨ w.heap.size ≤ k_) ∧ nb k_ (.slice Ao90 t310.length co90))) (rV (h := by exact Kd.V_mono HO_2.out (fun _ hk => ⟨⟨hk.1.1, hk.2⟩, hk.1.2⟩))) hg hat); replace HO_4 := am (Kd.V_afterv (ok := (fun k_ => ((P2_ k_ ∨ P4_ k_) ∨ w.heap.size ≤ k_) ∧ nb k_ (.slice Ao90 t310.length co90))) (rV (h := by exact Kd.V_mono HO_4.out (fun _ hk => ⟨⟨hk.1.1, hk.2⟩, hk.1.2⟩))) hg hat); replace HB := am (hb); have HO315 := am (ho); clear HO_12 HO312; clear ho hb hg hat; obtain ⟨Ao91, co91, eo91⟩ := Kd.V_slice HO_4.out; subst eo91))
           go_ret2
           exact ⟨_, by first | rfl | (simp [errW_none, errW_some] <;> rfl) | (simp [*, errW_none, errW_some] <;> rfl), rS (h := by exact HO315.out), bt⟩
          ·exact nh c87 H

end Go.Proofs.Ytchjajbkaiefdaa.PFnMany
