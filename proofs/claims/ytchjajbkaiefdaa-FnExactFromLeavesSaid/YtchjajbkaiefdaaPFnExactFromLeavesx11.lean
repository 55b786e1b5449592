-- Written by a program of this workplace (wip/mp.py) out of the translation.
import Derived.Test.YtchjajbkaiefdaaPFnExactFromLeavesx0
import Derived.Test.YtchjajbkaiefdaaPFnExactFromLeavesx7
import Derived.Test.YtchjajbkaiefdaaPFnExactFromLeavesx8
import Derived.Test.YtchjajbkaiefdaaPFnExactFromLeavesx9
import Derived.Test.YtchjajbkaiefdaaPFnExactFromLeavesx10
namespace Go.Proofs.Ytchjajbkaiefdaa.PFnExactFromLeaves
open Go.RowKit Go.Proofs.YtchjajbkaiefdaaW.PrintWords Go.Proofs.YtchjajbkaiefdaaW.PrintLast Go.Proofs.YtchjajbkaiefdaaW.PrintMore Go.Proofs.Ytchjajbkaiefdaa.Slim
attribute [local go_sem] max2_int min2_int max_two min_two max_three min_three max_four min_four   -- for this text's walks alone
set_option linter.unusedVariables false
set_option linter.unusedSimpArgs false

/-! ### impl_climb: function 59 -/
mutual
def impl_climb.j0 : Nat → Int → Int → Int → List Int → List Int → Bool → Option ((List (List Int)) × Bool)
 | 0, _, _, _, _, _, _ => none
 | k + 1, x0, x1, x2, x3, x4, x39 => if x39 = true then (some (([] : List (List Int)), false)) else ((impl_leafInput.f x3).bind fun t422 => ((some (([t422] : List (List Int)) : List (List Int))).bind fun y425 => (if 0 < (y425.length : Int) then ((impl_Digest.f x0 (rd_L1 y425 0)).bind fun t429 => (impl_climb.l0 k x0 x1 x2 x4 y425 t429 x1)) else (none))))
def impl_climb.l0 : Nat → Int → Int → Int → List Int → List (List Int) → Int → Int → Option ((List (List Int)) × Bool)
 | 0, _, _, _, _, _, _, _ => none
 | k + 1, x0, x1, x2, x4, x12, x13, x14 => if x14 > 1 then (if (Go.bits .xor .i64 x2 1) < x14 then (if (x4.length : Int) = 0 then (some (([] : List (List Int)), false)) else (if 0 < (x4.length : Int) then (if (Int.tmod x2 2) = 1 then (if 1 ≤ (x4.length : Int) then ((impl_nodeInput.f k (rd x4 0) x13).bind fun t442 => (if x12.length < 5864062014805 then ((some (x12 ++ [t442] : List (List Int))).bind fun y445 => (if 0 ≤ (wrap64 ((y445.length : Int) - 1)) then (if (wrap64 ((y445.length : Int) - 1)) < (y445.length : Int) then ((impl_Digest.f x0 (rd_L1 y445 (wrap64 ((y445.length : Int) - 1)))).bind fun t449 => (impl_climb.l0 k x0 x1 (wrap64 (Int.tdiv x2 2)) (x4.drop 1) y445 t449 (wrap64 (Int.tdiv (wrap64 (x14 + 1)) 2)))) else (none)) else (none))) else (none))) else (none)) else (if 1 ≤ (x4.length : Int) then ((impl_nodeInput.f k x13 (rd x4 0)).bind fun t455 => (if x12.length < 5864062014805 then ((some (x12 ++ [t455] : List (List Int))).bind fun y458 => (if 0 ≤ (wrap64 ((y458.length : Int) - 1)) then (if (wrap64 ((y458.length : Int) - 1)) < (y458.length : Int) then ((impl_Digest.f x0 (rd_L1 y458 (wrap64 ((y458.length : Int) - 1)))).bind fun t462 => (impl_climb.l0 k x0 x1 (wrap64 (Int.tdiv x2 2)) (x4.drop 1) y458 t462 (wrap64 (Int.tdiv (wrap64 (x14 + 1)) 2)))) else (none)) else (none))) else (none))) else (none))) else (none))) else (impl_climb.l0 k x0 x1 (wrap64 (Int.tdiv x2 2)) x4 x12 x13 (wrap64 (Int.tdiv (wrap64 (x14 + 1)) 2)))) else ((impl_topInput.f k x1 x13).bind fun t430 => (if x12.length < 5864062014805 then (some ((x12 ++ [t430]), ((x4.length : Int) == 0))) else (none)))
end
def impl_climb.f (k : Nat) (a0 : Int) (a1 : Int) (a2 : Int) (l3 : List Int) (l4 : List Int) : Option ((List (List Int)) × Bool) := (impl_in.f a1 1 16).bind fun t415 => (if t415 = true then ((impl_in.f a2 0 (wrap64 (a1 - 1))).bind fun t416 => (if t416 = true then ((impl_leavesOk.f a0 (([l3] : List (List Int)))).bind fun t420 => (if t420 = true then ((impl_digests.f a0 l4).bind fun t421 => (impl_climb.j0 k a0 a1 a2 l3 l4 (!t421))) else (impl_climb.j0 k a0 a1 a2 l3 l4 true))) else (impl_climb.j0 k a0 a1 a2 l3 l4 true))) else (impl_climb.j0 k a0 a1 a2 l3 l4 true))
set_option maxHeartbeats 8000000 in
set_option maxRecDepth 100000 in
theorem impl_climb.calls (k : Nat) (a0 : Int) (a1 : Int) (a2 : Int) (P3_ : Nat → Prop) (A3 : Option Addr) (c3 : Nat) (l3 : List Int) (P4_ : Nat → Prop) (A4 : Option Addr) (c4 : Nat) (l4 : List Int) (r1 : List (List Int)) (r2 : Bool) (w : World) (hs3 : Kd.V (Kd.int .u8) 5 w w.heap.size (fun k_ => P3_ k_) (.slice A3 l3.length c3) l3) (hs4 : Kd.V (Kd.int .i64) 3 w w.heap.size (fun k_ => P4_ k_) (.slice A4 l4.length c4) l4) (h : impl_climb.f k a0 a1 a2 l3 l4 = some (r1, r2)) :
  Calls Try.prog 59 #[.int .i64 a0, .int .i64 a1, .int .i64 a2, .slice A3 l3.length c3, .slice A4 l4.length c4] w fun e w' => ∃ v0_ : Value, e = .returned (.tuple #[v0_, .bool r2]) ∧ Kd.N (Kd.slice 5 (Kd.int .u8)) 22 w' w.heap.size (fun k_ => ((P3_ k_ ∨ P4_ k_) ∨ w.heap.size ≤ k_)) v0_ r1 ∧ Below w.heap.size w w' := by
 have HO3 := Aside0.mk (show Kd.V (Kd.int .u8) 5 w w.heap.size (fun k_ => ((P3_ k_ ∨ P4_ k_) ∨ w.heap.size ≤ k_)) (.slice A3 l3.length c3) l3 from Kd.V_mono hs3 (fun k_ hk => .inl (.inl hk)))
 have HO4 := Aside0.mk (show Kd.V (Kd.int .i64) 3 w w.heap.size (fun k_ => ((P3_ k_ ∨ P4_ k_) ∨ w.heap.size ≤ k_)) (.slice A4 l4.length c4) l4 from Kd.V_mono hs4 (fun k_ hk => .inl (.inr hk)))
 have HB := Aside0.mk (Below.refl w.heap.size w)
 have H : ((impl_in.f a1 1 16).bind fun t415 => (if t415 = true then ((impl_in.f a2 0 (wrap64 (a1 - 1))).bind fun t416 => (if t416 = true then ((impl_leavesOk.f a0 (([l3] : List (List Int)))).bind fun t420 => (if t420 = true then ((impl_digests.f a0 l4).bind fun t421 => (impl_climb.j0 k a0 a1 a2 l3 l4 (!t421))) else (impl_climb.j0 k a0 a1 a2 l3 l4 true))) else (impl_climb.j0 k a0 a1 a2 l3 l4 true))) else (impl_climb.j0 k a0 a1 a2 l3 l4 true))) = some (r1, r2) := h
 clear h
 have HC6 := Aside0.mk H
 clear H
 go_enter Try.func59, Try.ntmps59
 go_upto_region 1 with (fail)
 go_cut [39] (fun v39 wc => ∃ (kq : Nat) (x39_5 : Bool), v39 = .bool x39_5 ∧ Aside0 (impl_climb.j0 kq a0 a1 a2 l3 l4 x39_5 = some (r1, r2)) ∧ Aside0 (kq ≤ k) ∧ Aside0 (Kd.V (Kd.int .u8) 5 wc w.heap.size (fun k_ => ((P3_ k_ ∨ P4_ k_) ∨ w.heap.size ≤ k_)) (.slice A3 l3.length c3) l3) ∧ Aside0 (Kd.V (Kd.int .i64) 3 wc w.heap.size (fun k_ => ((P3_ k_ ∨ P4_ k_) ∨ w.heap.size ≤ k_)) (.slice A4 l4.length c4) l4) ∧ Aside0 (Below w.heap.size w wc))
 case first =>
  have H := HC6.out
  clear HC6
  replace H := Option.bind_eq_some_iff.mp H
  obtain ⟨t415, A70, H⟩ := H
  (try dsimp -simprocs only at H)
  have A7 := Aside0.mk A70
  clear A70
  by_cases c8 : t415 = true
  ·subst c8
   rw [if_pos rfl] at H
   replace H := Option.bind_eq_some_iff.mp H
   obtain ⟨t416, A90, H⟩ := H
   (try dsimp -simprocs only at H)
   have A9 := Aside0.mk A90
   clear A90
   by_cases c10 : t416 = true
   ·subst c10
    rw [if_pos rfl] at H
    obtain ⟨y417, hy417⟩ : ∃ y_ : List (List Int), y_ = (([l3] : List (List Int))) := ⟨_, rfl⟩
    replace H : ((impl_leavesOk.f a0 y417).bind fun t420 => (if t420 = true then ((impl_digests.f a0 l4).bind fun t421 => (impl_climb.j0 k a0 a1 a2 l3 l4 (!t421))) else (impl_climb.j0 k a0 a1 a2 l3 l4 true))) = some (r1, r2) := by first | (rw [hy417]; exact H) | exact H
    have Ny417 := Aside0.mk hy417
    clear hy417
    replace H := Option.bind_eq_some_iff.mp H
    obtain ⟨t420, A110, H⟩ := H
    (try dsimp -simprocs only at H)
    have A11 := Aside0.mk A110
    clear A110
    by_cases c12 : t420 = true
    ·subst c12
     rw [if_pos rfl] at H
     replace H := Option.bind_eq_some_iff.mp H
     obtain ⟨t421, A130, H⟩ := H
     (try dsimp -simprocs only at H)
     have A13 := Aside0.mk A130
     clear A130
     have H' := Aside0.mk H
     clear H
     go_wp2_with (first | (go_at_call 94; (with_reducible refine (impl_in.calls a1 1 16 true _ A7.out).mono ?_); rintro e w' ⟨rfl, ⟨nd, rfl⟩⟩; (try first | exact ⟨rfl, _, World.drewN_drewN _ _ _⟩ | exact ⟨rfl, _, Eq.trans (World.drewN_drewN _ _ _) (congrArg (World.drewN _) (Nat.add_assoc _ _ _))⟩)) | (go_at_call 94; (with_reducible refine (impl_in.calls a2 0 (wrap64 (a1 - 1)) true _ A9.out).mono ?_); rintro e w' ⟨rfl, ⟨nd, rfl⟩⟩; (try first | exact ⟨rfl, _, World.drewN_drewN _ _ _⟩ | exact ⟨rfl, _, Eq.trans (World.drewN_drewN _ _ _) (congrArg (World.drewN _) (Nat.add_assoc _ _ _))⟩)) | ((with_reducible refine gate_dst (N := 30) rfl ?_); (try (refine gate_guard (by rfl) ?_; dsimp only)); refine Kd.N_lit (Kd.slice 5 (Kd.int .u8)) _ 22 ?hg (N' := 30) ?hd (xs := ([l3] : List (List Int))) (inner := [.slice A3 l3.length c3]) (ok := (fun k_ => ((P3_ k_ ∨ P4_ k_) ∨ w.heap.size ≤ k_))) (okp := (fun k_ => ((P3_ k_ ∨ P4_ k_) ∨ w.heap.size ≤ k_))) ?hr ?hp (fun _ hk => hk) ((show ∀ k_, w.heap.size ≤ k_ → (fun k_ => ((P3_ k_ ∨ P4_ k_) ∨ w.heap.size ≤ k_)) k_ from fun k_ hk => (.inr (Nat.le_trans (below_size (bt)) hk))) _ (Nat.le_refl _)) (Below.refl _ _) (Nat.le_refl _) (by simp) ?_; (case hd => rfl); (case hg => rfl); (case hr => first | (go_simp; done) | (go_simp; rfl)); (case hp => exact (Reps.one (show Kd.FK (Kd.slice 5 (Kd.int .u8)) _ _ l3 [.slice A3 l3.length c3] from (Kd.FK_slice_mk (Kd.V_reads' (e := 0) (base := 0) (Kd.V_mono (e := 0) (base := 0) (ok' := (fun k_ => ((P3_ k_ ∨ P4_ k_) ∨ w.heap.size ≤ k_))) (HO3.out) (fun k_ hk => hk))).2.1 (Kd.V_F (e := 0) (base := 0) (Kd.V_mono (e := 0) (base := 0) (ok' := (fun k_ => ((P3_ k_ ∨ P4_ k_) ∨ w.heap.size ≤ k_))) (HO3.out) (fun k_ hk => hk))))) (Reps.none _ _))); intro v418 w14 ho15 hb hg_ hnew_; clear hg_ hnew_; (first | rw [← Ny417.out] at ho15 | (simp only [Int.reduceToNat] at ho15; rw [← Ny417.out] at ho15)); replace HO3 := Aside0.mk (Kd.V_elder' (mv HO3.out) (Kd.N_base ho15) hb); replace HO4 := Aside0.mk (Kd.V_elder' (mv HO4.out) (Kd.N_base ho15) hb); have HO419 := Aside0.mk (Kd.N_lower ho15 (below_size (bt))); replace HB := Aside0.mk (below_step (bt) hb); clear hb ho15; obtain ⟨Ao16, co16, eo16⟩ := Kd.N_slice HO419.out; subst eo16) | (go_at_call 55; (with_reducible refine (impl_leavesOk.calls a0 _ _ y417 true _ ?side1 ?side2 A11.out).mono ?_); (case side1 => exact cv ((Kd.N_reads' HO419.out).2.2)); (case side2 => exact (Kd.N_reads' HO419.out).2.1); rintro e w' ⟨rfl, ⟨nd, rfl⟩⟩; (try first | exact ⟨rfl, _, World.drewN_drewN _ _ _⟩ | exact ⟨rfl, _, Eq.trans (World.drewN_drewN _ _ _) (congrArg (World.drewN _) (Nat.add_assoc _ _ _))⟩)) | (go_at_call 106; (with_reducible refine (impl_digests.calls a0 _ _ l4 t421 _ ?side1 ?side2 A13.out).mono ?_); (case side1 => exact cv ((Kd.V_reads' HO4.out).2.2)); (case side2 => exact (Kd.V_reads' HO4.out).2.1); rintro e w17 ⟨rfl, hb⟩; replace HO3 := Aside0.mk (Kd.V_below (mv HO3.out) hb); replace HO4 := Aside0.mk (Kd.V_below (mv HO4.out) hb); replace HO419 := Aside0.mk (Kd.N_below (mv HO419.out) hb); replace HB := Aside0.mk (below_step (bt) hb); (try clear hb); (try clear hb2); (try clear hk); (try clear hi)))
     go_meet
     case rel => exact ⟨_, (!t421), (by first | rfl | (simp; done) | (simp [*]; done)), H', ⟨by first | omega | exact Nat.le_refl _⟩, ⟨by (with_reducible repeat (first | apply Kd.V_alloc | apply Kd.V_drewN | apply Kd.V_drew)); exact Kd.V_mono HO3.out (fun _ hk => hk.1)⟩, ⟨by (with_reducible repeat (first | apply Kd.V_alloc | apply Kd.V_drewN | apply Kd.V_drew)); exact Kd.V_mono HO4.out (fun _ hk => hk.1)⟩, ⟨bt⟩⟩
    ·replace c12 := Bool.eq_false_iff.mpr c12
     subst c12
     rw [if_neg (show ¬ (false = true) by decide)] at H
     have H' := Aside0.mk H
     clear H
     go_wp2_with (first | (go_at_call 94; (with_reducible refine (impl_in.calls a1 1 16 true _ A7.out).mono ?_); rintro e w' ⟨rfl, ⟨nd, rfl⟩⟩; (try first | exact ⟨rfl, _, World.drewN_drewN _ _ _⟩ | exact ⟨rfl, _, Eq.trans (World.drewN_drewN _ _ _) (congrArg (World.drewN _) (Nat.add_assoc _ _ _))⟩)) | (go_at_call 94; (with_reducible refine (impl_in.calls a2 0 (wrap64 (a1 - 1)) true _ A9.out).mono ?_); rintro e w' ⟨rfl, ⟨nd, rfl⟩⟩; (try first | exact ⟨rfl, _, World.drewN_drewN _ _ _⟩ | exact ⟨rfl, _, Eq.trans (World.drewN_drewN _ _ _) (congrArg (World.drewN _) (Nat.add_assoc _ _ _))⟩)) | ((with_reducible refine gate_dst (N := 30) rfl ?_); (try (refine gate_guard (by rfl) ?_; dsimp only)); refine Kd.N_lit (Kd.slice 5 (Kd.int .u8)) _ 22 ?hg (N' := 30) ?hd (xs := ([l3] : List (List Int))) (inner := [.slice A3 l3.length c3]) (ok := (fun k_ => ((P3_ k_ ∨ P4_ k_) ∨ w.heap.size ≤ k_))) (okp := (fun k_ => ((P3_ k_ ∨ P4_ k_) ∨ w.heap.size ≤ k_))) ?hr ?hp (fun _ hk => hk) ((show ∀ k_, w.heap.size ≤ k_ → (fun k_ => ((P3_ k_ ∨ P4_ k_) ∨ w.heap.size ≤ k_)) k_ from fun k_ hk => (.inr (Nat.le_trans (below_size (bt)) hk))) _ (Nat.le_refl _)) (Below.refl _ _) (Nat.le_refl _) (by simp) ?_; (case hd => rfl); (case hg => rfl); (case hr => first | (go_simp; done) | (go_simp; rfl)); (case hp => exact (Reps.one (show Kd.FK (Kd.slice 5 (Kd.int .u8)) _ _ l3 [.slice A3 l3.length c3] from (Kd.FK_slice_mk (Kd.V_reads' (e := 0) (base := 0) (Kd.V_mono (e := 0) (base := 0) (ok' := (fun k_ => ((P3_ k_ ∨ P4_ k_) ∨ w.heap.size ≤ k_))) (HO3.out) (fun k_ hk => hk))).2.1 (Kd.V_F (e := 0) (base := 0) (Kd.V_mono (e := 0) (base := 0) (ok' := (fun k_ => ((P3_ k_ ∨ P4_ k_) ∨ w.heap.size ≤ k_))) (HO3.out) (fun k_ hk => hk))))) (Reps.none _ _))); intro v418 w18 ho19 hb hg_ hnew_; clear hg_ hnew_; (first | rw [← Ny417.out] at ho19 | (simp only [Int.reduceToNat] at ho19; rw [← Ny417.out] at ho19)); replace HO3 := Aside0.mk (Kd.V_elder' (mv HO3.out) (Kd.N_base ho19) hb); replace HO4 := Aside0.mk (Kd.V_elder' (mv HO4.out) (Kd.N_base ho19) hb); have HO419 := Aside0.mk (Kd.N_lower ho19 (below_size (bt))); replace HB := Aside0.mk (below_step (bt) hb); clear hb ho19; obtain ⟨Ao20, co20, eo20⟩ := Kd.N_slice HO419.out; subst eo20) | (go_at_call 55; (with_reducible refine (impl_leavesOk.calls a0 _ _ y417 false _ ?side1 ?side2 A11.out).mono ?_); (case side1 => exact cv ((Kd.N_reads' HO419.out).2.2)); (case side2 => exact (Kd.N_reads' HO419.out).2.1); rintro e w' ⟨rfl, ⟨nd, rfl⟩⟩; (try first | exact ⟨rfl, _, World.drewN_drewN _ _ _⟩ | exact ⟨rfl, _, Eq.trans (World.drewN_drewN _ _ _) (congrArg (World.drewN _) (Nat.add_assoc _ _ _))⟩)))
     go_meet
     case rel => exact ⟨_, (true), (by first | rfl | (simp; done) | (simp [*]; done)), H', ⟨by first | omega | exact Nat.le_refl _⟩, ⟨by (with_reducible repeat (first | apply Kd.V_alloc | apply Kd.V_drewN | apply Kd.V_drew)); exact Kd.V_mono HO3.out (fun _ hk => hk.1)⟩, ⟨by (with_reducible repeat (first | apply Kd.V_alloc | apply Kd.V_drewN | apply Kd.V_drew)); exact Kd.V_mono HO4.out (fun _ hk => hk.1)⟩, ⟨bt⟩⟩
   ·replace c10 := Bool.eq_false_iff.mpr c10
    subst c10
    rw [if_neg (show ¬ (false = true) by decide)] at H
    have H' := Aside0.mk H
    clear H
    go_wp2_with (first | (go_at_call 94; (with_reducible refine (impl_in.calls a1 1 16 true _ A7.out).mono ?_); rintro e w' ⟨rfl, ⟨nd, rfl⟩⟩; (try first | exact ⟨rfl, _, World.drewN_drewN _ _ _⟩ | exact ⟨rfl, _, Eq.trans (World.drewN_drewN _ _ _) (congrArg (World.drewN _) (Nat.add_assoc _ _ _))⟩)) | (go_at_call 94; (with_reducible refine (impl_in.calls a2 0 (wrap64 (a1 - 1)) false _ A9.out).mono ?_); rintro e w' ⟨rfl, ⟨nd, rfl⟩⟩; (try first | exact ⟨rfl, _, World.drewN_drewN _ _ _⟩ | exact ⟨rfl, _, Eq.trans (World.drewN_drewN _ _ _) (congrArg (World.drewN _) (Nat.add_assoc _ _ _))⟩)))
    go_meet
    case rel => exact ⟨_, (true), (by first | rfl | (simp; done) | (simp [*]; done)), H', ⟨by first | omega | exact Nat.le_refl _⟩, ⟨mv HO3.out⟩, ⟨mv HO4.out⟩, ⟨bt⟩⟩
  ·replace c8 := Bool.eq_false_iff.mpr c8
   subst c8
   rw [if_neg (show ¬ (false = true) by decide)] at H
   have H' := Aside0.mk H
   clear H
   go_wp2_with (first | (go_at_call 94; (with_reducible refine (impl_in.calls a1 1 16 false _ A7.out).mono ?_); rintro e w' ⟨rfl, ⟨nd, rfl⟩⟩; (try first | exact ⟨rfl, _, World.drewN_drewN _ _ _⟩ | exact ⟨rfl, _, Eq.trans (World.drewN_drewN _ _ _) (congrArg (World.drewN _) (Nat.add_assoc _ _ _))⟩)))
   go_meet
   case rel => exact ⟨_, (true), (by first | rfl | (simp; done) | (simp [*]; done)), H', ⟨by first | omega | exact Nat.le_refl _⟩, ⟨mv HO3.out⟩, ⟨mv HO4.out⟩, ⟨bt⟩⟩
 case rest =>
  clear HC6
  try clear c1
  try clear p2
  try clear c3
  try clear c4
  try clear c5
  try clear p6
  try clear c8
  try clear c10
  try clear c12
  obtain ⟨kq, x39_5, rfl, HA, HJ5, HO_3, HO_4, HB⟩ := hcut
  cases kq with
  | zero => exact absurd HA.out (by simp [impl_climb.j0])
  | succ kj5 =>
   have H := HA.out
   clear HA
   simp only [impl_climb.j0] at H
   by_cases c21 : x39_5 = true
   ·subst c21
    rw [if_pos rfl] at H
    simp only [Option.some.injEq, Prod.mk.injEq] at H
    obtain ⟨rfl, rfl⟩ := H
    go_wp2
    go_ret2
    exact ⟨_, by first | rfl | (simp [errW_none, errW_some] <;> rfl) | (simp [*, errW_none, errW_some] <;> rfl), by first | exact Kd.S_nil _ _ _ _ _ | exact Kd.N_nil _ _ _ _ _ | exact Kd.V_nil _ _ _ _ _ | exact Kd.Q_nil _ _ _ _ _ | exact Kd.R_nil _ _ _ _ _, bt⟩
   ·replace c21 := Bool.eq_false_iff.mpr c21
    subst c21
    rw [if_neg (show ¬ (false = true) by decide)] at H
    replace H := Option.bind_eq_some_iff.mp H
    obtain ⟨t422, A220, H⟩ := H
    (try dsimp -simprocs only at H)
    have A22 := Aside0.mk A220
    clear A220
    obtain ⟨y425, hy425⟩ : ∃ y_ : List (List Int), y_ = (([t422] : List (List Int))) := ⟨_, rfl⟩
    replace H : (if 0 < (y425.length : Int) then ((impl_Digest.f a0 (rd_L1 y425 0)).bind fun t429 => (impl_climb.l0 kj5 a0 a1 a2 l4 y425 t429 a1)) else (none)) = some (r1, r2) := by first | (rw [hy425]; exact H) | exact H
    have Ny425 := Aside0.mk hy425
    clear hy425
    by_cases c23 : 0 < (y425.length : Int)
    ·rw [if_pos c23] at H
     have c23b0 : decide (0 < (y425.length : Int)) = true := decide_eq_true c23
     have c23b1 : decide (0 < y425.length) = true := decide_eq_true (by omega)
     clear c23
     replace H := Option.bind_eq_some_iff.mp H
     obtain ⟨t429, A240, H⟩ := H
     (try dsimp -simprocs only at H)
     have A24 := Aside0.mk A240
     clear A240
     have H' := Aside0.mk H
     clear H
     go_wp2_with (first | (go_at_call 107; (with_reducible refine (impl_leafInput.calls _ _ l3 t422 _ ?side1 ?side2 A22.out).mono ?_); (case side1 => exact cv ((Kd.V_reads' HO_3.out).2.2)); (case side2 => exact (Kd.V_reads' HO_3.out).2.1); rintro e w25 ⟨v423, rfl, ho0, hb⟩; replace HO_3 := Aside0.mk (Kd.V_elder' (mv HO_3.out) (Kd.R_base ho0) hb); replace HO_4 := Aside0.mk (Kd.V_elder' (mv HO_4.out) (Kd.R_base ho0) hb); have HO424 := Aside0.mk (Kd.R_lower (Kd.R_newM (M := fun k_ => (w.heap.size ≤ k_)) ho0 (below_size (bt)) (fun k_ h_ => h_)) (below_size (bt))); replace HB := Aside0.mk (below_step (bt) hb); (try clear hb); (try clear hb2); (try clear hk); (try clear hi); (try clear ho0); obtain ⟨Ao26, co26, eo26⟩ := Kd.R_slice HO424.out; subst eo26) | ((with_reducible refine gate_dst (N := 42) rfl ?_); (try (refine gate_guard (by rfl) ?_; dsimp only)); refine Kd.N_lit (Kd.slice 5 (Kd.int .u8)) _ 22 ?hg (N' := 42) ?hd (xs := ([t422] : List (List Int))) (inner := [.slice Ao26 t422.length co26]) (ok := (fun k_ => ((P3_ k_ ∨ P4_ k_) ∨ w.heap.size ≤ k_))) (okp := (fun k_ => ((P3_ k_ ∨ P4_ k_) ∨ w.heap.size ≤ k_))) ?hr ?hp (fun _ hk => hk) ((show ∀ k_, w25.heap.size ≤ k_ → (fun k_ => ((P3_ k_ ∨ P4_ k_) ∨ w.heap.size ≤ k_)) k_ from fun k_ hk => (.inr (Nat.le_trans (below_size (bt)) hk))) _ (Nat.le_refl _)) (Below.refl _ _) (Nat.le_refl _) (by simp) ?_; (case hd => rfl); (case hg => rfl); (case hr => first | (go_simp; done) | (go_simp; rfl)); (case hp => exact (Reps.one (show Kd.FK (Kd.slice 5 (Kd.int .u8)) _ _ t422 [.slice Ao26 t422.length co26] from (Kd.FK_slice_mk (Kd.R_reads' (Kd.R_mono (ok' := (fun k_ => ((P3_ k_ ∨ P4_ k_) ∨ w.heap.size ≤ k_))) (HO424.out) (fun k_ hk => (.inr (hk.1))))).2.1 (Kd.R_F (Kd.R_mono (ok' := (fun k_ => ((P3_ k_ ∨ P4_ k_) ∨ w.heap.size ≤ k_))) (HO424.out) (fun k_ hk => (.inr (hk.1))))))) (Reps.none _ _))); intro v426 w27 ho28 hb hg_ hnew_; clear hg_ hnew_; (first | rw [← Ny425.out] at ho28 | (simp only [Int.reduceToNat] at ho28; rw [← Ny425.out] at ho28)); replace HO_3 := Aside0.mk (Kd.V_elder' (mv HO_3.out) (Kd.N_base ho28) hb); replace HO_4 := Aside0.mk (Kd.V_elder' (mv HO_4.out) (Kd.N_base ho28) hb); have HO427 := Aside0.mk (Kd.N_lower ho28 (below_size (bt))); replace HB := Aside0.mk (below_step (bt) hb); clear HO424; clear hb ho28; obtain ⟨Ao29, co29, eo29⟩ := Kd.N_slice HO427.out; subst eo29; have p428 : 0 ≤ (0 : Int) := (by omega); have q428 : 0 < (y425.length : Int) := of_decide_eq_true asm; obtain ⟨ad428, A428_0, c428_0, e428, hx428_0, hl428_0, hi428_0⟩ := at_L1 (Kd.N_reads' HO427.out).2.2 0 p428 q428; cases e428; obtain ⟨ce428, hce428, hMe428, hcc428⟩ := Kd.N_get HO427.out [] 0 p428 (by first | exact q428 | exact of_decide_eq_true asm | (have e_ := (Kd.N_reads' HO427.out).1; omega)); obtain ⟨ua428_0, uc428_0, rfl, ul428_0, ge428_0⟩ := Kd.FK_slice_open hMe428; have hv428_0 := hcc428 0 _ rfl; rw [Nat.add_zero, show ((Kd.slice 5 (Kd.int .u8))).sz = 1 from rfl, Nat.mul_one] at hv428_0; replace hv428_0 := Option.some.inj (hv428_0.symm.trans hx428_0); injection hv428_0 with hva_ hvn_ hvc_; rw [hva_] at ge428_0; rw [hvc_] at ul428_0; have HL428_0 := Aside0.mk (show Kd.V (Kd.int .u8) 5 _ w.heap.size _ _ (rd_L1 y425 0) from Kd.V_mk ul428_0 ge428_0); clear hva_ hvn_ hvc_ ge428_0 ul428_0; clear hcc428 hce428; have qi428 : (0 < y425.length) = True := eq_true (by omega); (try rw [show ((0 : Int)).toNat = 0 from rfl] at hx428_0); (try rw [Addr.add_zero'] at hx428_0); have HR428_0 := Aside0.mk hi428_0; have HC428_0 := Aside0.mk hl428_0; clear hi428_0 hl428_0; replace p428 := eq_true p428; replace q428 := eq_true q428) | (go_at_call 56; (with_reducible refine (impl_Digest.calls a0 _ _ (rd_L1 y425 0) t429 _ ?side1 ?side2 A24.out).mono ?_); (case side1 => repeat (first | exact (by repeat (first | (with_reducible exact HR428_0.out) | (with_reducible refine Kd.C_alloc ?_ _) | (with_reducible refine Kd.C_drewN ?_ _) | (with_reducible refine Kd.C_drew ?_) | exact HR428_0.out)) | (with_reducible refine Kd.C_alloc ?_ _) | (with_reducible refine Kd.C_drewN ?_ _) | (with_reducible refine Kd.C_drew ?_))); (case side2 => exact HC428_0.out); rintro e w30 ⟨rfl, hb⟩; replace HO_3 := Aside0.mk (Kd.V_below (mv HO_3.out) hb); replace HO_4 := Aside0.mk (Kd.V_below (mv HO_4.out) hb); replace HO427 := Aside0.mk (Kd.N_below (mv HO427.out) hb); replace HL428_0 := Aside0.mk (Kd.V_below (mv HL428_0.out) hb); replace HR428_0 := Aside0.mk (Kd.C_below (by repeat (first | (with_reducible exact HR428_0.out) | (with_reducible refine Kd.C_alloc ?_ _) | (with_reducible refine Kd.C_drewN ?_ _) | (with_reducible refine Kd.C_drew ?_) | exact HR428_0.out)) hb); replace HB := Aside0.mk (below_step (bt) hb); (try clear hb); (try clear hb2); (try clear hk); (try clear hi)))
     go_loopg [2, 4, 12, 13, 14] kj5 (fun kq v2 v4 v12 v13 v14 w' => ∃ (x2_2 : Int) (x4_2 : List Int) (x12_2 : List (List Int)) (x13_2 : Int) (x14_2 : Int), v2 = .int .i64 x2_2 ∧ v13 = .int .i64 x13_2 ∧ v14 = .int .i64 x14_2 ∧ Aside0 (impl_climb.l0 kq a0 a1 x2_2 x4_2 x12_2 x13_2 x14_2 = some (r1, r2)) ∧ Aside0 (kq ≤ kj5) ∧ Aside0 (Kd.V (Kd.int .i64) 3 w' w.heap.size (fun k_ => ((P3_ k_ ∨ P4_ k_) ∨ w.heap.size ≤ k_) ∧ some k_ ≠ (v12 : Value).ownBlock) v4 x4_2) ∧ Aside0 (Kd.N (Kd.slice 5 (Kd.int .u8)) 22 w' w.heap.size (fun k_ => ((P3_ k_ ∨ P4_ k_) ∨ w.heap.size ≤ k_)) v12 x12_2) ∧ Aside0 (Below w.heap.size w w'))
     case atStart => exact ⟨(a2), (l4), (y425), (t429), (a1), (by first | rfl | (simp; done) | (simp [*]; done)), (by first | rfl | (simp; done) | (simp [*]; done)), (by first | rfl | (simp; done) | (simp [*]; done)), H', ⟨Nat.le_refl _⟩, ⟨by (with_reducible repeat (first | apply Kd.V_alloc | apply Kd.V_drewN | apply Kd.V_drew)); exact Kd.V_mono HO_4.out (fun _ hk => ⟨hk.1.1, hk.2⟩)⟩, ⟨mv HO427.out⟩, ⟨bt⟩⟩
     case round =>
      clear H'
      try clear c1
      try clear c2
      try clear p2
      try clear c3
      try clear c4
      try clear p4
      try clear q4
      try clear hx4
      try clear qi4
      try clear c5
      try clear p6
      try clear c8
      try clear c10
      try clear c12
      try clear c21
      try clear c23
      try clear c23b0
      try clear c23b1
      try clear hx428_0
      try clear p2
      try clear p428
      try clear p6
      try clear q428
      obtain ⟨x2_2, x4_2, x12_2, x13_2, x14_2, rfl, rfl, rfl, HA, HK2, HO_4, HO_12, HB⟩ := hrel
      cases gk with
      | zero => exact absurd HA.out (by simp [impl_climb.l0])
      | succ k2 =>
       have H := HA.out
       clear HA
       simp only [impl_climb.l0] at H
       by_cases c31 : x14_2 > 1
       ·rw [if_pos c31] at H
        have c31b0 : decide (1 < x14_2) = true := decide_eq_true c31
        clear c31
        by_cases c32 : (Go.bits .xor .i64 x2_2 1) < x14_2
        ·rw [if_pos c32] at H
         have c32b0 : decide ((Go.bits .xor .i64 x2_2 1) < x14_2) = true := decide_eq_true c32
         clear c32
         by_cases c33 : (x4_2.length : Int) = 0
         ·rw [if_pos c33] at H
          have c33b0 : ((x4_2.length : Int) == 0) = true := beq_iff_eq.mpr c33
          have c33b1 : ((x4_2.length : Int) != 0) = false := bne_eq_false_iff_eq.mpr c33
          clear c33
          simp only [Option.some.injEq, Prod.mk.injEq] at H
          obtain ⟨rfl, rfl⟩ := H
          obtain ⟨Ao34, co34, eo34⟩ := Kd.V_slice HO_4.out
          subst eo34
          go_wp2
          go_ret2
          exact ⟨_, by first | rfl | (simp [errW_none, errW_some] <;> rfl) | (simp [*, errW_none, errW_some] <;> rfl), by first | exact Kd.S_nil _ _ _ _ _ | exact Kd.N_nil _ _ _ _ _ | exact Kd.V_nil _ _ _ _ _ | exact Kd.Q_nil _ _ _ _ _ | exact Kd.R_nil _ _ _ _ _, bt⟩
         ·rw [if_neg c33] at H
          have c33b0 : ((x4_2.length : Int) == 0) = false := beq_eq_false_iff_ne.mpr c33
          have c33b1 : ((x4_2.length : Int) != 0) = true := bne_iff_ne.mpr c33
          have c33b2 : ¬ (x4_2 = []) := fun h_ => c33 (by rw [h_]; rfl)
          by_cases c35 : 0 < (x4_2.length : Int)
          ·rw [if_pos c35] at H
           have c35b0 : decide (0 < (x4_2.length : Int)) = true := decide_eq_true c35
           have c35b1 : decide (0 < x4_2.length) = true := decide_eq_true (by omega)
           clear c35
           by_cases c36 : (Int.tmod x2_2 2) = 1
           ·rw [if_pos c36] at H
            have c36b0 : ((Int.tmod x2_2 2) == 1) = true := beq_iff_eq.mpr c36
            have c36b1 : ((Int.tmod x2_2 2) != 1) = false := bne_eq_false_iff_eq.mpr c36
            clear c36
            by_cases c37 : 1 ≤ (x4_2.length : Int)
            ·rw [if_pos c37] at H
             have c37b0 := eq_true c37
             have c37b1 : decide (1 ≤ (x4_2.length : Int)) = true := decide_eq_true c37
             clear c37
             obtain ⟨y437, hy437⟩ : ∃ y_ : List Int, y_ = (x4_2.drop 1) := ⟨_, rfl⟩
             replace H : ((impl_nodeInput.f k2 (rd x4_2 0) x13_2).bind fun t442 => (if x12_2.length < 5864062014805 then ((some (x12_2 ++ [t442] : List (List Int))).bind fun y445 => (if 0 ≤ (wrap64 ((y445.length : Int) - 1)) then (if (wrap64 ((y445.length : Int) - 1)) < (y445.length : Int) then ((impl_Digest.f a0 (rd_L1 y445 (wrap64 ((y445.length : Int) - 1)))).bind fun t449 => (impl_climb.l0 k2 a0 a1 (wrap64 (Int.tdiv x2_2 2)) y437 y445 t449 (wrap64 (Int.tdiv (wrap64 (x14_2 + 1)) 2)))) else (none)) else (none))) else (none))) = some (r1, r2) := by first | (rw [hy437]; exact H) | exact H
             have Ny437 := Aside0.mk hy437
             clear hy437
             replace H := Option.bind_eq_some_iff.mp H
             obtain ⟨t442, A380, H⟩ := H
             (try dsimp -simprocs only at H)
             have A38 := Aside0.mk A380
             clear A380
             by_cases c39 : x12_2.length < 5864062014805
             ·rw [if_pos c39] at H
              have LMc39 := Aside0.mk c39
              clear c39
              obtain ⟨y445, hy445⟩ : ∃ y_ : List (List Int), y_ = (x12_2 ++ [t442]) := ⟨_, rfl⟩
              replace H : (if 0 ≤ (wrap64 ((y445.length : Int) - 1)) then (if (wrap64 ((y445.length : Int) - 1)) < (y445.length : Int) then ((impl_Digest.f a0 (rd_L1 y445 (wrap64 ((y445.length : Int) - 1)))).bind fun t449 => (impl_climb.l0 k2 a0 a1 (wrap64 (Int.tdiv x2_2 2)) y437 y445 t449 (wrap64 (Int.tdiv (wrap64 (x14_2 + 1)) 2)))) else (none)) else (none)) = some (r1, r2) := by first | (rw [hy445]; exact H) | exact H
              have Ny445 := Aside0.mk hy445
              clear hy445
              obtain ⟨ji40, hji40⟩ : ∃ j_ : Int, (wrap64 ((y445.length : Int) - 1)) = j_ := ⟨_, rfl⟩
              replace H : (if 0 ≤ (ji40) then (if (ji40) < (y445.length : Int) then ((impl_Digest.f a0 (rd_L1 y445 (ji40))).bind fun t449 => (impl_climb.l0 k2 a0 a1 (wrap64 (Int.tdiv x2_2 2)) y437 y445 t449 (wrap64 (Int.tdiv (wrap64 (x14_2 + 1)) 2)))) else (none)) else (none)) = some (r1, r2) := by first | (rw [hji40] at H; exact H) | (simp only [hji40] at H ⊢; exact H)
              (try rw [hji40] at A38)
              have hji40w : (IntKind.i64.wrap ((y445.length : Int) - 1)) = ji40 := (i64_w _).trans hji40
              by_cases c41 : 0 ≤ (ji40)
              ·rw [if_pos c41] at H
               have c41b0 : decide (0 ≤ (ji40)) = true := decide_eq_true c41
               clear c41
               by_cases c42 : (ji40) < (y445.length : Int)
               ·rw [if_pos c42] at H
                have c42b0 : decide ((ji40) < (y445.length : Int)) = true := decide_eq_true c42
                clear c42
                replace H := Option.bind_eq_some_iff.mp H
                obtain ⟨t449, A430, H⟩ := H
                (try dsimp -simprocs only at H)
                have A43 := Aside0.mk A430
                clear A430
                have H' := Aside0.mk H
                clear H
                obtain ⟨Ao44, co44, eo44⟩ := Kd.V_slice HO_4.out
                subst eo44
                have p436 : 0 ≤ (0 : Int) := (by omega)
                have q436 : 0 < (x4_2.length : Int) := of_decide_eq_true asm
                obtain ⟨ad436, e436, hx436_0⟩ := Kd.at_int (Kd.V_reads' HO_4.out).2.2 0 p436 q436
                cases e436
                have qi436 : (0 < x4_2.length) = True := eq_true (by omega)
                (try rw [show ((0 : Int)).toNat = 0 from rfl] at hx436_0)
                (try rw [Addr.add_zero'] at hx436_0)
                replace p436 := eq_true p436
                replace q436 := eq_true q436
                have q45 : (1 : Int) ≤ ((x4_2.length : Int) : Int) := of_decide_eq_true asm
                obtain ⟨i045, hi045, _, hsz45, _⟩ := info_parts info3
                have hroom45 : x4_2.length ≤ co44 := (Kd.V_reads' HO_4.out).2.1
                have hC45 : Kd.F (Kd.int .i64) _ _ (some ad436) x4_2.length x4_2 := (Kd.V_at (base := w.heap.size) HO_4.out).2.2
                have hcut45 := cut_from (P := Try.prog) 29 3 .i64 Try.underlying29 hi045 1 hsz45 (some ad436) x4_2.length co44 1 (by omega) q45
                have hr45 := Kd.F_cut (m := (1 : Int).toNat) (c := co44) hC45 (by omega) hroom45
                obtain ⟨A45, hA45⟩ : ∃ A1, A1 = (if co44 = (1 : Int).toNat then (some ad436) else ((some ad436) : Option Addr).map (·.add ((1 : Int).toNat * 1))) := ⟨_, rfl⟩
                obtain ⟨c45, hc45⟩ : ∃ c1, c1 = co44 - (1 : Int).toNat := ⟨_, rfl⟩
                have hy45 : y437.length = x4_2.length - (1 : Int).toNat := (by rw [Ny437.out, List.length_drop] <;> omega)
                rw [show (x4_2).drop (1 : Int).toNat = y437 from Ny437.out.symm] at hr45
                replace hr45 : Kd.F (Kd.int .i64) _ _ A45 y437.length y437 := (by rw [hA45]; exact hr45)
                rw [← hy45, ← hA45, ← hc45] at hcut45
                have HO441 := Aside0.mk (show Kd.V (Kd.int .i64) 3 _ w.heap.size _ (.slice A45 y437.length c45) y437 from Kd.V_mk (by rw [hy45, hc45]; exact Nat.sub_le_sub_right hroom45 _) hr45)
                have HC441 := Aside0.mk (show y437.length ≤ c45 from by rw [hy45, hc45]; exact Nat.sub_le_sub_right hroom45 _)
                clear hr45 hC45 hroom45 hi045 hsz45 hc45
                have KY45 := Aside0.mk hy45
                have KA45 := Aside0.mk hA45
                clear hy45 hA45
                replace q45 := eq_true q45
                go_wp2_with (first | (go_at_call 108; (with_reducible refine (impl_nodeInput.calls k2 (rd x4_2 0) x13_2 t442 _ A38.out).mono ?_); rintro e w46 ⟨v443, rfl, ho0, hb⟩; replace HO_4 := Aside0.mk (Kd.V_elder' (mv HO_4.out) (Kd.R_base ho0) hb); replace HO_12 := Aside0.mk (Kd.N_elder' (mv HO_12.out) (Kd.R_base ho0) hb); replace HO441 := Aside0.mk (Kd.V_elder' (mv HO441.out) (Kd.R_base ho0) hb); have HO444 := Aside0.mk (Kd.R_lower (Kd.R_newM (M := fun k_ => (w.heap.size ≤ k_)) ho0 (below_size (bt)) (fun k_ h_ => h_)) (below_size (bt))); replace HB := Aside0.mk (below_step (bt) hb); (try clear hb); (try clear hb2); (try clear hk); (try clear hi); (try clear ho0); obtain ⟨Ao48, co48, eo48⟩ := Kd.R_slice HO444.out; subst eo48) | ((with_reducible refine gate_builtin (b := .append) (xs := #[.tmp 72, .tmp 76]) rfl ?_); (try (refine gate_guard (by rfl) ?_; dsimp only)); at_builtin; refine Kd.N_append (Kd.slice 5 (Kd.int .u8)) (w0 := w) w.heap.size rfl (.tmp 72) (.tmp 76) 24 22 (.slice none 0 0) 24 rfl Try.underlying24 info22 rfl (by decide) (by omega) u12 x12_2 t442 [.slice Ao48 t442.length co48] (fun k_ => ((P3_ k_ ∨ P4_ k_) ∨ w.heap.size ≤ k_)) (fun k_ => ((fun k_ => ((P3_ k_ ∨ P4_ k_) ∨ w.heap.size ≤ k_))) k_ ∧ some k_ ≠ (u12 : Value).ownBlock) rfl rfl ?aP (fun _ hk => hk) ?aF ?aO ?aB ?aS ?aL ?_; (case aP => exact (Kd.FK_slice_mk (Kd.R_reads' (Kd.R_mono (ok' := (fun k_ => ((fun k_ => ((P3_ k_ ∨ P4_ k_) ∨ w.heap.size ≤ k_))) k_ ∧ some k_ ≠ (u12 : Value).ownBlock)) (Kd.R_apart' (HO444.out) (Kd.N_typed HO_12.out) (by decide)) (fun k_ hk => ⟨(.inr (hk.1.1)), hk.2⟩))).2.1 (Kd.R_F (Kd.R_mono (ok' := (fun k_ => ((fun k_ => ((P3_ k_ ∨ P4_ k_) ∨ w.heap.size ≤ k_))) k_ ∧ some k_ ≠ (u12 : Value).ownBlock)) (Kd.R_apart' (HO444.out) (Kd.N_typed HO_12.out) (by decide)) (fun k_ hk => ⟨(.inr (hk.1.1)), hk.2⟩))))); (case aB => exact (bt)); (case aF => exact (fun k_ hk => (.inr (Nat.le_trans (below_size (bt)) hk)))); (case aO => exact (by (with_reducible repeat (first | apply Kd.N_alloc | apply Kd.N_drewN | apply Kd.N_drew)); exact Kd.N_mono HO_12.out (fun _ hk => hk.1))); (case aS => exact (below_size (bt))); (case aL => have := LMc39.out; omega); intro v446 w47 ho hb hg hat; rw [← Ny445.out] at ho; replace HO_4 := Aside0.mk (Kd.V_afterv (ok := (fun k_ => ((P3_ k_ ∨ P4_ k_) ∨ w.heap.size ≤ k_) ∧ some k_ ≠ (.slice Ao48 t442.length co48 : Value).ownBlock)) (by (with_reducible repeat (first | apply Kd.V_alloc | apply Kd.V_drewN | apply Kd.V_drew)); exact Kd.V_mono HO_4.out (fun _ hk => ⟨⟨hk.1.1, hk.2⟩, hk.1.2⟩)) hg hat); replace HO441 := Aside0.mk (Kd.V_afterv (ok := (fun k_ => ((P3_ k_ ∨ P4_ k_) ∨ w.heap.size ≤ k_) ∧ some k_ ≠ (.slice Ao48 t442.length co48 : Value).ownBlock)) (by (with_reducible repeat (first | apply Kd.V_alloc | apply Kd.V_drewN | apply Kd.V_drew)); exact Kd.V_mono HO441.out (fun _ hk => ⟨⟨hk.1.1, hk.2⟩, hk.1.2⟩)) hg hat); replace HB := Aside0.mk (hb); have HO447 := Aside0.mk (ho); clear HO_12 HO444; clear ho hb hg hat; obtain ⟨Ao49, co49, eo49⟩ := Kd.N_slice HO447.out; subst eo49; have p448 : 0 ≤ ((ji40) : Int) := of_decide_eq_true asm; have q448 : (ji40) < (y445.length : Int) := of_decide_eq_true asm; obtain ⟨ad448, A448_0, c448_0, e448, hx448_0, hl448_0, hi448_0⟩ := at_L1 (Kd.N_reads' HO447.out).2.2 (ji40) p448 q448; cases e448; obtain ⟨ce448, hce448, hMe448, hcc448⟩ := Kd.N_get HO447.out [] (ji40) p448 (by first | exact q448 | exact of_decide_eq_true asm | (have e_ := (Kd.N_reads' HO447.out).1; omega)); obtain ⟨ua448_0, uc448_0, rfl, ul448_0, ge448_0⟩ := Kd.FK_slice_open hMe448; have hv448_0 := hcc448 0 _ rfl; rw [Nat.add_zero, show ((Kd.slice 5 (Kd.int .u8))).sz = 1 from rfl, Nat.mul_one] at hv448_0; replace hv448_0 := Option.some.inj (hv448_0.symm.trans hx448_0); injection hv448_0 with hva_ hvn_ hvc_; rw [hva_] at ge448_0; rw [hvc_] at ul448_0; have HL448_0 := Aside0.mk (show Kd.V (Kd.int .u8) 5 _ w.heap.size _ _ (rd_L1 y445 (ji40)) from Kd.V_mk ul448_0 ge448_0); clear hva_ hvn_ hvc_ ge448_0 ul448_0; clear hcc448 hce448; have HR448_0 := Aside0.mk hi448_0; have HC448_0 := Aside0.mk hl448_0; clear hi448_0 hl448_0; replace p448 := eq_true p448; replace q448 := eq_true q448) | (go_at_call 56; (with_reducible refine (impl_Digest.calls a0 _ _ (rd_L1 y445 (ji40)) t449 _ ?side1 ?side2 A43.out).mono ?_); (case side1 => repeat (first | exact (by repeat (first | (with_reducible exact HR448_0.out) | (with_reducible refine Kd.C_alloc ?_ _) | (with_reducible refine Kd.C_drewN ?_ _) | (with_reducible refine Kd.C_drew ?_) | exact HR448_0.out)) | (with_reducible refine Kd.C_alloc ?_ _) | (with_reducible refine Kd.C_drewN ?_ _) | (with_reducible refine Kd.C_drew ?_))); (case side2 => exact HC448_0.out); rintro e w50 ⟨rfl, hb⟩; replace HO_4 := Aside0.mk (Kd.V_below (mv HO_4.out) hb); replace HO441 := Aside0.mk (Kd.V_below (mv HO441.out) hb); replace HO447 := Aside0.mk (Kd.N_below (mv HO447.out) hb); replace HL448_0 := Aside0.mk (Kd.V_below (mv HL448_0.out) hb); replace HR448_0 := Aside0.mk (Kd.C_below (by repeat (first | (with_reducible exact HR448_0.out) | (with_reducible refine Kd.C_alloc ?_ _) | (with_reducible refine Kd.C_drewN ?_ _) | (with_reducible refine Kd.C_drew ?_) | exact HR448_0.out)) hb); replace HB := Aside0.mk (below_step (bt) hb); (try clear hb); (try clear hb2); (try clear hk); (try clear hi)))
                repeat (go_quiet (first | (go_at_call 108; (with_reducible refine (impl_nodeInput.calls k2 (rd x4_2 0) x13_2 t442 _ A38.out).mono ?_); rintro e w46 ⟨v443, rfl, ho0, hb⟩; replace HO_4 := Aside0.mk (Kd.V_elder' (mv HO_4.out) (Kd.R_base ho0) hb); replace HO_12 := Aside0.mk (Kd.N_elder' (mv HO_12.out) (Kd.R_base ho0) hb); replace HO441 := Aside0.mk (Kd.V_elder' (mv HO441.out) (Kd.R_base ho0) hb); have HO444 := Aside0.mk (Kd.R_lower (Kd.R_newM (M := fun k_ => (w.heap.size ≤ k_)) ho0 (below_size (bt)) (fun k_ h_ => h_)) (below_size (bt))); replace HB := Aside0.mk (below_step (bt) hb); (try clear hb); (try clear hb2); (try clear hk); (try clear hi); (try clear ho0); obtain ⟨Ao48, co48, eo48⟩ := Kd.R_slice HO444.out; subst eo48) | ((with_reducible refine gate_builtin (b := .append) (xs := #[.tmp 72, .tmp 76]) rfl ?_); (try (refine gate_guard (by rfl) ?_; dsimp only)); at_builtin; refine Kd.N_append (Kd.slice 5 (Kd.int .u8)) (w0 := w) w.heap.size rfl (.tmp 72) (.tmp 76) 24 22 (.slice none 0 0) 24 rfl Try.underlying24 info22 rfl (by decide) (by omega) u12 x12_2 t442 [.slice Ao48 t442.length co48] (fun k_ => ((P3_ k_ ∨ P4_ k_) ∨ w.heap.size ≤ k_)) (fun k_ => ((fun k_ => ((P3_ k_ ∨ P4_ k_) ∨ w.heap.size ≤ k_))) k_ ∧ some k_ ≠ (u12 : Value).ownBlock) rfl rfl ?aP (fun _ hk => hk) ?aF ?aO ?aB ?aS ?aL ?_; (case aP => exact (Kd.FK_slice_mk (Kd.R_reads' (Kd.R_mono (ok' := (fun k_ => ((fun k_ => ((P3_ k_ ∨ P4_ k_) ∨ w.heap.size ≤ k_))) k_ ∧ some k_ ≠ (u12 : Value).ownBlock)) (Kd.R_apart' (HO444.out) (Kd.N_typed HO_12.out) (by decide)) (fun k_ hk => ⟨(.inr (hk.1.1)), hk.2⟩))).2.1 (Kd.R_F (Kd.R_mono (ok' := (fun k_ => ((fun k_ => ((P3_ k_ ∨ P4_ k_) ∨ w.heap.size ≤ k_))) k_ ∧ some k_ ≠ (u12 : Value).ownBlock)) (Kd.R_apart' (HO444.out) (Kd.N_typed HO_12.out) (by decide)) (fun k_ hk => ⟨(.inr (hk.1.1)), hk.2⟩))))); (case aB => exact (bt)); (case aF => exact (fun k_ hk => (.inr (Nat.le_trans (below_size (bt)) hk)))); (case aO => exact (by (with_reducible repeat (first | apply Kd.N_alloc | apply Kd.N_drewN | apply Kd.N_drew)); exact Kd.N_mono HO_12.out (fun _ hk => hk.1))); (case aS => exact (below_size (bt))); (case aL => have := LMc39.out; omega); intro v446 w47 ho hb hg hat; rw [← Ny445.out] at ho; replace HO_4 := Aside0.mk (Kd.V_afterv (ok := (fun k_ => ((P3_ k_ ∨ P4_ k_) ∨ w.heap.size ≤ k_) ∧ some k_ ≠ (.slice Ao48 t442.length co48 : Value).ownBlock)) (by (with_reducible repeat (first | apply Kd.V_alloc | apply Kd.V_drewN | apply Kd.V_drew)); exact Kd.V_mono HO_4.out (fun _ hk => ⟨⟨hk.1.1, hk.2⟩, hk.1.2⟩)) hg hat); replace HO441 := Aside0.mk (Kd.V_afterv (ok := (fun k_ => ((P3_ k_ ∨ P4_ k_) ∨ w.heap.size ≤ k_) ∧ some k_ ≠ (.slice Ao48 t442.length co48 : Value).ownBlock)) (by (with_reducible repeat (first | apply Kd.V_alloc | apply Kd.V_drewN | apply Kd.V_drew)); exact Kd.V_mono HO441.out (fun _ hk => ⟨⟨hk.1.1, hk.2⟩, hk.1.2⟩)) hg hat); replace HB := Aside0.mk (hb); have HO447 := Aside0.mk (ho); clear HO_12 HO444; clear ho hb hg hat; obtain ⟨Ao49, co49, eo49⟩ := Kd.N_slice HO447.out; subst eo49; have p448 : 0 ≤ ((ji40) : Int) := of_decide_eq_true asm; have q448 : (ji40) < (y445.length : Int) := of_decide_eq_true asm; obtain ⟨ad448, A448_0, c448_0, e448, hx448_0, hl448_0, hi448_0⟩ := at_L1 (Kd.N_reads' HO447.out).2.2 (ji40) p448 q448; cases e448; obtain ⟨ce448, hce448, hMe448, hcc448⟩ := Kd.N_get HO447.out [] (ji40) p448 (by first | exact q448 | exact of_decide_eq_true asm | (have e_ := (Kd.N_reads' HO447.out).1; omega)); obtain ⟨ua448_0, uc448_0, rfl, ul448_0, ge448_0⟩ := Kd.FK_slice_open hMe448; have hv448_0 := hcc448 0 _ rfl; rw [Nat.add_zero, show ((Kd.slice 5 (Kd.int .u8))).sz = 1 from rfl, Nat.mul_one] at hv448_0; replace hv448_0 := Option.some.inj (hv448_0.symm.trans hx448_0); injection hv448_0 with hva_ hvn_ hvc_; rw [hva_] at ge448_0; rw [hvc_] at ul448_0; have HL448_0 := Aside0.mk (show Kd.V (Kd.int .u8) 5 _ w.heap.size _ _ (rd_L1 y445 (ji40)) from Kd.V_mk ul448_0 ge448_0); clear hva_ hvn_ hvc_ ge448_0 ul448_0; clear hcc448 hce448; have HR448_0 := Aside0.mk hi448_0; have HC448_0 := Aside0.mk hl448_0; clear hi448_0 hl448_0; replace p448 := eq_true p448; replace q448 := eq_true q448) | (go_at_call 56; (with_reducible refine (impl_Digest.calls a0 _ _ (rd_L1 y445 (ji40)) t449 _ ?side1 ?side2 A43.out).mono ?_); (case side1 => repeat (first | exact (by repeat (first | (with_reducible exact HR448_0.out) | (with_reducible refine Kd.C_alloc ?_ _) | (with_reducible refine Kd.C_drewN ?_ _) | (with_reducible refine Kd.C_drew ?_) | exact HR448_0.out)) | (with_reducible refine Kd.C_alloc ?_ _) | (with_reducible refine Kd.C_drewN ?_ _) | (with_reducible refine Kd.C_drew ?_))); (case side2 => exact HC448_0.out); rintro e w50 ⟨rfl, hb⟩; replace HO_4 := Aside0.mk (Kd.V_below (mv HO_4.out) hb); replace HO441 := Aside0.mk (Kd.V_below (mv HO441.out) hb); replace HO447 := Aside0.mk (Kd.N_below (mv HO447.out) hb); replace HL448_0 := Aside0.mk (Kd.V_below (mv HL448_0.out) hb); replace HR448_0 := Aside0.mk (Kd.C_below (by repeat (first | (with_reducible exact HR448_0.out) | (with_reducible refine Kd.C_alloc ?_ _) | (with_reducible refine Kd.C_drewN ?_ _) | (with_reducible refine Kd.C_drew ?_) | exact HR448_0.out)) hb); replace HB := Aside0.mk (below_step (bt) hb); (try clear hb); (try clear hb2); (try clear hk); (try clear hi))); try go_wp2_with (first | (go_at_call 108; (with_reducible refine (impl_nodeInput.calls k2 (rd x4_2 0) x13_2 t442 _ A38.out).mono ?_); rintro e w46 ⟨v443, rfl, ho0, hb⟩; replace HO_4 := Aside0.mk (Kd.V_elder' (mv HO_4.out) (Kd.R_base ho0) hb); replace HO_12 := Aside0.mk (Kd.N_elder' (mv HO_12.out) (Kd.R_base ho0) hb); replace HO441 := Aside0.mk (Kd.V_elder' (mv HO441.out) (Kd.R_base ho0) hb); have HO444 := Aside0.mk (Kd.R_lower (Kd.R_newM (M := fun k_ => (w.heap.size ≤ k_)) ho0 (below_size (bt)) (fun k_ h_ => h_)) (below_size (bt))); replace HB := Aside0.mk (below_step (bt) hb); (try clear hb); (try clear hb2); (try clear hk); (try clear hi); (try clear ho0); obtain ⟨Ao48, co48, eo48⟩ := Kd.R_slice HO444.out; subst eo48) | ((with_reducible refine gate_builtin (b := .append) (xs := #[.tmp 72, .tmp 76]) rfl ?_); (try (refine gate_guard (by rfl) ?_; dsimp only)); at_builtin; refine Kd.N_append (Kd.slice 5 (Kd.int .u8)) (w0 := w) w.heap.size rfl (.tmp 72) (.tmp 76) 24 22 (.slice none 0 0) 24 rfl Try.underlying24 info22 rfl (by decide) (by omega) u12 x12_2 t442 [.slice Ao48 t442.length co48] (fun k_ => ((P3_ k_ ∨ P4_ k_) ∨ w.heap.size ≤ k_)) (fun k_ => ((fun k_ => ((P3_ k_ ∨ P4_ k_) ∨ w.heap.size ≤ k_))) k_ ∧ some k_ ≠ (u12 : Value).ownBlock) rfl rfl ?aP (fun _ hk => hk) ?aF ?aO ?aB ?aS ?aL ?_; (case aP => exact (Kd.FK_slice_mk (Kd.R_reads' (Kd.R_mono (ok' := (fun k_ => ((fun k_ => ((P3_ k_ ∨ P4_ k_) ∨ w.heap.size ≤ k_))) k_ ∧ some k_ ≠ (u12 : Value).ownBlock)) (Kd.R_apart' (HO444.out) (Kd.N_typed HO_12.out) (by decide)) (fun k_ hk => ⟨(.inr (hk.1.1)), hk.2⟩))).2.1 (Kd.R_F (Kd.R_mono (ok' := (fun k_ => ((fun k_ => ((P3_ k_ ∨ P4_ k_) ∨ w.heap.size ≤ k_))) k_ ∧ some k_ ≠ (u12 : Value).ownBlock)) (Kd.R_apart' (HO444.out) (Kd.N_typed HO_12.out) (by decide)) (fun k_ hk => ⟨(.inr (hk.1.1)), hk.2⟩))))); (case aB => exact (bt)); (case aF => exact (fun k_ hk => (.inr (Nat.le_trans (below_size (bt)) hk)))); (case aO => exact (by (with_reducible repeat (first | apply Kd.N_alloc | apply Kd.N_drewN | apply Kd.N_drew)); exact Kd.N_mono HO_12.out (fun _ hk => hk.1))); (case aS => exact (below_size (bt))); (case aL => have := LMc39.out; omega); intro v446 w47 ho hb hg hat; rw [← Ny445.out] at ho; replace HO_4 := Aside0.mk (Kd.V_afterv (ok := (fun k_ => ((P3_ k_ ∨ P4_ k_) ∨ w.heap.size ≤ k_) ∧ some k_ ≠ (.slice Ao48 t442.length co48 : Value).ownBlock)) (by (with_reducible repeat (first | apply Kd.V_alloc | apply Kd.V_drewN | apply Kd.V_drew)); exact Kd.V_mono HO_4.out (fun _ hk => ⟨⟨hk.1.1, hk.2⟩, hk.1.2⟩)) hg hat); replace HO441 := Aside0.mk (Kd.V_afterv (ok := (fun k_ => ((P3_ k_ ∨ P4_ k_) ∨ w.heap.size ≤ k_) ∧ some k_ ≠ (.slice Ao48 t442.length co48 : Value).ownBlock)) (by (with_reducible repeat (first | apply Kd.V_alloc | apply Kd.V_drewN | apply Kd.V_drew)); exact Kd.V_mono HO441.out (fun _ hk => ⟨⟨hk.1.1, hk.2⟩, hk.1.2⟩)) hg hat); replace HB := Aside0.mk (hb); have HO447 := Aside0.mk (ho); clear HO_12 HO444; clear ho hb hg hat; obtain ⟨Ao49, co49, eo49⟩ := Kd.N_slice HO447.out; subst eo49; have p448 : 0 ≤ ((ji40) : Int) := of_decide_eq_true asm; have q448 : (ji40) < (y445.length : Int) := of_decide_eq_true asm; obtain ⟨ad448, A448_0, c448_0, e448, hx448_0, hl448_0, hi448_0⟩ := at_L1 (Kd.N_reads' HO447.out).2.2 (ji40) p448 q448; cases e448; obtain ⟨ce448, hce448, hMe448, hcc448⟩ := Kd.N_get HO447.out [] (ji40) p448 (by first | exact q448 | exact of_decide_eq_true asm | (have e_ := (Kd.N_reads' HO447.out).1; omega)); obtain ⟨ua448_0, uc448_0, rfl, ul448_0, ge448_0⟩ := Kd.FK_slice_open hMe448; have hv448_0 := hcc448 0 _ rfl; rw [Nat.add_zero, show ((Kd.slice 5 (Kd.int .u8))).sz = 1 from rfl, Nat.mul_one] at hv448_0; replace hv448_0 := Option.some.inj (hv448_0.symm.trans hx448_0); injection hv448_0 with hva_ hvn_ hvc_; rw [hva_] at ge448_0; rw [hvc_] at ul448_0; have HL448_0 := Aside0.mk (show Kd.V (Kd.int .u8) 5 _ w.heap.size _ _ (rd_L1 y445 (ji40)) from Kd.V_mk ul448_0 ge448_0); clear hva_ hvn_ hvc_ ge448_0 ul448_0; clear hcc448 hce448; have HR448_0 := Aside0.mk hi448_0; have HC448_0 := Aside0.mk hl448_0; clear hi448_0 hl448_0; replace p448 := eq_true p448; replace q448 := eq_true q448) | (go_at_call 56; (with_reducible refine (impl_Digest.calls a0 _ _ (rd_L1 y445 (ji40)) t449 _ ?side1 ?side2 A43.out).mono ?_); (case side1 => repeat (first | exact (by repeat (first | (with_reducible exact HR448_0.out) | (with_reducible refine Kd.C_alloc ?_ _) | (with_reducible refine Kd.C_drewN ?_ _) | (with_reducible refine Kd.C_drew ?_) | exact HR448_0.out)) | (with_reducible refine Kd.C_alloc ?_ _) | (with_reducible refine Kd.C_drewN ?_ _) | (with_reducible refine Kd.C_drew ?_))); (case side2 => exact HC448_0.out); rintro e w50 ⟨rfl, hb⟩; replace HO_4 := Aside0.mk (Kd.V_below (mv HO_4.out) hb); replace HO441 := Aside0.mk (Kd.V_below (mv HO441.out) hb); replace HO447 := Aside0.mk (Kd.N_below (mv HO447.out) hb); replace HL448_0 := Aside0.mk (Kd.V_below (mv HL448_0.out) hb); replace HR448_0 := Aside0.mk (Kd.C_below (by repeat (first | (with_reducible exact HR448_0.out) | (with_reducible refine Kd.C_alloc ?_ _) | (with_reducible refine Kd.C_drewN ?_ _) | (with_reducible refine Kd.C_drew ?_) | exact HR448_0.out)) hb); replace HB := Aside0.mk (below_step (bt) hb); (try clear hb); (try clear hb2); (try clear hk); (try clear hi))))
                go_roundg k2
                case measure => have := HJ5.out; have := HK2.out; omega
                case rel => exact ⟨(wrap64 (Int.tdiv x2_2 2)), (y437), (y445), (t449), (wrap64 (Int.tdiv (wrap64 (x14_2 + 1)) 2)), (by first | rfl | (simp; done) | (simp [*]; done)), (by first | rfl | (simp; done) | (simp [*]; done)), (by first | rfl | (simp; done) | (simp [*]; done)), H', ⟨by have := HJ5.out; have := HK2.out; omega⟩, ⟨by (with_reducible repeat (first | apply Kd.V_alloc | apply Kd.V_drewN | apply Kd.V_drew)); exact Kd.V_mono HO441.out (fun _ hk => ⟨hk.1.1, hk.2⟩)⟩, ⟨mv HO447.out⟩, ⟨bt⟩⟩
               ·rw [if_neg c42] at H
                exact absurd H (by simp)
              ·rw [if_neg c41] at H
               exact absurd H (by simp)
             ·rw [if_neg c39] at H
              exact absurd H (by simp)
            ·rw [if_neg c37] at H
             exact absurd H (by simp)
           ·rw [if_neg c36] at H
            have c36b0 : ((Int.tmod x2_2 2) == 1) = false := beq_eq_false_iff_ne.mpr c36
            have c36b1 : ((Int.tmod x2_2 2) != 1) = true := bne_iff_ne.mpr c36
            by_cases c51 : 1 ≤ (x4_2.length : Int)
            ·rw [if_pos c51] at H
             have c51b0 := eq_true c51
             have c51b1 : decide (1 ≤ (x4_2.length : Int)) = true := decide_eq_true c51
             clear c51
             obtain ⟨y450, hy450⟩ : ∃ y_ : List Int, y_ = (x4_2.drop 1) := ⟨_, rfl⟩
             replace H : ((impl_nodeInput.f k2 x13_2 (rd x4_2 0)).bind fun t455 => (if x12_2.length < 5864062014805 then ((some (x12_2 ++ [t455] : List (List Int))).bind fun y458 => (if 0 ≤ (wrap64 ((y458.length : Int) - 1)) then (if (wrap64 ((y458.length : Int) - 1)) < (y458.length : Int) then ((impl_Digest.f a0 (rd_L1 y458 (wrap64 ((y458.length : Int) - 1)))).bind fun t462 => (impl_climb.l0 k2 a0 a1 (wrap64 (Int.tdiv x2_2 2)) y450 y458 t462 (wrap64 (Int.tdiv (wrap64 (x14_2 + 1)) 2)))) else (none)) else (none))) else (none))) = some (r1, r2) := by first | (rw [hy450]; exact H) | exact H
             have Ny450 := Aside0.mk hy450
             clear hy450
             replace H := Option.bind_eq_some_iff.mp H
             obtain ⟨t455, A520, H⟩ := H
             (try dsimp -simprocs only at H)
             have A52 := Aside0.mk A520
             clear A520
             by_cases c53 : x12_2.length < 5864062014805
             ·rw [if_pos c53] at H
              have LMc53 := Aside0.mk c53
              clear c53
              obtain ⟨y458, hy458⟩ : ∃ y_ : List (List Int), y_ = (x12_2 ++ [t455]) := ⟨_, rfl⟩
              replace H : (if 0 ≤ (wrap64 ((y458.length : Int) - 1)) then (if (wrap64 ((y458.length : Int) - 1)) < (y458.length : Int) then ((impl_Digest.f a0 (rd_L1 y458 (wrap64 ((y458.length : Int) - 1)))).bind fun t462 => (impl_climb.l0 k2 a0 a1 (wrap64 (Int.tdiv x2_2 2)) y450 y458 t462 (wrap64 (Int.tdiv (wrap64 (x14_2 + 1)) 2)))) else (none)) else (none)) = some (r1, r2) := by first | (rw [hy458]; exact H) | exact H
              have Ny458 := Aside0.mk hy458
              clear hy458
              obtain ⟨ji54, hji54⟩ : ∃ j_ : Int, (wrap64 ((y458.length : Int) - 1)) = j_ := ⟨_, rfl⟩
              replace H : (if 0 ≤ (ji54) then (if (ji54) < (y458.length : Int) then ((impl_Digest.f a0 (rd_L1 y458 (ji54))).bind fun t462 => (impl_climb.l0 k2 a0 a1 (wrap64 (Int.tdiv x2_2 2)) y450 y458 t462 (wrap64 (Int.tdiv (wrap64 (x14_2 + 1)) 2)))) else (none)) else (none)) = some (r1, r2) := by first | (rw [hji54] at H; exact H) | (simp only [hji54] at H ⊢; exact H)
              (try rw [hji54] at A52)
              have hji54w : (IntKind.i64.wrap ((y458.length : Int) - 1)) = ji54 := (i64_w _).trans hji54
              by_cases c55 : 0 ≤ (ji54)
              ·rw [if_pos c55] at H
               have c55b0 : decide (0 ≤ (ji54)) = true := decide_eq_true c55
               clear c55
               by_cases c56 : (ji54) < (y458.length : Int)
               ·rw [if_pos c56] at H
                have c56b0 : decide ((ji54) < (y458.length : Int)) = true := decide_eq_true c56
                clear c56
                replace H := Option.bind_eq_some_iff.mp H
                obtain ⟨t462, A570, H⟩ := H
                (try dsimp -simprocs only at H)
                have A57 := Aside0.mk A570
                clear A570
                have H' := Aside0.mk H
                clear H
                obtain ⟨Ao58, co58, eo58⟩ := Kd.V_slice HO_4.out
                subst eo58
                have p436 : 0 ≤ (0 : Int) := (by omega)
                have q436 : 0 < (x4_2.length : Int) := of_decide_eq_true asm
                obtain ⟨ad436, e436, hx436_0⟩ := Kd.at_int (Kd.V_reads' HO_4.out).2.2 0 p436 q436
                cases e436
                have qi436 : (0 < x4_2.length) = True := eq_true (by omega)
                (try rw [show ((0 : Int)).toNat = 0 from rfl] at hx436_0)
                (try rw [Addr.add_zero'] at hx436_0)
                replace p436 := eq_true p436
                replace q436 := eq_true q436
                have q59 : (1 : Int) ≤ ((x4_2.length : Int) : Int) := of_decide_eq_true asm
                obtain ⟨i059, hi059, _, hsz59, _⟩ := info_parts info3
                have hroom59 : x4_2.length ≤ co58 := (Kd.V_reads' HO_4.out).2.1
                have hC59 : Kd.F (Kd.int .i64) _ _ (some ad436) x4_2.length x4_2 := (Kd.V_at (base := w.heap.size) HO_4.out).2.2
                have hcut59 := cut_from (P := Try.prog) 29 3 .i64 Try.underlying29 hi059 1 hsz59 (some ad436) x4_2.length co58 1 (by omega) q59
                have hr59 := Kd.F_cut (m := (1 : Int).toNat) (c := co58) hC59 (by omega) hroom59
                obtain ⟨A59, hA59⟩ : ∃ A1, A1 = (if co58 = (1 : Int).toNat then (some ad436) else ((some ad436) : Option Addr).map (·.add ((1 : Int).toNat * 1))) := ⟨_, rfl⟩
                obtain ⟨c59, hc59⟩ : ∃ c1, c1 = co58 - (1 : Int).toNat := ⟨_, rfl⟩
                have hy59 : y450.length = x4_2.length - (1 : Int).toNat := (by rw [Ny450.out, List.length_drop] <;> omega)
                rw [show (x4_2).drop (1 : Int).toNat = y450 from Ny450.out.symm] at hr59
                replace hr59 : Kd.F (Kd.int .i64) _ _ A59 y450.length y450 := (by rw [hA59]; exact hr59)
                rw [← hy59, ← hA59, ← hc59] at hcut59
                have HO454 := Aside0.mk (show Kd.V (Kd.int .i64) 3 _ w.heap.size _ (.slice A59 y450.length c59) y450 from Kd.V_mk (by rw [hy59, hc59]; exact Nat.sub_le_sub_right hroom59 _) hr59)
                have HC454 := Aside0.mk (show y450.length ≤ c59 from by rw [hy59, hc59]; exact Nat.sub_le_sub_right hroom59 _)
                clear hr59 hC59 hroom59 hi059 hsz59 hc59
                have KY59 := Aside0.mk hy59
                have KA59 := Aside0.mk hA59
                clear hy59 hA59
                replace q59 := eq_true q59
                go_wp2_with (first | (go_at_call 108; (with_reducible refine (impl_nodeInput.calls k2 x13_2 (rd x4_2 0) t455 _ A52.out).mono ?_); rintro e w60 ⟨v456, rfl, ho0, hb⟩; replace HO_4 := Aside0.mk (Kd.V_elder' (mv HO_4.out) (Kd.R_base ho0) hb); replace HO_12 := Aside0.mk (Kd.N_elder' (mv HO_12.out) (Kd.R_base ho0) hb); replace HO454 := Aside0.mk (Kd.V_elder' (mv HO454.out) (Kd.R_base ho0) hb); have HO457 := Aside0.mk (Kd.R_lower (Kd.R_newM (M := fun k_ => (w.heap.size ≤ k_)) ho0 (below_size (bt)) (fun k_ h_ => h_)) (below_size (bt))); replace HB := Aside0.mk (below_step (bt) hb); (try clear hb); (try clear hb2); (try clear hk); (try clear hi); (try clear ho0); obtain ⟨Ao62, co62, eo62⟩ := Kd.R_slice HO457.out; subst eo62) | ((with_reducible refine gate_builtin (b := .append) (xs := #[.tmp 72, .tmp 76]) rfl ?_); (try (refine gate_guard (by rfl) ?_; dsimp only)); at_builtin; refine Kd.N_append (Kd.slice 5 (Kd.int .u8)) (w0 := w) w.heap.size rfl (.tmp 72) (.tmp 76) 24 22 (.slice none 0 0) 24 rfl Try.underlying24 info22 rfl (by decide) (by omega) u12 x12_2 t455 [.slice Ao62 t455.length co62] (fun k_ => ((P3_ k_ ∨ P4_ k_) ∨ w.heap.size ≤ k_)) (fun k_ => ((fun k_ => ((P3_ k_ ∨ P4_ k_) ∨ w.heap.size ≤ k_))) k_ ∧ some k_ ≠ (u12 : Value).ownBlock) rfl rfl ?aP (fun _ hk => hk) ?aF ?aO ?aB ?aS ?aL ?_; (case aP => exact (Kd.FK_slice_mk (Kd.R_reads' (Kd.R_mono (ok' := (fun k_ => ((fun k_ => ((P3_ k_ ∨ P4_ k_) ∨ w.heap.size ≤ k_))) k_ ∧ some k_ ≠ (u12 : Value).ownBlock)) (Kd.R_apart' (HO457.out) (Kd.N_typed HO_12.out) (by decide)) (fun k_ hk => ⟨(.inr (hk.1.1)), hk.2⟩))).2.1 (Kd.R_F (Kd.R_mono (ok' := (fun k_ => ((fun k_ => ((P3_ k_ ∨ P4_ k_) ∨ w.heap.size ≤ k_))) k_ ∧ some k_ ≠ (u12 : Value).ownBlock)) (Kd.R_apart' (HO457.out) (Kd.N_typed HO_12.out) (by decide)) (fun k_ hk => ⟨(.inr (hk.1.1)), hk.2⟩))))); (case aB => exact (bt)); (case aF => exact (fun k_ hk => (.inr (Nat.le_trans (below_size (bt)) hk)))); (case aO => exact (by (with_reducible repeat (first | apply Kd.N_alloc | apply Kd.N_drewN | apply Kd.N_drew)); exact Kd.N_mono HO_12.out (fun _ hk => hk.1))); (case aS => exact (below_size (bt))); (case aL => have := LMc53.out; omega); intro v459 w61 ho hb hg hat; rw [← Ny458.out] at ho; replace HO_4 := Aside0.mk (Kd.V_afterv (ok := (fun k_ => ((P3_ k_ ∨ P4_ k_) ∨ w.heap.size ≤ k_) ∧ some k_ ≠ (.slice Ao62 t455.length co62 : Value).ownBlock)) (by (with_reducible repeat (first | apply Kd.V_alloc | apply Kd.V_drewN | apply Kd.V_drew)); exact Kd.V_mono HO_4.out (fun _ hk => ⟨⟨hk.1.1, hk.2⟩, hk.1.2⟩)) hg hat); replace HO454 := Aside0.mk (Kd.V_afterv (ok := (fun k_ => ((P3_ k_ ∨ P4_ k_) ∨ w.heap.size ≤ k_) ∧ some k_ ≠ (.slice Ao62 t455.length co62 : Value).ownBlock)) (by (with_reducible repeat (first | apply Kd.V_alloc | apply Kd.V_drewN | apply Kd.V_drew)); exact Kd.V_mono HO454.out (fun _ hk => ⟨⟨hk.1.1, hk.2⟩, hk.1.2⟩)) hg hat); replace HB := Aside0.mk (hb); have HO460 := Aside0.mk (ho); clear HO_12 HO457; clear ho hb hg hat; obtain ⟨Ao63, co63, eo63⟩ := Kd.N_slice HO460.out; subst eo63; have p461 : 0 ≤ ((ji54) : Int) := of_decide_eq_true asm; have q461 : (ji54) < (y458.length : Int) := of_decide_eq_true asm; obtain ⟨ad461, A461_0, c461_0, e461, hx461_0, hl461_0, hi461_0⟩ := at_L1 (Kd.N_reads' HO460.out).2.2 (ji54) p461 q461; cases e461; obtain ⟨ce461, hce461, hMe461, hcc461⟩ := Kd.N_get HO460.out [] (ji54) p461 (by first | exact q461 | exact of_decide_eq_true asm | (have e_ := (Kd.N_reads' HO460.out).1; omega)); obtain ⟨ua461_0, uc461_0, rfl, ul461_0, ge461_0⟩ := Kd.FK_slice_open hMe461; have hv461_0 := hcc461 0 _ rfl; rw [Nat.add_zero, show ((Kd.slice 5 (Kd.int .u8))).sz = 1 from rfl, Nat.mul_one] at hv461_0; replace hv461_0 := Option.some.inj (hv461_0.symm.trans hx461_0); injection hv461_0 with hva_ hvn_ hvc_; rw [hva_] at ge461_0; rw [hvc_] at ul461_0; have HL461_0 := Aside0.mk (show Kd.V (Kd.int .u8) 5 _ w.heap.size _ _ (rd_L1 y458 (ji54)) from Kd.V_mk ul461_0 ge461_0); clear hva_ hvn_ hvc_ ge461_0 ul461_0; clear hcc461 hce461; have HR461_0 := Aside0.mk hi461_0; have HC461_0 := Aside0.mk hl461_0; clear hi461_0 hl461_0; replace p461 := eq_true p461; replace q461 := eq_true q461) | (go_at_call 56; (with_reducible refine (impl_Digest.calls a0 _ _ (rd_L1 y458 (ji54)) t462 _ ?side1 ?side2 A57.out).mono ?_); (case side1 => repeat (first | exact (by repeat (first | (with_reducible exact HR461_0.out) | (with_reducible refine Kd.C_alloc ?_ _) | (with_reducible refine Kd.C_drewN ?_ _) | (with_reducible refine Kd.C_drew ?_) | exact HR461_0.out)) | (with_reducible refine Kd.C_alloc ?_ _) | (with_reducible refine Kd.C_drewN ?_ _) | (with_reducible refine Kd.C_drew ?_))); (case side2 => exact HC461_0.out); rintro e w64 ⟨rfl, hb⟩; replace HO_4 := Aside0.mk (Kd.V_below (mv HO_4.out) hb); replace HO454 := Aside0.mk (Kd.V_below (mv HO454.out) hb); replace HO460 := Aside0.mk (Kd.N_below (mv HO460.out) hb); replace HL461_0 := Aside0.mk (Kd.V_below (mv HL461_0.out) hb); replace HR461_0 := Aside0.mk (Kd.C_below (by repeat (first | (with_reducible exact HR461_0.out) | (with_reducible refine Kd.C_alloc ?_ _) | (with_reducible refine Kd.C_drewN ?_ _) | (with_reducible refine Kd.C_drew ?_) | exact HR461_0.out)) hb); replace HB := Aside0.mk (below_step (bt) hb); (try clear hb); (try clear hb2); (try clear hk); (try clear hi)))
                repeat (go_quiet (first | (go_at_call 108; (with_reducible refine (impl_nodeInput.calls k2 x13_2 (rd x4_2 0) t455 _ A52.out).mono ?_); rintro e w60 ⟨v456, rfl, ho0, hb⟩; replace HO_4 := Aside0.mk (Kd.V_elder' (mv HO_4.out) (Kd.R_base ho0) hb); replace HO_12 := Aside0.mk (Kd.N_elder' (mv HO_12.out) (Kd.R_base ho0) hb); replace HO454 := Aside0.mk (Kd.V_elder' (mv HO454.out) (Kd.R_base ho0) hb); have HO457 := Aside0.mk (Kd.R_lower (Kd.R_newM (M := fun k_ => (w.heap.size ≤ k_)) ho0 (below_size (bt)) (fun k_ h_ => h_)) (below_size (bt))); replace HB := Aside0.mk (below_step (bt) hb); (try clear hb); (try clear hb2); (try clear hk); (try clear hi); (try clear ho0); obtain ⟨Ao62, co62, eo62⟩ := Kd.R_slice HO457.out; subst eo62) | ((with_reducible refine gate_builtin (b := .append) (xs := #[.tmp 72, .tmp 76]) rfl ?_); (try (refine gate_guard (by rfl) ?_; dsimp only)); at_builtin; refine Kd.N_append (Kd.slice 5 (Kd.int .u8)) (w0 := w) w.heap.size rfl (.tmp 72) (.tmp 76) 24 22 (.slice none 0 0) 24 rfl Try.underlying24 info22 rfl (by decide) (by omega) u12 x12_2 t455 [.slice Ao62 t455.length co62] (fun k_ => ((P3_ k_ ∨ P4_ k_) ∨ w.heap.size ≤ k_)) (fun k_ => ((fun k_ => ((P3_ k_ ∨ P4_ k_) ∨ w.heap.size ≤ k_))) k_ ∧ some k_ ≠ (u12 : Value).ownBlock) rfl rfl ?aP (fun _ hk => hk) ?aF ?aO ?aB ?aS ?aL ?_; (case aP => exact (Kd.FK_slice_mk (Kd.R_reads' (Kd.R_mono (ok' := (fun k_ => ((fun k_ => ((P3_ k_ ∨ P4_ k_) ∨ w.heap.size ≤ k_))) k_ ∧ some k_ ≠ (u12 : Value).ownBlock)) (Kd.R_apart' (HO457.out) (Kd.N_typed HO_12.out) (by decide)) (fun k_ hk => ⟨(.inr (hk.1.1)), hk.2⟩))).2.1 (Kd.R_F (Kd.R_mono (ok' := (fun k_ => ((fun k_ => ((P3_ k_ ∨ P4_ k_) ∨ w.heap.size ≤ k_))) k_ ∧ some k_ ≠ (u12 : Value).ownBlock)) (Kd.R_apart' (HO457.out) (Kd.N_typed HO_12.out) (by decide)) (fun k_ hk => ⟨(.inr (hk.1.1)), hk.2⟩))))); (case aB => exact (bt)); (case aF => exact (fun k_ hk => (.inr (Nat.le_trans (below_size (bt)) hk)))); (case aO => exact (by (with_reducible repeat (first | apply Kd.N_alloc | apply Kd.N_drewN | apply Kd.N_drew)); exact Kd.N_mono HO_12.out (fun _ hk => hk.1))); (case aS => exact (below_size (bt))); (case aL => have := LMc53.out; omega); intro v459 w61 ho hb hg hat; rw [← Ny458.out] at ho; replace HO_4 := Aside0.mk (Kd.V_afterv (ok := (fun k_ => ((P3_ k_ ∨ P4_ k_) ∨ w.heap.size ≤ k_) ∧ some k_ ≠ (.slice Ao62 t455.length co62 : Value).ownBlock)) (by (with_reducible repeat (first | apply Kd.V_alloc | apply Kd.V_drewN | apply Kd.V_drew)); exact Kd.V_mono HO_4.out (fun _ hk => ⟨⟨hk.1.1, hk.2⟩, hk.1.2⟩)) hg hat); replace HO454 := Aside0.mk (Kd.V_afterv (ok := (fun k_ => ((P3_ k_ ∨ P4_ k_) ∨ w.heap.size ≤ k_) ∧ some k_ ≠ (.slice Ao62 t455.length co62 : Value).ownBlock)) (by (with_reducible repeat (first | apply Kd.V_alloc | apply Kd.V_drewN | apply Kd.V_drew)); exact Kd.V_mono HO454.out (fun _ hk => ⟨⟨hk.1.1, hk.2⟩, hk.1.2⟩)) hg hat); replace HB := Aside0.mk (hb); have HO460 := Aside0.mk (ho); clear HO_12 HO457; clear ho hb hg hat; obtain ⟨Ao63, co63, eo63⟩ := Kd.N_slice HO460.out; subst eo63; have p461 : 0 ≤ ((ji54) : Int) := of_decide_eq_true asm; have q461 : (ji54) < (y458.length : Int) := of_decide_eq_true asm; obtain ⟨ad461, A461_0, c461_0, e461, hx461_0, hl461_0, hi461_0⟩ := at_L1 (Kd.N_reads' HO460.out).2.2 (ji54) p461 q461; cases e461; obtain ⟨ce461, hce461, hMe461, hcc461⟩ := Kd.N_get HO460.out [] (ji54) p461 (by first | exact q461 | exact of_decide_eq_true asm | (have e_ := (Kd.N_reads' HO460.out).1; omega)); obtain ⟨ua461_0, uc461_0, rfl, ul461_0, ge461_0⟩ := Kd.FK_slice_open hMe461; have hv461_0 := hcc461 0 _ rfl; rw [Nat.add_zero, show ((Kd.slice 5 (Kd.int .u8))).sz = 1 from rfl, Nat.mul_one] at hv461_0; replace hv461_0 := Option.some.inj (hv461_0.symm.trans hx461_0); injection hv461_0 with hva_ hvn_ hvc_; rw [hva_] at ge461_0; rw [hvc_] at ul461_0; have HL461_0 := Aside0.mk (show Kd.V (Kd.int .u8) 5 _ w.heap.size _ _ (rd_L1 y458 (ji54)) from Kd.V_mk ul461_0 ge461_0); clear hva_ hvn_ hvc_ ge461_0 ul461_0; clear hcc461 hce461; have HR461_0 := Aside0.mk hi461_0; have HC461_0 := Aside0.mk hl461_0; clear hi461_0 hl461_0; replace p461 := eq_true p461; replace q461 := eq_true q461) | (go_at_call 56; (with_reducible refine (impl_Digest.calls a0 _ _ (rd_L1 y458 (ji54)) t462 _ ?side1 ?side2 A57.out).mono ?_); (case side1 => repeat (first | exact (by repeat (first | (with_reducible exact HR461_0.out) | (with_reducible refine Kd.C_alloc ?_ _) | (with_reducible refine Kd.C_drewN ?_ _) | (with_reducible refine Kd.C_drew ?_) | exact HR461_0.out)) | (with_reducible refine Kd.C_alloc ?_ _) | (with_reducible refine Kd.C_drewN ?_ _) | (with_reducible refine Kd.C_drew ?_))); (case side2 => exact HC461_0.out); rintro e w64 ⟨rfl, hb⟩; replace HO_4 := Aside0.mk (Kd.V_below (mv HO_4.out) hb); replace HO454 := Aside0.mk (Kd.V_below (mv HO454.out) hb); replace HO460 := Aside0.mk (Kd.N_below (mv HO460.out) hb); replace HL461_0 := Aside0.mk (Kd.V_below (mv HL461_0.out) hb); replace HR461_0 := Aside0.mk (Kd.C_below (by repeat (first | (with_reducible exact HR461_0.out) | (with_reducible refine Kd.C_alloc ?_ _) | (with_reducible refine Kd.C_drewN ?_ _) | (with_reducible refine Kd.C_drew ?_) | exact HR461_0.out)) hb); replace HB := Aside0.mk (below_step (bt) hb); (try clear hb); (try clear hb2); (try clear hk); (try clear hi))); try go_wp2_with (first | (go_at_call 108; (with_reducible refine (impl_nodeInput.calls k2 x13_2 (rd x4_2 0) t455 _ A52.out).mono ?_); rintro e w60 ⟨v456, rfl, ho0, hb⟩; replace HO_4 := Aside0.mk (Kd.V_elder' (mv HO_4.out) (Kd.R_base ho0) hb); replace HO_12 := Aside0.mk (Kd.N_elder' (mv HO_12.out) (Kd.R_base ho0) hb); replace HO454 := Aside0.mk (Kd.V_elder' (mv HO454.out) (Kd.R_base ho0) hb); have HO457 := Aside0.mk (Kd.R_lower (Kd.R_newM (M := fun k_ => (w.heap.size ≤ k_)) ho0 (below_size (bt)) (fun k_ h_ => h_)) (below_size (bt))); replace HB := Aside0.mk (below_step (bt) hb); (try clear hb); (try clear hb2); (try clear hk); (try clear hi); (try clear ho0); obtain ⟨Ao62, co62, eo62⟩ := Kd.R_slice HO457.out; subst eo62) | ((with_reducible refine gate_builtin (b := .append) (xs := #[.tmp 72, .tmp 76]) rfl ?_); (try (refine gate_guard (by rfl) ?_; dsimp only)); at_builtin; refine Kd.N_append (Kd.slice 5 (Kd.int .u8)) (w0 := w) w.heap.size rfl (.tmp 72) (.tmp 76) 24 22 (.slice none 0 0) 24 rfl Try.underlying24 info22 rfl (by decide) (by omega) u12 x12_2 t455 [.slice Ao62 t455.length co62] (fun k_ => ((P3_ k_ ∨ P4_ k_) ∨ w.heap.size ≤ k_)) (fun k_ => ((fun k_ => ((P3_ k_ ∨ P4_ k_) ∨ w.heap.size ≤ k_))) k_ ∧ some k_ ≠ (u12 : Value).ownBlock) rfl rfl ?aP (fun _ hk => hk) ?aF ?aO ?aB ?aS ?aL ?_; (case aP => exact (Kd.FK_slice_mk (Kd.R_reads' (Kd.R_mono (ok' := (fun k_ => ((fun k_ => ((P3_ k_ ∨ P4_ k_) ∨ w.heap.size ≤ k_))) k_ ∧ some k_ ≠ (u12 : Value).ownBlock)) (Kd.R_apart' (HO457.out) (Kd.N_typed HO_12.out) (by decide)) (fun k_ hk => ⟨(.inr (hk.1.1)), hk.2⟩))).2.1 (Kd.R_F (Kd.R_mono (ok' := (fun k_ => ((fun k_ => ((P3_ k_ ∨ P4_ k_) ∨ w.heap.size ≤ k_))) k_ ∧ some k_ ≠ (u12 : Value).ownBlock)) (Kd.R_apart' (HO457.out) (Kd.N_typed HO_12.out) (by decide)) (fun k_ hk => ⟨(.inr (hk.1.1)), hk.2⟩))))); (case aB => exact (bt)); (case aF => exact (fun k_ hk => (.inr (Nat.le_trans (below_size (bt)) hk)))); (case aO => exact (by (with_reducible repeat (first | apply Kd.N_alloc | apply Kd.N_drewN | apply Kd.N_drew)); exact Kd.N_mono HO_12.out (fun _ hk => hk.1))); (case aS => exact (below_size (bt))); (case aL => have := LMc53.out; omega); intro v459 w61 ho hb hg hat; rw [← Ny458.out] at ho; replace HO_4 := Aside0.mk (Kd.V_afterv (ok := (fun k_ => ((P3_ k_ ∨ P4_ k_) ∨ w.heap.size ≤ k_) ∧ some k_ ≠ (.slice Ao62 t455.length co62 : Value).ownBlock)) (by (with_reducible repeat (first | apply Kd.V_alloc | apply Kd.V_drewN | apply Kd.V_drew)); exact Kd.V_mono HO_4.out (fun _ hk => ⟨⟨hk.1.1, hk.2⟩, hk.1.2⟩)) hg hat); replace HO454 := Aside0.mk (Kd.V_afterv (ok := (fun k_ => ((P3_ k_ ∨ P4_ k_) ∨ w.heap.size ≤ k_) ∧ some k_ ≠ (.slice Ao62 t455.length co62 : Value).ownBlock)) (by (with_reducible repeat (first | apply Kd.V_alloc | apply Kd.V_drewN | apply Kd.V_drew)); exact Kd.V_mono HO454.out (fun _ hk => ⟨⟨hk.1.1, hk.2⟩, hk.1.2⟩)) hg hat); replace HB := Aside0.mk (hb); have HO460 := Aside0.mk (ho); clear HO_12 HO457; clear ho hb hg hat; obtain ⟨Ao63, co63, eo63⟩ := Kd.N_slice HO460.out; subst eo63; have p461 : 0 ≤ ((ji54) : Int) := of_decide_eq_true asm; have q461 : (ji54) < (y458.length : Int) := of_decide_eq_true asm; obtain ⟨ad461, A461_0, c461_0, e461, hx461_0, hl461_0, hi461_0⟩ := at_L1 (Kd.N_reads' HO460.out).2.2 (ji54) p461 q461; cases e461; obtain ⟨ce461, hce461, hMe461, hcc461⟩ := Kd.N_get HO460.out [] (ji54) p461 (by first | exact q461 | exact of_decide_eq_true asm | (have e_ := (Kd.N_reads' HO460.out).1; omega)); obtain ⟨ua461_0, uc461_0, rfl, ul461_0, ge461_0⟩ := Kd.FK_slice_open hMe461; have hv461_0 := hcc461 0 _ rfl; rw [Nat.add_zero, show ((Kd.slice 5 (Kd.int .u8))).sz = 1 from rfl, Nat.mul_one] at hv461_0; replace hv461_0 := Option.some.inj (hv461_0.symm.trans hx461_0); injection hv461_0 with hva_ hvn_ hvc_; rw [hva_] at ge461_0; rw [hvc_] at ul461_0; have HL461_0 := Aside0.mk (show Kd.V (Kd.int .u8) 5 _ w.heap.size _ _ (rd_L1 y458 (ji54)) from Kd.V_mk ul461_0 ge461_0); clear hva_ hvn_ hvc_ ge461_0 ul461_0; clear hcc461 hce461; have HR461_0 := Aside0.mk hi461_0; have HC461_0 := Aside0.mk hl461_0; clear hi461_0 hl461_0; replace p461 := eq_true p461; replace q461 := eq_true q461) | (go_at_call 56; (with_reducible refine (impl_Digest.calls a0 _ _ (rd_L1 y458 (ji54)) t462 _ ?side1 ?side2 A57.out).mono ?_); (case side1 => repeat (first | exact (by repeat (first | (with_reducible exact HR461_0.out) | (with_reducible refine Kd.C_alloc ?_ _) | (with_reducible refine Kd.C_drewN ?_ _) | (with_reducible refine Kd.C_drew ?_) | exact HR461_0.out)) | (with_reducible refine Kd.C_alloc ?_ _) | (with_reducible refine Kd.C_drewN ?_ _) | (with_reducible refine Kd.C_drew ?_))); (case side2 => exact HC461_0.out); rintro e w64 ⟨rfl, hb⟩; replace HO_4 := Aside0.mk (Kd.V_below (mv HO_4.out) hb); replace HO454 := Aside0.mk (Kd.V_below (mv HO454.out) hb); replace HO460 := Aside0.mk (Kd.N_below (mv HO460.out) hb); replace HL461_0 := Aside0.mk (Kd.V_below (mv HL461_0.out) hb); replace HR461_0 := Aside0.mk (Kd.C_below (by repeat (first | (with_reducible exact HR461_0.out) | (with_reducible refine Kd.C_alloc ?_ _) | (with_reducible refine Kd.C_drewN ?_ _) | (with_reducible refine Kd.C_drew ?_) | exact HR461_0.out)) hb); replace HB := Aside0.mk (below_step (bt) hb); (try clear hb); (try clear hb2); (try clear hk); (try clear hi))))
                go_roundg k2
                case measure => have := HJ5.out; have := HK2.out; omega
                case rel => exact ⟨(wrap64 (Int.tdiv x2_2 2)), (y450), (y458), (t462), (wrap64 (Int.tdiv (wrap64 (x14_2 + 1)) 2)), (by first | rfl | (simp; done) | (simp [*]; done)), (by first | rfl | (simp; done) | (simp [*]; done)), (by first | rfl | (simp; done) | (simp [*]; done)), H', ⟨by have := HJ5.out; have := HK2.out; omega⟩, ⟨by (with_reducible repeat (first | apply Kd.V_alloc | apply Kd.V_drewN | apply Kd.V_drew)); exact Kd.V_mono HO454.out (fun _ hk => ⟨hk.1.1, hk.2⟩)⟩, ⟨mv HO460.out⟩, ⟨bt⟩⟩
               ·rw [if_neg c56] at H
                exact absurd H (by simp)
              ·rw [if_neg c55] at H
               exact absurd H (by simp)
             ·rw [if_neg c53] at H
              exact absurd H (by simp)
            ·rw [if_neg c51] at H
             exact absurd H (by simp)
          ·rw [if_neg c35] at H
           exact absurd H (by simp)
        ·rw [if_neg c32] at H
         have c32b0 : decide ((Go.bits .xor .i64 x2_2 1) < x14_2) = false := decide_eq_false c32
         clear c32
         have H' := Aside0.mk H
         clear H
         go_wp2
         go_roundg k2
         case measure => have := HJ5.out; have := HK2.out; omega
         case rel => exact ⟨(wrap64 (Int.tdiv x2_2 2)), (x4_2), (x12_2), (x13_2), (wrap64 (Int.tdiv (wrap64 (x14_2 + 1)) 2)), (by first | rfl | (simp; done) | (simp [*]; done)), (by first | rfl | (simp; done) | (simp [*]; done)), (by first | rfl | (simp; done) | (simp [*]; done)), H', ⟨by have := HJ5.out; have := HK2.out; omega⟩, ⟨mv HO_4.out⟩, ⟨mv HO_12.out⟩, ⟨bt⟩⟩
       ·rw [if_neg c31] at H
        have c31b0 : decide (1 < x14_2) = false := decide_eq_false c31
        clear c31
        replace H := Option.bind_eq_some_iff.mp H
        obtain ⟨t430, A650, H⟩ := H
        (try dsimp -simprocs only at H)
        have A65 := Aside0.mk A650
        clear A650
        by_cases c66 : x12_2.length < 5864062014805
        ·rw [if_pos c66] at H
         have LMc66 := Aside0.mk c66
         clear c66
         obtain ⟨y433, hy433⟩ : ∃ y_ : List (List Int), y_ = (x12_2 ++ [t430]) := ⟨_, rfl⟩
         replace H : (some (y433, ((x4_2.length : Int) == 0))) = some (r1, r2) := by first | (rw [hy433]; exact H) | exact H
         have Ny433 := Aside0.mk hy433
         clear hy433
         simp only [Option.some.injEq, Prod.mk.injEq] at H
         obtain ⟨rfl, rfl⟩ := H
         go_wp2_with (first | (go_at_call 105; (with_reducible refine (impl_topInput.calls k2 a1 x13_2 t430 _ A65.out).mono ?_); rintro e w67 ⟨v431, rfl, ho0, hb⟩; replace HO_4 := Aside0.mk (Kd.V_elder' (mv HO_4.out) (Kd.R_base ho0) hb); replace HO_12 := Aside0.mk (Kd.N_elder' (mv HO_12.out) (Kd.R_base ho0) hb); have HO432 := Aside0.mk (Kd.R_lower (Kd.R_newM (M := fun k_ => (w.heap.size ≤ k_)) ho0 (below_size (bt)) (fun k_ h_ => h_)) (below_size (bt))); replace HB := Aside0.mk (below_step (bt) hb); (try clear hb); (try clear hb2); (try clear hk); (try clear hi); (try clear ho0); obtain ⟨Ao69, co69, eo69⟩ := Kd.R_slice HO432.out; subst eo69) | ((with_reducible refine gate_builtin (b := .append) (xs := #[.tmp 88, .tmp 92]) rfl ?_); (try (refine gate_guard (by rfl) ?_; dsimp only)); at_builtin; refine Kd.N_append (Kd.slice 5 (Kd.int .u8)) (w0 := w) w.heap.size rfl (.tmp 88) (.tmp 92) 24 22 (.slice none 0 0) 24 rfl Try.underlying24 info22 rfl (by decide) (by omega) u12 x12_2 t430 [.slice Ao69 t430.length co69] (fun k_ => ((P3_ k_ ∨ P4_ k_) ∨ w.heap.size ≤ k_)) (fun k_ => ((fun k_ => ((P3_ k_ ∨ P4_ k_) ∨ w.heap.size ≤ k_))) k_ ∧ some k_ ≠ (u12 : Value).ownBlock) rfl rfl ?aP (fun _ hk => hk) ?aF ?aO ?aB ?aS ?aL ?_; (case aP => exact (Kd.FK_slice_mk (Kd.R_reads' (Kd.R_mono (ok' := (fun k_ => ((fun k_ => ((P3_ k_ ∨ P4_ k_) ∨ w.heap.size ≤ k_))) k_ ∧ some k_ ≠ (u12 : Value).ownBlock)) (Kd.R_apart' (HO432.out) (Kd.N_typed HO_12.out) (by decide)) (fun k_ hk => ⟨(.inr (hk.1.1)), hk.2⟩))).2.1 (Kd.R_F (Kd.R_mono (ok' := (fun k_ => ((fun k_ => ((P3_ k_ ∨ P4_ k_) ∨ w.heap.size ≤ k_))) k_ ∧ some k_ ≠ (u12 : Value).ownBlock)) (Kd.R_apart' (HO432.out) (Kd.N_typed HO_12.out) (by decide)) (fun k_ hk => ⟨(.inr (hk.1.1)), hk.2⟩))))); (case aB => exact (bt)); (case aF => exact (fun k_ hk => (.inr (Nat.le_trans (below_size (bt)) hk)))); (case aO => exact (by (with_reducible repeat (first | apply Kd.N_alloc | apply Kd.N_drewN | apply Kd.N_drew)); exact Kd.N_mono HO_12.out (fun _ hk => hk.1))); (case aS => exact (below_size (bt))); (case aL => have := LMc66.out; omega); intro v434 w68 ho hb hg hat; rw [← Ny433.out] at ho; replace HO_4 := Aside0.mk (Kd.V_afterv (ok := (fun k_ => ((P3_ k_ ∨ P4_ k_) ∨ w.heap.size ≤ k_) ∧ some k_ ≠ (.slice Ao69 t430.length co69 : Value).ownBlock)) (by (with_reducible repeat (first | apply Kd.V_alloc | apply Kd.V_drewN | apply Kd.V_drew)); exact Kd.V_mono HO_4.out (fun _ hk => ⟨⟨hk.1.1, hk.2⟩, hk.1.2⟩)) hg hat); replace HB := Aside0.mk (hb); have HO435 := Aside0.mk (ho); clear HO_12 HO432; clear ho hb hg hat; obtain ⟨Ao70, co70, eo70⟩ := Kd.V_slice HO_4.out; subst eo70))
         go_ret2
         exact ⟨_, by first | rfl | (simp [errW_none, errW_some] <;> rfl) | (simp [*, errW_none, errW_some] <;> rfl), by (with_reducible repeat (first | apply Kd.N_alloc | apply Kd.N_drewN | apply Kd.N_drew)); exact HO435.out, bt⟩
        ·rw [if_neg c66] at H
         exact absurd H (by simp)
    ·rw [if_neg c23] at H
     exact absurd H (by simp)

/-! ### impl_lastOf: function 69 -/
def impl_lastOf.f (a0 : Int) (l1 : List (List Int)) (a2 : Bool) : Option (Int) := if a2 = true then (if 0 ≤ (wrap64 ((l1.length : Int) - 1)) then (if (wrap64 ((l1.length : Int) - 1)) < (l1.length : Int) then ((impl_Digest.f a0 (rd_L1 l1 (wrap64 ((l1.length : Int) - 1)))).bind fun t464 => (some t464)) else (none)) else (none)) else (some (-1))
set_option maxHeartbeats 8000000 in
set_option maxRecDepth 100000 in
theorem impl_lastOf.calls (a0 : Int) (A1 : Option Addr) (c1 : Nat) (l1 : List (List Int)) (a2 : Bool) (r : Int) (w : World) (hr1 : Kd.C (Kd.slice 5 (Kd.int .u8)) w A1 l1.length l1) (hc1 : l1.length ≤ c1) (h : impl_lastOf.f a0 l1 a2 = some r) :
  Calls Try.prog 69 #[.int .i64 a0, .slice A1 l1.length c1, .bool a2] w fun e w' => e = .returned (.int .i64 r) ∧ Below w.heap.size w w' := by
 have HR1 := Aside0.mk hr1
 have HC1 := Aside0.mk hc1
 clear hr1 hc1
 have HB := Aside0.mk (Below.refl w.heap.size w)
 have H : (if a2 = true then (if 0 ≤ (wrap64 ((l1.length : Int) - 1)) then (if (wrap64 ((l1.length : Int) - 1)) < (l1.length : Int) then ((impl_Digest.f a0 (rd_L1 l1 (wrap64 ((l1.length : Int) - 1)))).bind fun t464 => (some t464)) else (none)) else (none)) else (some (-1))) = some r := h
 clear h
 by_cases c4 : a2 = true
 ·subst c4
  rw [if_pos rfl] at H
  obtain ⟨ji5, hji5⟩ : ∃ j_ : Int, (wrap64 ((l1.length : Int) - 1)) = j_ := ⟨_, rfl⟩
  replace H : (if 0 ≤ (ji5) then (if (ji5) < (l1.length : Int) then ((impl_Digest.f a0 (rd_L1 l1 (ji5))).bind fun t464 => (some t464)) else (none)) else (none)) = some r := by first | (rw [hji5] at H; exact H) | (simp only [hji5] at H ⊢; exact H)
  have hji5w : (IntKind.i64.wrap ((l1.length : Int) - 1)) = ji5 := (i64_w _).trans hji5
  by_cases c6 : 0 ≤ (ji5)
  ·rw [if_pos c6] at H
   have c6b0 : decide (0 ≤ (ji5)) = true := decide_eq_true c6
   clear c6
   by_cases c7 : (ji5) < (l1.length : Int)
   ·rw [if_pos c7] at H
    have c7b0 : decide ((ji5) < (l1.length : Int)) = true := decide_eq_true c7
    clear c7
    replace H := Option.bind_eq_some_iff.mp H
    obtain ⟨t464, A80, H⟩ := H
    (try dsimp -simprocs only at H)
    have A8 := Aside0.mk A80
    clear A80
    obtain rfl := Option.some.inj H
    have p463 : 0 ≤ ((ji5) : Int) := of_decide_eq_true asm
    have q463 : (ji5) < (l1.length : Int) := of_decide_eq_true asm
    obtain ⟨ad463, A463_0, c463_0, e463, hx463_0, hl463_0, hi463_0⟩ := at_L1 HR1.out (ji5) p463 q463
    cases e463
    have HR463_0 := Aside0.mk hi463_0
    have HC463_0 := Aside0.mk hl463_0
    clear hi463_0 hl463_0
    replace p463 := eq_true p463
    replace q463 := eq_true q463
    go_enter Try.func69, Try.ntmps69
    go_wp2_with (first | ((with_reducible refine gate_callee (f := 56) rfl ?_); refine goesL_ (some 16) rfl rfl Try.func56 (by kernel_rfl) rfl #[.int .i64 a0, .slice A463_0 (rd_L1 l1 (ji5)).length c463_0] rfl (by (try simp only [List.map_toArray, List.map_cons, List.map_nil]); first | done | (simp only [hji5]; rfl) | rfl | (simp only [List.length_drop, List.length_take]; rfl)) ?_; (with_reducible refine (impl_Digest.calls a0 _ _ (rd_L1 l1 (ji5)) t464 _ ?side1 ?side2 A8.out).mono ?_); (case side1 => exact cv (HR463_0.out)); (case side2 => exact HC463_0.out); rintro e w9 ⟨rfl, hb⟩; refine ⟨_, rfl, ?_⟩; replace HB := Aside0.mk (below_step (bt) hb); (try clear hb); (try clear hb2); (try clear hk); (try clear hi)))
    go_ret
    exact ⟨by first | rfl | (simp [errW_none, errW_some] <;> rfl) | (simp only [← hji5]; first | rfl | (simp [errW_none, errW_some] <;> rfl)) | (simp [*, errW_none, errW_some] <;> rfl), bt⟩
   ·rw [if_neg c7] at H
    exact absurd H (by simp)
  ·rw [if_neg c6] at H
   exact absurd H (by simp)
 ·replace c4 := Bool.eq_false_iff.mpr c4
  subst c4
  rw [if_neg (show ¬ (false = true) by decide)] at H
  obtain rfl := Option.some.inj H
  go_enter Try.func69, Try.ntmps69
  go_wp2
  go_ret
  exact ⟨by first | rfl | (simp [errW_none, errW_some] <;> rfl) | (simp [*, errW_none, errW_some] <;> rfl), bt⟩

/-! ### bytes_Equal: function 60 -/
def bytes_Equal.f (l0 : List Int) (l1 : List Int) : Option (Bool) := some ((strOfNums l0).toList == (strOfNums l1).toList)
set_option maxHeartbeats 8000000 in
set_option maxRecDepth 100000 in
theorem bytes_Equal.calls (A0 : Option Addr) (c0 : Nat) (l0 : List Int) (A1 : Option Addr) (c1 : Nat) (l1 : List Int) (r : Bool) (w : World) (hr0 : Kd.C (Kd.int .u8) w A0 l0.length l0) (hc0 : l0.length ≤ c0) (hr1 : Kd.C (Kd.int .u8) w A1 l1.length l1) (hc1 : l1.length ≤ c1) (h : bytes_Equal.f l0 l1 = some r) :
  Calls Try.prog 60 #[.slice A0 l0.length c0, .slice A1 l1.length c1] w fun e w' => e = .returned (.bool r) ∧ Drawn0 w w' := by
 have HR0 := Aside0.mk hr0
 have HC0 := Aside0.mk hc0
 clear hr0 hc0
 have HR1 := Aside0.mk hr1
 have HC1 := Aside0.mk hc1
 clear hr1 hc1
 have H : (some ((strOfNums l0).toList == (strOfNums l1).toList)) = some r := h
 clear h
 obtain rfl := Option.some.inj H
 have hcv3 := Kd.C_string (P := Try.prog) (A := A0) (c := c0) Try.underlying22 Try.underlying5 Try.underlying9 HR0.out
 have hcv4 := Kd.C_string (P := Try.prog) (A := A1) (c := c1) Try.underlying22 Try.underlying5 Try.underlying9 HR1.out
 go_enter Try.func60, Try.ntmps60
 go_wp2
 go_ret
 exact ⟨by first | rfl | (simp; done) | (simp [*]; done), by repeat (first | exact Drawn0.refl _ | apply Drawn0.step)⟩

/-! ### bytes_Clone: function 61 -/
def bytes_Clone.f (l0 : List Int) : Option (List Int) := if l0.length < 140737488355328 then some l0 else none
set_option maxHeartbeats 4000000 in
set_option maxRecDepth 100000 in
theorem bytes_Clone.calls (A0 : Option Addr) (c0 : Nat) (l0 : List Int) (r : List Int) (w : World) (hr0 : Kd.C (Kd.int .u8) w A0 l0.length l0) (hc0 : l0.length ≤ c0) (h : bytes_Clone.f l0 = some r) :
  Calls Try.prog 61 #[.slice A0 l0.length c0] w fun e w' => ∃ v0_ : Value, e = .returned (v0_) ∧ Kd.R (Kd.int .u8) 5 w' w.heap.size (fun _ => True) v0_ r ∧ Below w.heap.size w w' := by
 unfold bytes_Clone.f at h
 by_cases hl : l0.length < 140737488355328
 ·rw [if_pos hl] at h
  obtain rfl := Option.some.inj h
  have HR0 := Aside0.mk hr0
  have LM := Aside0.mk hl
  have hq := fun W : World => Go.Lib.run_eql_slice_nil (P := Try.prog) W 22 5 A0 l0.length c0 0 0 Try.underlying22
  clear hr0 h hl
  cases A0 with
  | none =>
   have hz : l0 = [] := by
    obtain ⟨_, _, h3⟩ := HR0.out
    cases l0 with
    | nil => rfl
    | cons x l =>
     obtain ⟨ad, e, _⟩ := h3 (by simp)
     cases e
   have HZ := Aside0.mk hz
   clear hz
   have hq1 := hq
   simp only [Option.isNone_none] at hq1
   clear hq
   go_enter Try.func61, Try.ntmps61
   go_wp2
   go_ret
   exact ⟨_, rfl, by rw [HZ.out]; exact Kd.R_nil _ _ _ _ _, Below.refl _ _⟩
  | some ad =>
   have hq1 := hq
   simp only [Option.isNone_some] at hq1
   clear hq
   have HB := Aside0.mk (Below.refl w.heap.size w)
   go_enter Try.func61, Try.ntmps61
   go_wp2_with (first | ((with_reducible refine gate_dst (N := 5) rfl ?_); refine Kd.R_lit (Kd.int .u8) _ 5 ?hg (N := 5) ?hd (xs := ([] : List Int)) (inner := []) (ok := fun _ => True) (okp := fun _ => True) ?hr ?hp (fun _ hk => hk) trivial (Below.refl _ _) (Nat.le_refl _) (by simp) ?_; (case hd => rfl); (case hg => rfl); (case hr => first | (go_simp; done) | (go_simp; rfl)); (case hp => exact (Reps.none _ _)); intro v166 w3 ho4 hb hg_ hnew_; clear hg_ hnew_; have HO167 := Aside0.mk (Kd.R_lower ho4 (below_size (bt))); replace HB := Aside0.mk (below_step (bt) hb); clear hb ho4) | ((with_reducible refine gate_builtin (b := .append) (xs := #[.tmp 5, .tmp 6]) rfl ?_); at_builtin; refine Kd.R_append_rows (Kd.int .u8) (w0 := w) w.heap.size rfl (.tmp 5) (.tmp 6) 22 5 (.int .u8 0) 1 rfl Try.underlying22 info5 rfl (by decide) (by omega) v166 [] l0 _ _ _ (fun _ => True) (fun _ => False) rfl rfl ?aO ?aR (fun _ _ h => h) (fun _ h => h.elim) ?aF ?aB ?aS ?aL ?_; (case aR => exact (Kd.C_below HR0.out HB.out)); (case aB => exact HB.out); (case aF => exact (fun _ _ => trivial)); (case aO => exact HO167.out); (case aS => exact (below_size HB.out)); (case aL => have := LM.out; simp; omega); intro v169 w5 ho hb hg hat; replace HB := Aside0.mk (hb); have HO170 := Aside0.mk (ho); clear HO167; clear ho hb hg hat))
   go_ret
   exact ⟨_, rfl, HO170.out, HB.out⟩
 ·rw [if_neg hl] at h
  cases h

/-! ### impl_pairOf: function 71 -/
def impl_pairOf.f (l0 : List Int) (l1 : List Int) : Option (List Int × List Int) := (bytes_Clone.f l0).bind fun t466 => ((bytes_Clone.f l1).bind fun t469 => (some (t466, t469)))
set_option maxHeartbeats 8000000 in
set_option maxRecDepth 100000 in
theorem impl_pairOf.calls (A0 : Option Addr) (c0 : Nat) (l0 : List Int) (A1 : Option Addr) (c1 : Nat) (l1 : List Int) (r1 : List Int) (r2 : List Int) (w : World) (hr0 : Kd.C (Kd.int .u8) w A0 l0.length l0) (hc0 : l0.length ≤ c0) (hr1 : Kd.C (Kd.int .u8) w A1 l1.length l1) (hc1 : l1.length ≤ c1) (h : impl_pairOf.f l0 l1 = some (r1, r2)) :
  Calls Try.prog 71 #[.slice A0 l0.length c0, .slice A1 l1.length c1] w fun e w' => ∃ v0_ v1_ : Value, e = .returned (.agg #[v0_, v1_]) ∧ Kd.R (Kd.int .u8) 5 w' w.heap.size (fun k_ => some k_ ≠ (v1_ : Value).ownBlock) v0_ r1 ∧ Kd.R (Kd.int .u8) 5 w' w.heap.size (fun k_ => some k_ ≠ (v0_ : Value).ownBlock) v1_ r2 ∧ Below w.heap.size w w' := by
 have hu33 := Try.underlying33
 have HR0 := Aside0.mk hr0
 have HC0 := Aside0.mk hc0
 clear hr0 hc0
 have HR1 := Aside0.mk hr1
 have HC1 := Aside0.mk hc1
 clear hr1 hc1
 have HB := Aside0.mk (Below.refl w.heap.size w)
 have H : ((bytes_Clone.f l0).bind fun t466 => ((bytes_Clone.f l1).bind fun t469 => (some (t466, t469)))) = some (r1, r2) := h
 clear h
 replace H := Option.bind_eq_some_iff.mp H
 obtain ⟨t466, A30, H⟩ := H
 (try dsimp -simprocs only at H)
 have A3 := Aside0.mk A30
 clear A30
 replace H := Option.bind_eq_some_iff.mp H
 obtain ⟨t469, A40, H⟩ := H
 (try dsimp -simprocs only at H)
 have A4 := Aside0.mk A40
 clear A40
 simp only [Option.some.injEq, Prod.mk.injEq] at H
 obtain ⟨rfl, rfl⟩ := H
 go_enter Try.func71, Try.ntmps71
 go_wp2_with (first | ((with_reducible refine gate_dst (N := 4) rfl ?_); refine box_event ?hg (N := 4) ?hd (cs := #[.slice none 0 0, .slice none 0 0]) (t := 33) ?hr ?_; (case hd => rfl); (case hg => rfl); (case hr => first | (go_simp; done) | (go_simp; rfl)); intro gb465 hg w5 hbox hb; have BK465 := Aside0.mk (hbox); have GW465 := Aside0.mk ((by rw [hg]; exact (below_size (bt)) : w.heap.size ≤ gb465)); have GE465 := Aside0.mk ((by rw [hg]; exact (below_size (bt)) : w.heap.size ≤ gb465)); replace HB := Aside0.mk (below_step (bt) hb); clear hb hbox hg) | ((with_reducible refine gate_callee (f := 61) rfl ?_); refine goesL_ (some 6) rfl rfl Try.func61 (by kernel_rfl) rfl #[.slice A0 l0.length c0] rfl av ?_; (with_reducible refine (bytes_Clone.calls _ _ l0 t466 _ ?side1 ?side2 A3.out).mono ?_); (case side1 => exact cv ((Kd.C_below HR0.out HB.out))); (case side2 => exact HC0.out); rintro e w6 ⟨v467, rfl, ho0, hb⟩; refine ⟨_, rfl, ?_⟩; have HO468 := Aside0.mk (Kd.R_lower ho0 (below_size (b1 GE465.out))); replace BK465 := Aside0.mk (blk_below (g := gb465) (o := .cells #[.slice none 0 0, .slice none 0 0] 33 (0, 0)) (mb BK465.out) hb); replace HB := Aside0.mk (below_step (b1 GE465.out) hb); (try clear hb); (try clear hb2); (try clear hk); (try clear hi); (try clear ho0)) | ((with_reducible refine gate_callee (f := 61) rfl ?_); refine goesL_ (some 8) rfl rfl Try.func61 (by kernel_rfl) rfl #[.slice A1 l1.length c1] rfl av ?_; (with_reducible refine (bytes_Clone.calls _ _ l1 t469 _ ?side1 ?side2 A4.out).mono ?_); (case side1 => exact cv ((Kd.C_below HR1.out HB.out))); (case side2 => exact HC1.out); rintro e w7 ⟨v470, rfl, ho0, hb⟩; refine ⟨_, rfl, ?_⟩; have HO471 := Aside0.mk (Kd.R_lower (Kd.R_new' ho0 (Kd.R_lt (mv HO468.out))) (below_size (b1 GE465.out))); replace HO468 := Aside0.mk (Kd.R_elder' (mv HO468.out) (Kd.R_base ho0) hb); replace BK465 := Aside0.mk (blk_below (g := gb465) (o := .cells #[.slice none 0 0, .slice none 0 0] 33 (0, 0)) (mb BK465.out) hb); replace HB := Aside0.mk (below_step (b1 GE465.out) hb); (try clear hb); (try clear hb2); (try clear hk); (try clear hi); (try clear ho0); obtain ⟨Ao8, co8, eo8⟩ := Kd.R_slice HO471.out; subst eo8; obtain ⟨Ao9, co9, eo9⟩ := Kd.R_slice HO468.out; subst eo9; have hcz10_0 : w7.cell? ⟨gb465, 0, none⟩ = some (.slice none 0 0) := (blk_cell BK465.out 0).trans rfl; have hcz10_1 : w7.cell? ⟨gb465, 1, none⟩ = some (.slice none 0 0) := (blk_cell BK465.out 1).trans rfl; have hfz10_0 := blk_frozen BK465.out 0; have hfz10_1 := blk_frozen BK465.out 1))
 refine bodyPost_ret (results_cell_row rfl _ _ gb465 33 #[.slice Ao9 t466.length co9, .slice Ao8 t469.length co8] (0, 0) _ rfl (by (with_reducible repeat (first | refine blk_drewN ?_ _ | refine blk_drew ?_ | refine blk_alloc ?_ _)); refine blk_put (cs := #[.slice Ao9 t466.length co9, .slice none 0 0]) ?_ 1 _ rfl; (with_reducible repeat (first | refine blk_drewN ?_ _ | refine blk_drew ?_ | refine blk_alloc ?_ _)); refine blk_put (cs := #[.slice none 0 0, .slice none 0 0]) ?_ 0 _ rfl; (with_reducible repeat (first | refine blk_drewN ?_ _ | refine blk_drew ?_ | refine blk_alloc ?_ _)); exact BK465.out) Try.underlying33 rfl (by kernel_rfl)) rfl ?_
 exact ⟨_, _, by first | rfl | (simp [errW_none, errW_some] <;> rfl) | (simp [*, errW_none, errW_some] <;> rfl), by (with_reducible repeat (first | apply Kd.R_alloc | apply Kd.R_drewN | apply Kd.R_drew)); exact Kd.R_mono (Kd.R_far (p := ⟨gb465, 1, none⟩) (Kd.R_far (p := ⟨gb465, 0, none⟩) (Kd.R_types HO468.out BK465.out (by decide)) (fun _ hk => hk.2) (.slice Ao9 t466.length co9)) (fun _ hk => hk.2) (.slice Ao8 t469.length co8)) (fun _ hk => hk.1.2), by (with_reducible repeat (first | apply Kd.R_alloc | apply Kd.R_drewN | apply Kd.R_drew)); exact Kd.R_mono (Kd.R_far (p := ⟨gb465, 1, none⟩) (Kd.R_far (p := ⟨gb465, 0, none⟩) (Kd.R_types HO471.out BK465.out (by decide)) (fun _ hk => hk.2) (.slice Ao9 t466.length co9)) (fun _ hk => hk.2) (.slice Ao8 t469.length co8)) (fun _ hk => hk.1.2), b1 GE465.out⟩

end Go.Proofs.Ytchjajbkaiefdaa.PFnExactFromLeaves
