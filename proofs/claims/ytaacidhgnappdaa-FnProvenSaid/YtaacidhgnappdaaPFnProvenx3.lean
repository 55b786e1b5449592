-- Written by a program of this workplace (wip/mp.py) out of the translation.
import Derived.Test.YtaacidhgnappdaaPFnProvenx0
import Derived.Test.YtaacidhgnappdaaPFnProvenx1
import Derived.Test.YtaacidhgnappdaaPFnProvenx2
namespace Go.Proofs.Ytaacidhgnappdaa.PFnProven
open Go.RowKit Go.Proofs.YtaacidhgnappdaaW.PrintWords Go.Proofs.YtaacidhgnappdaaW.PrintLast Go.Proofs.YtaacidhgnappdaaW.PrintMore Go.Proofs.Ytaacidhgnappdaa.Slim
attribute [local go_sem] max2_int min2_int max_two min_two max_three min_three max_four min_four   -- for this text's walks alone
set_option linter.unusedVariables false
set_option linter.unusedSimpArgs false

/-! ### impl_climb: function 67 -/
mutual
def impl_climb.j0 : Nat → Int → Int → Int → List Int → List Int → Bool → Option ((List (List Int)) × Bool)
 | 0, _, _, _, _, _, _ => none
 | k + 1, x0, x1, x2, x3, x4, x39 => if x39 = true then (some (([] : List (List Int)), false)) else ((impl_leafInput.f x3).bind fun t153 => ((some (([t153] : List (List Int)) : List (List Int))).bind fun y156 => (if 0 < (y156.length : Int) then ((impl_Digest.f x0 (rd_L1 y156 0)).bind fun t160 => (impl_climb.l0 k x0 x1 x2 x4 y156 t160 x1)) else (none))))
def impl_climb.l0 : Nat → Int → Int → Int → List Int → List (List Int) → Int → Int → Option ((List (List Int)) × Bool)
 | 0, _, _, _, _, _, _, _ => none
 | k + 1, x0, x1, x2, x4, x12, x13, x14 => if x14 > 1 then (if (Go.bits .xor .i64 x2 1) < x14 then (if (x4.length : Int) = 0 then (some (([] : List (List Int)), false)) else (if 0 < (x4.length : Int) then (if (Int.tmod x2 2) = 1 then (if 1 ≤ (x4.length : Int) then ((impl_nodeInput.f k (rd x4 0) x13).bind fun t173 => (if x12.length < 5864062014805 then ((some (x12 ++ [t173] : List (List Int))).bind fun y176 => (if 0 ≤ (wrap64 ((y176.length : Int) - 1)) then (if (wrap64 ((y176.length : Int) - 1)) < (y176.length : Int) then ((impl_Digest.f x0 (rd_L1 y176 (wrap64 ((y176.length : Int) - 1)))).bind fun t180 => (impl_climb.l0 k x0 x1 (wrap64 (Int.tdiv x2 2)) (x4.drop 1) y176 t180 (wrap64 (Int.tdiv (wrap64 (x14 + 1)) 2)))) else (none)) else (none))) else (none))) else (none)) else (if 1 ≤ (x4.length : Int) then ((impl_nodeInput.f k x13 (rd x4 0)).bind fun t186 => (if x12.length < 5864062014805 then ((some (x12 ++ [t186] : List (List Int))).bind fun y189 => (if 0 ≤ (wrap64 ((y189.length : Int) - 1)) then (if (wrap64 ((y189.length : Int) - 1)) < (y189.length : Int) then ((impl_Digest.f x0 (rd_L1 y189 (wrap64 ((y189.length : Int) - 1)))).bind fun t193 => (impl_climb.l0 k x0 x1 (wrap64 (Int.tdiv x2 2)) (x4.drop 1) y189 t193 (wrap64 (Int.tdiv (wrap64 (x14 + 1)) 2)))) else (none)) else (none))) else (none))) else (none))) else (none))) else (impl_climb.l0 k x0 x1 (wrap64 (Int.tdiv x2 2)) x4 x12 x13 (wrap64 (Int.tdiv (wrap64 (x14 + 1)) 2)))) else ((impl_topInput.f k x1 x13).bind fun t161 => (if x12.length < 5864062014805 then (some ((x12 ++ [t161]), ((x4.length : Int) == 0))) else (none)))
end
def impl_climb.f (k : Nat) (a0 : Int) (a1 : Int) (a2 : Int) (l3 : List Int) (l4 : List Int) : Option ((List (List Int)) × Bool) := (impl_in.f a1 1 16).bind fun t146 => (if t146 = true then ((impl_in.f a2 0 (wrap64 (a1 - 1))).bind fun t147 => (if t147 = true then ((impl_leavesOk.f a0 (([l3] : List (List Int)))).bind fun t151 => (if t151 = true then ((impl_digests.f a0 l4).bind fun t152 => (impl_climb.j0 k a0 a1 a2 l3 l4 (!t152))) else (impl_climb.j0 k a0 a1 a2 l3 l4 true))) else (impl_climb.j0 k a0 a1 a2 l3 l4 true))) else (impl_climb.j0 k a0 a1 a2 l3 l4 true))
set_option maxHeartbeats 8000000 in
set_option maxRecDepth 100000 in
theorem impl_climb.calls (k : Nat) (a0 : Int) (a1 : Int) (a2 : Int) (P3_ : Nat → Prop) (A3 : Option Addr) (c3 : Nat) (l3 : List Int) (P4_ : Nat → Prop) (A4 : Option Addr) (c4 : Nat) (l4 : List Int) (r1 : List (List Int)) (r2 : Bool) (w : World) (hs3 : Kd.V (Kd.int .u8) 5 w w.heap.size (fun k_ => P3_ k_) (.slice A3 l3.length c3) l3) (hs4 : Kd.V (Kd.int .i64) 3 w w.heap.size (fun k_ => P4_ k_) (.slice A4 l4.length c4) l4) (h : impl_climb.f k a0 a1 a2 l3 l4 = some (r1, r2)) :
  Calls Try.prog 67 #[.int .i64 a0, .int .i64 a1, .int .i64 a2, .slice A3 l3.length c3, .slice A4 l4.length c4] w fun e w' => ∃ v0_ : Value, e = .returned (.tuple #[v0_, .bool r2]) ∧ Kd.N (Kd.slice 5 (Kd.int .u8)) 22 w' w.heap.size (fun k_ => ((P3_ k_ ∨ P4_ k_) ∨ w.heap.size ≤ k_)) v0_ r1 ∧ Below w.heap.size w w' := by
 have HO3 := Aside0.mk (show Kd.V (Kd.int .u8) 5 w w.heap.size (fun k_ => ((P3_ k_ ∨ P4_ k_) ∨ w.heap.size ≤ k_)) (.slice A3 l3.length c3) l3 from Kd.V_mono hs3 (fun k_ hk => .inl (.inl hk)))
 have HO4 := Aside0.mk (show Kd.V (Kd.int .i64) 3 w w.heap.size (fun k_ => ((P3_ k_ ∨ P4_ k_) ∨ w.heap.size ≤ k_)) (.slice A4 l4.length c4) l4 from Kd.V_mono hs4 (fun k_ hk => .inl (.inr hk)))
 have HB := Aside0.mk (Below.refl w.heap.size w)
 have H : ((impl_in.f a1 1 16).bind fun t146 => (if t146 = true then ((impl_in.f a2 0 (wrap64 (a1 - 1))).bind fun t147 => (if t147 = true then ((impl_leavesOk.f a0 (([l3] : List (List Int)))).bind fun t151 => (if t151 = true then ((impl_digests.f a0 l4).bind fun t152 => (impl_climb.j0 k a0 a1 a2 l3 l4 (!t152))) else (impl_climb.j0 k a0 a1 a2 l3 l4 true))) else (impl_climb.j0 k a0 a1 a2 l3 l4 true))) else (impl_climb.j0 k a0 a1 a2 l3 l4 true))) = some (r1, r2) := h
 clear h
 have HC6 := Aside0.mk H
 clear H
 go_enter Try.func67, Try.ntmps67
 go_upto_region 1 with (fail)
 go_cut [39] (fun v39 wc => ∃ (kq : Nat) (x39_5 : Bool), v39 = .bool x39_5 ∧ Aside0 (impl_climb.j0 kq a0 a1 a2 l3 l4 x39_5 = some (r1, r2)) ∧ Aside0 (kq ≤ k) ∧ Aside0 (Kd.V (Kd.int .u8) 5 wc w.heap.size (fun k_ => ((P3_ k_ ∨ P4_ k_) ∨ w.heap.size ≤ k_)) (.slice A3 l3.length c3) l3) ∧ Aside0 (Kd.V (Kd.int .i64) 3 wc w.heap.size (fun k_ => ((P3_ k_ ∨ P4_ k_) ∨ w.heap.size ≤ k_)) (.slice A4 l4.length c4) l4) ∧ Aside0 (Below w.heap.size w wc))
 case first =>
  have H := HC6.out
  clear HC6
  replace H := Option.bind_eq_some_iff.mp H
  obtain ⟨t146, A70, H⟩ := H
  (try dsimp -simprocs only at H)
  have A7 := Aside0.mk A70
  clear A70
  by_cases c8 : t146 = true
  ·subst c8
   rw [if_pos rfl] at H
   replace H := Option.bind_eq_some_iff.mp H
   obtain ⟨t147, A90, H⟩ := H
   (try dsimp -simprocs only at H)
   have A9 := Aside0.mk A90
   clear A90
   by_cases c10 : t147 = true
   ·subst c10
    rw [if_pos rfl] at H
    obtain ⟨y148, hy148⟩ : ∃ y_ : List (List Int), y_ = (([l3] : List (List Int))) := ⟨_, rfl⟩
    replace H : ((impl_leavesOk.f a0 y148).bind fun t151 => (if t151 = true then ((impl_digests.f a0 l4).bind fun t152 => (impl_climb.j0 k a0 a1 a2 l3 l4 (!t152))) else (impl_climb.j0 k a0 a1 a2 l3 l4 true))) = some (r1, r2) := by first | (rw [hy148]; exact H) | exact H
    have Ny148 := Aside0.mk hy148
    clear hy148
    replace H := Option.bind_eq_some_iff.mp H
    obtain ⟨t151, A110, H⟩ := H
    (try dsimp -simprocs only at H)
    have A11 := Aside0.mk A110
    clear A110
    by_cases c12 : t151 = true
    ·subst c12
     rw [if_pos rfl] at H
     replace H := Option.bind_eq_some_iff.mp H
     obtain ⟨t152, A130, H⟩ := H
     (try dsimp -simprocs only at H)
     have A13 := Aside0.mk A130
     clear A130
     have H' := Aside0.mk H
     clear H
     go_wp2_with (first | (go_at_call 65; (with_reducible refine (impl_in.calls a1 1 16 true _ A7.out).mono ?_); rintro e w' ⟨rfl, ⟨nd, rfl⟩⟩; (try first | exact ⟨rfl, _, World.drewN_drewN _ _ _⟩ | exact ⟨rfl, _, Eq.trans (World.drewN_drewN _ _ _) (congrArg (World.drewN _) (Nat.add_assoc _ _ _))⟩)) | (go_at_call 65; (with_reducible refine (impl_in.calls a2 0 (wrap64 (a1 - 1)) true _ A9.out).mono ?_); rintro e w' ⟨rfl, ⟨nd, rfl⟩⟩; (try first | exact ⟨rfl, _, World.drewN_drewN _ _ _⟩ | exact ⟨rfl, _, Eq.trans (World.drewN_drewN _ _ _) (congrArg (World.drewN _) (Nat.add_assoc _ _ _))⟩)) | ((with_reducible refine gate_dst (N := 30) rfl ?_); (try (refine gate_guard (by rfl) ?_; dsimp only)); refine Kd.N_lit (Kd.slice 5 (Kd.int .u8)) _ 22 ?hg (N' := 30) ?hd (xs := ([l3] : List (List Int))) (inner := [.slice A3 l3.length c3]) (ok := (fun k_ => ((P3_ k_ ∨ P4_ k_) ∨ w.heap.size ≤ k_))) (okp := (fun k_ => ((P3_ k_ ∨ P4_ k_) ∨ w.heap.size ≤ k_))) ?hr ?hp (fun _ hk => hk) ((show ∀ k_, w.heap.size ≤ k_ → (fun k_ => ((P3_ k_ ∨ P4_ k_) ∨ w.heap.size ≤ k_)) k_ from fun k_ hk => (.inr (Nat.le_trans (below_size (bt)) hk))) _ (Nat.le_refl _)) (Below.refl _ _) (Nat.le_refl _) (by simp) ?_; (case hd => rfl); (case hg => rfl); (case hr => first | (go_simp; done) | (go_simp; rfl)); (case hp => exact (Reps.one (show Kd.FK (Kd.slice 5 (Kd.int .u8)) _ _ l3 [.slice A3 l3.length c3] from (Kd.FK_slice_mk (Kd.V_reads' (e := 0) (base := 0) (Kd.V_mono (e := 0) (base := 0) (ok' := (fun k_ => ((P3_ k_ ∨ P4_ k_) ∨ w.heap.size ≤ k_))) (HO3.out) (fun k_ hk => hk))).2.1 (Kd.V_F (e := 0) (base := 0) (Kd.V_mono (e := 0) (base := 0) (ok' := (fun k_ => ((P3_ k_ ∨ P4_ k_) ∨ w.heap.size ≤ k_))) (HO3.out) (fun k_ hk => hk))))) (Reps.none _ _))); intro v149 w14 ho15 hb hg_ hnew_; clear hg_ hnew_; (first | rw [← Ny148.out] at ho15 | (simp only [Int.reduceToNat] at ho15; rw [← Ny148.out] at ho15)); replace HO3 := Aside0.mk (Kd.V_elder' (mv HO3.out) (Kd.N_base ho15) hb); replace HO4 := Aside0.mk (Kd.V_elder' (mv HO4.out) (Kd.N_base ho15) hb); have HO150 := Aside0.mk (Kd.N_lower ho15 (below_size (bt))); replace HB := Aside0.mk (below_step (bt) hb); clear hb ho15; obtain ⟨Ao16, co16, eo16⟩ := Kd.N_slice HO150.out; subst eo16) | (go_at_call 63; (with_reducible refine (impl_leavesOk.calls a0 _ _ y148 true _ ?side1 ?side2 A11.out).mono ?_); (case side1 => exact cv ((Kd.N_reads' HO150.out).2.2)); (case side2 => exact (Kd.N_reads' HO150.out).2.1); rintro e w' ⟨rfl, ⟨nd, rfl⟩⟩; (try first | exact ⟨rfl, _, World.drewN_drewN _ _ _⟩ | exact ⟨rfl, _, Eq.trans (World.drewN_drewN _ _ _) (congrArg (World.drewN _) (Nat.add_assoc _ _ _))⟩)) | (go_at_call 105; (with_reducible refine (impl_digests.calls a0 _ _ l4 t152 _ ?side1 ?side2 A13.out).mono ?_); (case side1 => exact cv ((Kd.V_reads' HO4.out).2.2)); (case side2 => exact (Kd.V_reads' HO4.out).2.1); rintro e w17 ⟨rfl, hb⟩; replace HO3 := Aside0.mk (Kd.V_below (mv HO3.out) hb); replace HO4 := Aside0.mk (Kd.V_below (mv HO4.out) hb); replace HO150 := Aside0.mk (Kd.N_below (mv HO150.out) hb); replace HB := Aside0.mk (below_step (bt) hb); (try clear hb); (try clear hb2); (try clear hk); (try clear hi)))
     go_meet
     case rel => exact ⟨_, (!t152), (by first | rfl | (simp; done) | (simp [*]; done)), H', ⟨by first | omega | exact Nat.le_refl _⟩, ⟨by (with_reducible repeat (first | apply Kd.V_alloc | apply Kd.V_drewN | apply Kd.V_drew)); exact Kd.V_mono HO3.out (fun _ hk => hk.1)⟩, ⟨by (with_reducible repeat (first | apply Kd.V_alloc | apply Kd.V_drewN | apply Kd.V_drew)); exact Kd.V_mono HO4.out (fun _ hk => hk.1)⟩, ⟨bt⟩⟩
    ·replace c12 := Bool.eq_false_iff.mpr c12
     subst c12
     rw [if_neg (show ¬ (false = true) by decide)] at H
     have H' := Aside0.mk H
     clear H
     go_wp2_with (first | (go_at_call 65; (with_reducible refine (impl_in.calls a1 1 16 true _ A7.out).mono ?_); rintro e w' ⟨rfl, ⟨nd, rfl⟩⟩; (try first | exact ⟨rfl, _, World.drewN_drewN _ _ _⟩ | exact ⟨rfl, _, Eq.trans (World.drewN_drewN _ _ _) (congrArg (World.drewN _) (Nat.add_assoc _ _ _))⟩)) | (go_at_call 65; (with_reducible refine (impl_in.calls a2 0 (wrap64 (a1 - 1)) true _ A9.out).mono ?_); rintro e w' ⟨rfl, ⟨nd, rfl⟩⟩; (try first | exact ⟨rfl, _, World.drewN_drewN _ _ _⟩ | exact ⟨rfl, _, Eq.trans (World.drewN_drewN _ _ _) (congrArg (World.drewN _) (Nat.add_assoc _ _ _))⟩)) | ((with_reducible refine gate_dst (N := 30) rfl ?_); (try (refine gate_guard (by rfl) ?_; dsimp only)); refine Kd.N_lit (Kd.slice 5 (Kd.int .u8)) _ 22 ?hg (N' := 30) ?hd (xs := ([l3] : List (List Int))) (inner := [.slice A3 l3.length c3]) (ok := (fun k_ => ((P3_ k_ ∨ P4_ k_) ∨ w.heap.size ≤ k_))) (okp := (fun k_ => ((P3_ k_ ∨ P4_ k_) ∨ w.heap.size ≤ k_))) ?hr ?hp (fun _ hk => hk) ((show ∀ k_, w.heap.size ≤ k_ → (fun k_ => ((P3_ k_ ∨ P4_ k_) ∨ w.heap.size ≤ k_)) k_ from fun k_ hk => (.inr (Nat.le_trans (below_size (bt)) hk))) _ (Nat.le_refl _)) (Below.refl _ _) (Nat.le_refl _) (by simp) ?_; (case hd => rfl); (case hg => rfl); (case hr => first | (go_simp; done) | (go_simp; rfl)); (case hp => exact (Reps.one (show Kd.FK (Kd.slice 5 (Kd.int .u8)) _ _ l3 [.slice A3 l3.length c3] from (Kd.FK_slice_mk (Kd.V_reads' (e := 0) (base := 0) (Kd.V_mono (e := 0) (base := 0) (ok' := (fun k_ => ((P3_ k_ ∨ P4_ k_) ∨ w.heap.size ≤ k_))) (HO3.out) (fun k_ hk => hk))).2.1 (Kd.V_F (e := 0) (base := 0) (Kd.V_mono (e := 0) (base := 0) (ok' := (fun k_ => ((P3_ k_ ∨ P4_ k_) ∨ w.heap.size ≤ k_))) (HO3.out) (fun k_ hk => hk))))) (Reps.none _ _))); intro v149 w18 ho19 hb hg_ hnew_; clear hg_ hnew_; (first | rw [← Ny148.out] at ho19 | (simp only [Int.reduceToNat] at ho19; rw [← Ny148.out] at ho19)); replace HO3 := Aside0.mk (Kd.V_elder' (mv HO3.out) (Kd.N_base ho19) hb); replace HO4 := Aside0.mk (Kd.V_elder' (mv HO4.out) (Kd.N_base ho19) hb); have HO150 := Aside0.mk (Kd.N_lower ho19 (below_size (bt))); replace HB := Aside0.mk (below_step (bt) hb); clear hb ho19; obtain ⟨Ao20, co20, eo20⟩ := Kd.N_slice HO150.out; subst eo20) | (go_at_call 63; (with_reducible refine (impl_leavesOk.calls a0 _ _ y148 false _ ?side1 ?side2 A11.out).mono ?_); (case side1 => exact cv ((Kd.N_reads' HO150.out).2.2)); (case side2 => exact (Kd.N_reads' HO150.out).2.1); rintro e w' ⟨rfl, ⟨nd, rfl⟩⟩; (try first | exact ⟨rfl, _, World.drewN_drewN _ _ _⟩ | exact ⟨rfl, _, Eq.trans (World.drewN_drewN _ _ _) (congrArg (World.drewN _) (Nat.add_assoc _ _ _))⟩)))
     go_meet
     case rel => exact ⟨_, (true), (by first | rfl | (simp; done) | (simp [*]; done)), H', ⟨by first | omega | exact Nat.le_refl _⟩, ⟨by (with_reducible repeat (first | apply Kd.V_alloc | apply Kd.V_drewN | apply Kd.V_drew)); exact Kd.V_mono HO3.out (fun _ hk => hk.1)⟩, ⟨by (with_reducible repeat (first | apply Kd.V_alloc | apply Kd.V_drewN | apply Kd.V_drew)); exact Kd.V_mono HO4.out (fun _ hk => hk.1)⟩, ⟨bt⟩⟩
   ·replace c10 := Bool.eq_false_iff.mpr c10
    subst c10
    rw [if_neg (show ¬ (false = true) by decide)] at H
    have H' := Aside0.mk H
    clear H
    go_wp2_with (first | (go_at_call 65; (with_reducible refine (impl_in.calls a1 1 16 true _ A7.out).mono ?_); rintro e w' ⟨rfl, ⟨nd, rfl⟩⟩; (try first | exact ⟨rfl, _, World.drewN_drewN _ _ _⟩ | exact ⟨rfl, _, Eq.trans (World.drewN_drewN _ _ _) (congrArg (World.drewN _) (Nat.add_assoc _ _ _))⟩)) | (go_at_call 65; (with_reducible refine (impl_in.calls a2 0 (wrap64 (a1 - 1)) false _ A9.out).mono ?_); rintro e w' ⟨rfl, ⟨nd, rfl⟩⟩; (try first | exact ⟨rfl, _, World.drewN_drewN _ _ _⟩ | exact ⟨rfl, _, Eq.trans (World.drewN_drewN _ _ _) (congrArg (World.drewN _) (Nat.add_assoc _ _ _))⟩)))
    go_meet
    case rel => exact ⟨_, (true), (by first | rfl | (simp; done) | (simp [*]; done)), H', ⟨by first | omega | exact Nat.le_refl _⟩, ⟨mv HO3.out⟩, ⟨mv HO4.out⟩, ⟨bt⟩⟩
  ·replace c8 := Bool.eq_false_iff.mpr c8
   subst c8
   rw [if_neg (show ¬ (false = true) by decide)] at H
   have H' := Aside0.mk H
   clear H
   go_wp2_with (first | (go_at_call 65; (with_reducible refine (impl_in.calls a1 1 16 false _ A7.out).mono ?_); rintro e w' ⟨rfl, ⟨nd, rfl⟩⟩; (try first | exact ⟨rfl, _, World.drewN_drewN _ _ _⟩ | exact ⟨rfl, _, Eq.trans (World.drewN_drewN _ _ _) (congrArg (World.drewN _) (Nat.add_assoc _ _ _))⟩)))
   go_meet
   case rel => exact ⟨_, (true), (by first | rfl | (simp; done) | (simp [*]; done)), H', ⟨by first | omega | exact Nat.le_refl _⟩, ⟨mv HO3.out⟩, ⟨mv HO4.out⟩, ⟨bt⟩⟩
 case rest =>
  clear HC6
  try clear c1
  try clear p2
  try clear c3
  try clear c4
  try clear c6
  try clear p6
  try clear c8
  try clear c10
  try clear c12
  obtain ⟨kq, x39_5, rfl, HA, HJ5, HO_3, HO_4, HB⟩ := hcut
  cases kq with
  | zero => exact absurd HA.out (by simp [impl_climb.j0])
  | succ kj5 =>
   have H := HA.out
   clear HA
   simp only [impl_climb.j0] at H
   by_cases c21 : x39_5 = true
   ·subst c21
    rw [if_pos rfl] at H
    simp only [Option.some.injEq, Prod.mk.injEq] at H
    obtain ⟨rfl, rfl⟩ := H
    go_wp2
    go_ret2
    exact ⟨_, by first | rfl | (simp [errW_none, errW_some] <;> rfl) | (simp [*, errW_none, errW_some] <;> rfl), by first | exact Kd.S_nil _ _ _ _ _ | exact Kd.N_nil _ _ _ _ _ | exact Kd.V_nil _ _ _ _ _ | exact Kd.Q_nil _ _ _ _ _ | exact Kd.R_nil _ _ _ _ _, bt⟩
   ·replace c21 := Bool.eq_false_iff.mpr c21
    subst c21
    rw [if_neg (show ¬ (false = true) by decide)] at H
    replace H := Option.bind_eq_some_iff.mp H
    obtain ⟨t153, A220, H⟩ := H
    (try dsimp -simprocs only at H)
    have A22 := Aside0.mk A220
    clear A220
    obtain ⟨y156, hy156⟩ : ∃ y_ : List (List Int), y_ = (([t153] : List (List Int))) := ⟨_, rfl⟩
    replace H : (if 0 < (y156.length : Int) then ((impl_Digest.f a0 (rd_L1 y156 0)).bind fun t160 => (impl_climb.l0 kj5 a0 a1 a2 l4 y156 t160 a1)) else (none)) = some (r1, r2) := by first | (rw [hy156]; exact H) | exact H
    have Ny156 := Aside0.mk hy156
    clear hy156
    by_cases c23 : 0 < (y156.length : Int)
    ·rw [if_pos c23] at H
     have c23b0 : decide (0 < (y156.length : Int)) = true := decide_eq_true c23
     have c23b1 : decide (0 < y156.length) = true := decide_eq_true (by omega)
     clear c23
     replace H := Option.bind_eq_some_iff.mp H
     obtain ⟨t160, A240, H⟩ := H
     (try dsimp -simprocs only at H)
     have A24 := Aside0.mk A240
     clear A240
     have H' := Aside0.mk H
     clear H
     go_wp2_with (first | (go_at_call 70; (with_reducible refine (impl_leafInput.calls _ _ l3 t153 _ ?side1 ?side2 A22.out).mono ?_); (case side1 => exact cv ((Kd.V_reads' HO_3.out).2.2)); (case side2 => exact (Kd.V_reads' HO_3.out).2.1); rintro e w25 ⟨v154, rfl, ho0, hb⟩; replace HO_3 := Aside0.mk (Kd.V_elder' (mv HO_3.out) (Kd.R_base ho0) hb); replace HO_4 := Aside0.mk (Kd.V_elder' (mv HO_4.out) (Kd.R_base ho0) hb); have HO155 := Aside0.mk (Kd.R_lower (Kd.R_newM (M := fun k_ => (w.heap.size ≤ k_)) ho0 (below_size (bt)) (fun k_ h_ => h_)) (below_size (bt))); replace HB := Aside0.mk (below_step (bt) hb); (try clear hb); (try clear hb2); (try clear hk); (try clear hi); (try clear ho0); obtain ⟨Ao26, co26, eo26⟩ := Kd.R_slice HO155.out; subst eo26) | ((with_reducible refine gate_dst (N := 42) rfl ?_); (try (refine gate_guard (by rfl) ?_; dsimp only)); refine Kd.N_lit (Kd.slice 5 (Kd.int .u8)) _ 22 ?hg (N' := 42) ?hd (xs := ([t153] : List (List Int))) (inner := [.slice Ao26 t153.length co26]) (ok := (fun k_ => ((P3_ k_ ∨ P4_ k_) ∨ w.heap.size ≤ k_))) (okp := (fun k_ => ((P3_ k_ ∨ P4_ k_) ∨ w.heap.size ≤ k_))) ?hr ?hp (fun _ hk => hk) ((show ∀ k_, w25.heap.size ≤ k_ → (fun k_ => ((P3_ k_ ∨ P4_ k_) ∨ w.heap.size ≤ k_)) k_ from fun k_ hk => (.inr (Nat.le_trans (below_size (bt)) hk))) _ (Nat.le_refl _)) (Below.refl _ _) (Nat.le_refl _) (by simp) ?_; (case hd => rfl); (case hg => rfl); (case hr => first | (go_simp; done) | (go_simp; rfl)); (case hp => exact (Reps.one (show Kd.FK (Kd.slice 5 (Kd.int .u8)) _ _ t153 [.slice Ao26 t153.length co26] from (Kd.FK_slice_mk (Kd.R_reads' (Kd.R_mono (ok' := (fun k_ => ((P3_ k_ ∨ P4_ k_) ∨ w.heap.size ≤ k_))) (HO155.out) (fun k_ hk => (.inr (hk.1))))).2.1 (Kd.R_F (Kd.R_mono (ok' := (fun k_ => ((P3_ k_ ∨ P4_ k_) ∨ w.heap.size ≤ k_))) (HO155.out) (fun k_ hk => (.inr (hk.1))))))) (Reps.none _ _))); intro v157 w27 ho28 hb hg_ hnew_; clear hg_ hnew_; (first | rw [← Ny156.out] at ho28 | (simp only [Int.reduceToNat] at ho28; rw [← Ny156.out] at ho28)); replace HO_3 := Aside0.mk (Kd.V_elder' (mv HO_3.out) (Kd.N_base ho28) hb); replace HO_4 := Aside0.mk (Kd.V_elder' (mv HO_4.out) (Kd.N_base ho28) hb); have HO158 := Aside0.mk (Kd.N_lower ho28 (below_size (bt))); replace HB := Aside0.mk (below_step (bt) hb); clear HO155; clear hb ho28; obtain ⟨Ao29, co29, eo29⟩ := Kd.N_slice HO158.out; subst eo29; have p159 : 0 ≤ (0 : Int) := (by omega); have q159 : 0 < (y156.length : Int) := of_decide_eq_true asm; obtain ⟨ad159, A159_0, c159_0, e159, hx159_0, hl159_0, hi159_0⟩ := at_L1 (Kd.N_reads' HO158.out).2.2 0 p159 q159; cases e159; obtain ⟨ce159, hce159, hMe159, hcc159⟩ := Kd.N_get HO158.out [] 0 p159 (by first | exact q159 | exact of_decide_eq_true asm | (have e_ := (Kd.N_reads' HO158.out).1; omega)); obtain ⟨ua159_0, uc159_0, rfl, ul159_0, ge159_0⟩ := Kd.FK_slice_open hMe159; have hv159_0 := hcc159 0 _ rfl; rw [Nat.add_zero, show ((Kd.slice 5 (Kd.int .u8))).sz = 1 from rfl, Nat.mul_one] at hv159_0; replace hv159_0 := Option.some.inj (hv159_0.symm.trans hx159_0); injection hv159_0 with hva_ hvn_ hvc_; rw [hva_] at ge159_0; rw [hvc_] at ul159_0; have HL159_0 := Aside0.mk (show Kd.V (Kd.int .u8) 5 _ w.heap.size _ _ (rd_L1 y156 0) from Kd.V_mk ul159_0 ge159_0); clear hva_ hvn_ hvc_ ge159_0 ul159_0; clear hcc159 hce159; have qi159 : (0 < y156.length) = True := eq_true (by omega); (try rw [show ((0 : Int)).toNat = 0 from rfl] at hx159_0); (try rw [Addr.add_zero'] at hx159_0); have HR159_0 := Aside0.mk hi159_0; have HC159_0 := Aside0.mk hl159_0; clear hi159_0 hl159_0; replace p159 := eq_true p159; replace q159 := eq_true q159) | (go_at_call 29; (with_reducible refine (impl_Digest.calls a0 _ _ (rd_L1 y156 0) t160 _ ?side1 ?side2 A24.out).mono ?_); (case side1 => repeat (first | exact (by repeat (first | (with_reducible exact HR159_0.out) | (with_reducible refine Kd.C_alloc ?_ _) | (with_reducible refine Kd.C_drewN ?_ _) | (with_reducible refine Kd.C_drew ?_) | exact HR159_0.out)) | (with_reducible refine Kd.C_alloc ?_ _) | (with_reducible refine Kd.C_drewN ?_ _) | (with_reducible refine Kd.C_drew ?_))); (case side2 => exact HC159_0.out); rintro e w30 ⟨rfl, hb⟩; replace HO_3 := Aside0.mk (Kd.V_below (mv HO_3.out) hb); replace HO_4 := Aside0.mk (Kd.V_below (mv HO_4.out) hb); replace HO158 := Aside0.mk (Kd.N_below (mv HO158.out) hb); replace HL159_0 := Aside0.mk (Kd.V_below (mv HL159_0.out) hb); replace HR159_0 := Aside0.mk (Kd.C_below (by repeat (first | (with_reducible exact HR159_0.out) | (with_reducible refine Kd.C_alloc ?_ _) | (with_reducible refine Kd.C_drewN ?_ _) | (with_reducible refine Kd.C_drew ?_) | exact HR159_0.out)) hb); replace HB := Aside0.mk (below_step (bt) hb); (try clear hb); (try clear hb2); (try clear hk); (try clear hi)))
     go_loopg [2, 4, 12, 13, 14] kj5 (fun kq v2 v4 v12 v13 v14 w' => ∃ (x2_2 : Int) (x4_2 : List Int) (x12_2 : List (List Int)) (x13_2 : Int) (x14_2 : Int), v2 = .int .i64 x2_2 ∧ v13 = .int .i64 x13_2 ∧ v14 = .int .i64 x14_2 ∧ Aside0 (impl_climb.l0 kq a0 a1 x2_2 x4_2 x12_2 x13_2 x14_2 = some (r1, r2)) ∧ Aside0 (kq ≤ kj5) ∧ Aside0 (Kd.V (Kd.int .i64) 3 w' w.heap.size (fun k_ => ((P3_ k_ ∨ P4_ k_) ∨ w.heap.size ≤ k_) ∧ some k_ ≠ (v12 : Value).ownBlock) v4 x4_2) ∧ Aside0 (Kd.N (Kd.slice 5 (Kd.int .u8)) 22 w' w.heap.size (fun k_ => ((P3_ k_ ∨ P4_ k_) ∨ w.heap.size ≤ k_)) v12 x12_2) ∧ Aside0 (Below w.heap.size w w'))
     case atStart => exact ⟨(a2), (l4), (y156), (t160), (a1), (by first | rfl | (simp; done) | (simp [*]; done)), (by first | rfl | (simp; done) | (simp [*]; done)), (by first | rfl | (simp; done) | (simp [*]; done)), H', ⟨Nat.le_refl _⟩, ⟨by (with_reducible repeat (first | apply Kd.V_alloc | apply Kd.V_drewN | apply Kd.V_drew)); exact Kd.V_mono HO_4.out (fun _ hk => ⟨hk.1.1, hk.2⟩)⟩, ⟨mv HO158.out⟩, ⟨bt⟩⟩
     case round =>
      clear H'
      try clear c1
      try clear p1
      try clear q1
      try clear hx1
      try clear qi1
      try clear c2
      try clear p2
      try clear c3
      try clear c4
      try clear c6
      try clear p6
      try clear c8
      try clear c10
      try clear c12
      try clear c15
      try clear p15
      try clear q15
      try clear hx15
      try clear qi15
      try clear c21
      try clear c23
      try clear c23b0
      try clear c23b1
      try clear hx159_0
      try clear p159
      try clear p2
      try clear p6
      try clear q159
      obtain ⟨x2_2, x4_2, x12_2, x13_2, x14_2, rfl, rfl, rfl, HA, HK2, HO_4, HO_12, HB⟩ := hrel
      cases gk with
      | zero => exact absurd HA.out (by simp [impl_climb.l0])
      | succ k2 =>
       have H := HA.out
       clear HA
       simp only [impl_climb.l0] at H
       by_cases c31 : x14_2 > 1
       ·rw [if_pos c31] at H
        have c31b0 : decide (1 < x14_2) = true := decide_eq_true c31
        clear c31
        by_cases c32 : (Go.bits .xor .i64 x2_2 1) < x14_2
        ·rw [if_pos c32] at H
         have c32b0 : decide ((Go.bits .xor .i64 x2_2 1) < x14_2) = true := decide_eq_true c32
         clear c32
         by_cases c33 : (x4_2.length : Int) = 0
         ·rw [if_pos c33] at H
          have c33b0 : ((x4_2.length : Int) == 0) = true := beq_iff_eq.mpr c33
          have c33b1 : ((x4_2.length : Int) != 0) = false := bne_eq_false_iff_eq.mpr c33
          clear c33
          simp only [Option.some.injEq, Prod.mk.injEq] at H
          obtain ⟨rfl, rfl⟩ := H
          obtain ⟨Ao34, co34, eo34⟩ := Kd.V_slice HO_4.out
          subst eo34
          go_wp2
          go_ret2
          exact ⟨_, by first | rfl | (simp [errW_none, errW_some] <;> rfl) | (simp [*, errW_none, errW_some] <;> rfl), by first | exact Kd.S_nil _ _ _ _ _ | exact Kd.N_nil _ _ _ _ _ | exact Kd.V_nil _ _ _ _ _ | exact Kd.Q_nil _ _ _ _ _ | exact Kd.R_nil _ _ _ _ _, bt⟩
         ·rw [if_neg c33] at H
          have c33b0 : ((x4_2.length : Int) == 0) = false := beq_eq_false_iff_ne.mpr c33
          have c33b1 : ((x4_2.length : Int) != 0) = true := bne_iff_ne.mpr c33
          have c33b2 : ¬ (x4_2 = []) := fun h_ => c33 (by rw [h_]; rfl)
          by_cases c35 : 0 < (x4_2.length : Int)
          ·rw [if_pos c35] at H
           have c35b0 : decide (0 < (x4_2.length : Int)) = true := decide_eq_true c35
           have c35b1 : decide (0 < x4_2.length) = true := decide_eq_true (by omega)
           clear c35
           by_cases c36 : (Int.tmod x2_2 2) = 1
           ·rw [if_pos c36] at H
            have c36b0 : ((Int.tmod x2_2 2) == 1) = true := beq_iff_eq.mpr c36
            have c36b1 : ((Int.tmod x2_2 2) != 1) = false := bne_eq_false_iff_eq.mpr c36
            clear c36
            by_cases c37 : 1 ≤ (x4_2.length : Int)
            ·rw [if_pos c37] at H
             have c37b0 := eq_true c37
             have c37b1 : decide (1 ≤ (x4_2.length : Int)) = true := decide_eq_true c37
             clear c37
             obtain ⟨y168, hy168⟩ : ∃ y_ : List Int, y_ = (x4_2.drop 1) := ⟨_, rfl⟩
             replace H : ((impl_nodeInput.f k2 (rd x4_2 0) x13_2).bind fun t173 => (if x12_2.length < 5864062014805 then ((some (x12_2 ++ [t173] : List (List Int))).bind fun y176 => (if 0 ≤ (wrap64 ((y176.length : Int) - 1)) then (if (wrap64 ((y176.length : Int) - 1)) < (y176.length : Int) then ((impl_Digest.f a0 (rd_L1 y176 (wrap64 ((y176.length : Int) - 1)))).bind fun t180 => (impl_climb.l0 k2 a0 a1 (wrap64 (Int.tdiv x2_2 2)) y168 y176 t180 (wrap64 (Int.tdiv (wrap64 (x14_2 + 1)) 2)))) else (none)) else (none))) else (none))) = some (r1, r2) := by first | (rw [hy168]; exact H) | exact H
             have Ny168 := Aside0.mk hy168
             clear hy168
             replace H := Option.bind_eq_some_iff.mp H
             obtain ⟨t173, A380, H⟩ := H
             (try dsimp -simprocs only at H)
             have A38 := Aside0.mk A380
             clear A380
             by_cases c39 : x12_2.length < 5864062014805
             ·rw [if_pos c39] at H
              have LMc39 := Aside0.mk c39
              clear c39
              obtain ⟨y176, hy176⟩ : ∃ y_ : List (List Int), y_ = (x12_2 ++ [t173]) := ⟨_, rfl⟩
              replace H : (if 0 ≤ (wrap64 ((y176.length : Int) - 1)) then (if (wrap64 ((y176.length : Int) - 1)) < (y176.length : Int) then ((impl_Digest.f a0 (rd_L1 y176 (wrap64 ((y176.length : Int) - 1)))).bind fun t180 => (impl_climb.l0 k2 a0 a1 (wrap64 (Int.tdiv x2_2 2)) y168 y176 t180 (wrap64 (Int.tdiv (wrap64 (x14_2 + 1)) 2)))) else (none)) else (none)) = some (r1, r2) := by first | (rw [hy176]; exact H) | exact H
              have Ny176 := Aside0.mk hy176
              clear hy176
              obtain ⟨ji40, hji40⟩ : ∃ j_ : Int, (wrap64 ((y176.length : Int) - 1)) = j_ := ⟨_, rfl⟩
              replace H : (if 0 ≤ (ji40) then (if (ji40) < (y176.length : Int) then ((impl_Digest.f a0 (rd_L1 y176 (ji40))).bind fun t180 => (impl_climb.l0 k2 a0 a1 (wrap64 (Int.tdiv x2_2 2)) y168 y176 t180 (wrap64 (Int.tdiv (wrap64 (x14_2 + 1)) 2)))) else (none)) else (none)) = some (r1, r2) := by first | (rw [hji40] at H; exact H) | (simp only [hji40] at H ⊢; exact H)
              (try rw [hji40] at A38)
              have hji40w : (IntKind.i64.wrap ((y176.length : Int) - 1)) = ji40 := (i64_w _).trans hji40
              by_cases c41 : 0 ≤ (ji40)
              ·rw [if_pos c41] at H
               have c41b0 : decide (0 ≤ (ji40)) = true := decide_eq_true c41
               clear c41
               by_cases c42 : (ji40) < (y176.length : Int)
               ·rw [if_pos c42] at H
                have c42b0 : decide ((ji40) < (y176.length : Int)) = true := decide_eq_true c42
                clear c42
                replace H := Option.bind_eq_some_iff.mp H
                obtain ⟨t180, A430, H⟩ := H
                (try dsimp -simprocs only at H)
                have A43 := Aside0.mk A430
                clear A430
                have H' := Aside0.mk H
                clear H
                obtain ⟨Ao44, co44, eo44⟩ := Kd.V_slice HO_4.out
                subst eo44
                have p167 : 0 ≤ (0 : Int) := (by omega)
                have q167 : 0 < (x4_2.length : Int) := of_decide_eq_true asm
                obtain ⟨ad167, e167, hx167_0⟩ := Kd.at_int (Kd.V_reads' HO_4.out).2.2 0 p167 q167
                cases e167
                have qi167 : (0 < x4_2.length) = True := eq_true (by omega)
                (try rw [show ((0 : Int)).toNat = 0 from rfl] at hx167_0)
                (try rw [Addr.add_zero'] at hx167_0)
                replace p167 := eq_true p167
                replace q167 := eq_true q167
                have q45 : (1 : Int) ≤ ((x4_2.length : Int) : Int) := of_decide_eq_true asm
                obtain ⟨i045, hi045, _, hsz45, _⟩ := info_parts info3
                have hroom45 : x4_2.length ≤ co44 := (Kd.V_reads' HO_4.out).2.1
                have hC45 : Kd.F (Kd.int .i64) _ _ (some ad167) x4_2.length x4_2 := (Kd.V_at (base := w.heap.size) HO_4.out).2.2
                have hcut45 := cut_from (P := Try.prog) 23 3 .i64 Try.underlying23 hi045 1 hsz45 (some ad167) x4_2.length co44 1 (by omega) q45
                have hr45 := Kd.F_cut (m := (1 : Int).toNat) (c := co44) hC45 (by omega) hroom45
                obtain ⟨A45, hA45⟩ : ∃ A1, A1 = (if co44 = (1 : Int).toNat then (some ad167) else ((some ad167) : Option Addr).map (·.add ((1 : Int).toNat * 1))) := ⟨_, rfl⟩
                obtain ⟨c45, hc45⟩ : ∃ c1, c1 = co44 - (1 : Int).toNat := ⟨_, rfl⟩
                have hy45 : y168.length = x4_2.length - (1 : Int).toNat := (by rw [Ny168.out, List.length_drop] <;> omega)
                rw [show (x4_2).drop (1 : Int).toNat = y168 from Ny168.out.symm] at hr45
                replace hr45 : Kd.F (Kd.int .i64) _ _ A45 y168.length y168 := (by rw [hA45]; exact hr45)
                rw [← hy45, ← hA45, ← hc45] at hcut45
                have HO172 := Aside0.mk (show Kd.V (Kd.int .i64) 3 _ w.heap.size _ (.slice A45 y168.length c45) y168 from Kd.V_mk (by rw [hy45, hc45]; exact Nat.sub_le_sub_right hroom45 _) hr45)
                have HC172 := Aside0.mk (show y168.length ≤ c45 from by rw [hy45, hc45]; exact Nat.sub_le_sub_right hroom45 _)
                clear hr45 hC45 hroom45 hi045 hsz45 hc45
                have KY45 := Aside0.mk hy45
                have KA45 := Aside0.mk hA45
                clear hy45 hA45
                replace q45 := eq_true q45
                go_wp2_with (first | (go_at_call 72; (with_reducible refine (impl_nodeInput.calls k2 (rd x4_2 0) x13_2 t173 _ A38.out).mono ?_); rintro e w46 ⟨v174, rfl, ho0, hb⟩; replace HO_4 := Aside0.mk (Kd.V_elder' (mv HO_4.out) (Kd.R_base ho0) hb); replace HO_12 := Aside0.mk (Kd.N_elder' (mv HO_12.out) (Kd.R_base ho0) hb); replace HO172 := Aside0.mk (Kd.V_elder' (mv HO172.out) (Kd.R_base ho0) hb); have HO175 := Aside0.mk (Kd.R_lower (Kd.R_newM (M := fun k_ => (w.heap.size ≤ k_)) ho0 (below_size (bt)) (fun k_ h_ => h_)) (below_size (bt))); replace HB := Aside0.mk (below_step (bt) hb); (try clear hb); (try clear hb2); (try clear hk); (try clear hi); (try clear ho0); obtain ⟨Ao48, co48, eo48⟩ := Kd.R_slice HO175.out; subst eo48) | ((with_reducible refine gate_builtin (b := .append) (xs := #[.tmp 72, .tmp 76]) rfl ?_); (try (refine gate_guard (by rfl) ?_; dsimp only)); at_builtin; refine Kd.N_append (Kd.slice 5 (Kd.int .u8)) (w0 := w) w.heap.size rfl (.tmp 72) (.tmp 76) 30 22 (.slice none 0 0) 24 rfl Try.underlying30 info22 rfl (by decide) (by omega) u12 x12_2 t173 [.slice Ao48 t173.length co48] (fun k_ => ((P3_ k_ ∨ P4_ k_) ∨ w.heap.size ≤ k_)) (fun k_ => ((fun k_ => ((P3_ k_ ∨ P4_ k_) ∨ w.heap.size ≤ k_))) k_ ∧ some k_ ≠ (u12 : Value).ownBlock) rfl rfl ?aP (fun _ hk => hk) ?aF ?aO ?aB ?aS ?aL ?_; (case aP => exact (Kd.FK_slice_mk (Kd.R_reads' (Kd.R_mono (ok' := (fun k_ => ((fun k_ => ((P3_ k_ ∨ P4_ k_) ∨ w.heap.size ≤ k_))) k_ ∧ some k_ ≠ (u12 : Value).ownBlock)) (Kd.R_apart' (HO175.out) (Kd.N_typed HO_12.out) (by decide)) (fun k_ hk => ⟨(.inr (hk.1.1)), hk.2⟩))).2.1 (Kd.R_F (Kd.R_mono (ok' := (fun k_ => ((fun k_ => ((P3_ k_ ∨ P4_ k_) ∨ w.heap.size ≤ k_))) k_ ∧ some k_ ≠ (u12 : Value).ownBlock)) (Kd.R_apart' (HO175.out) (Kd.N_typed HO_12.out) (by decide)) (fun k_ hk => ⟨(.inr (hk.1.1)), hk.2⟩))))); (case aB => exact (bt)); (case aF => exact (fun k_ hk => (.inr (Nat.le_trans (below_size (bt)) hk)))); (case aO => exact (by (with_reducible repeat (first | apply Kd.N_alloc | apply Kd.N_drewN | apply Kd.N_drew)); exact Kd.N_mono HO_12.out (fun _ hk => hk.1))); (case aS => exact (below_size (bt))); (case aL => have := LMc39.out; omega); intro v177 w47 ho hb hg hat; rw [← Ny176.out] at ho; replace HO_4 := Aside0.mk (Kd.V_afterv (ok := (fun k_ => ((P3_ k_ ∨ P4_ k_) ∨ w.heap.size ≤ k_) ∧ some k_ ≠ (.slice Ao48 t173.length co48 : Value).ownBlock)) (by (with_reducible repeat (first | apply Kd.V_alloc | apply Kd.V_drewN | apply Kd.V_drew)); exact Kd.V_mono HO_4.out (fun _ hk => ⟨⟨hk.1.1, hk.2⟩, hk.1.2⟩)) hg hat); replace HO172 := Aside0.mk (Kd.V_afterv (ok := (fun k_ => ((P3_ k_ ∨ P4_ k_) ∨ w.heap.size ≤ k_) ∧ some k_ ≠ (.slice Ao48 t173.length co48 : Value).ownBlock)) (by (with_reducible repeat (first | apply Kd.V_alloc | apply Kd.V_drewN | apply Kd.V_drew)); exact Kd.V_mono HO172.out (fun _ hk => ⟨⟨hk.1.1, hk.2⟩, hk.1.2⟩)) hg hat); replace HB := Aside0.mk (hb); have HO178 := Aside0.mk (ho); clear HO_12 HO175; clear ho hb hg hat; obtain ⟨Ao49, co49, eo49⟩ := Kd.N_slice HO178.out; subst eo49; have p179 : 0 ≤ ((ji40) : Int) := of_decide_eq_true asm; have q179 : (ji40) < (y176.length : Int) := of_decide_eq_true asm; obtain ⟨ad179, A179_0, c179_0, e179, hx179_0, hl179_0, hi179_0⟩ := at_L1 (Kd.N_reads' HO178.out).2.2 (ji40) p179 q179; cases e179; obtain ⟨ce179, hce179, hMe179, hcc179⟩ := Kd.N_get HO178.out [] (ji40) p179 (by first | exact q179 | exact of_decide_eq_true asm | (have e_ := (Kd.N_reads' HO178.out).1; omega)); obtain ⟨ua179_0, uc179_0, rfl, ul179_0, ge179_0⟩ := Kd.FK_slice_open hMe179; have hv179_0 := hcc179 0 _ rfl; rw [Nat.add_zero, show ((Kd.slice 5 (Kd.int .u8))).sz = 1 from rfl, Nat.mul_one] at hv179_0; replace hv179_0 := Option.some.inj (hv179_0.symm.trans hx179_0); injection hv179_0 with hva_ hvn_ hvc_; rw [hva_] at ge179_0; rw [hvc_] at ul179_0; have HL179_0 := Aside0.mk (show Kd.V (Kd.int .u8) 5 _ w.heap.size _ _ (rd_L1 y176 (ji40)) from Kd.V_mk ul179_0 ge179_0); clear hva_ hvn_ hvc_ ge179_0 ul179_0; clear hcc179 hce179; have HR179_0 := Aside0.mk hi179_0; have HC179_0 := Aside0.mk hl179_0; clear hi179_0 hl179_0; replace p179 := eq_true p179; replace q179 := eq_true q179) | (go_at_call 29; (with_reducible refine (impl_Digest.calls a0 _ _ (rd_L1 y176 (ji40)) t180 _ ?side1 ?side2 A43.out).mono ?_); (case side1 => repeat (first | exact (by repeat (first | (with_reducible exact HR179_0.out) | (with_reducible refine Kd.C_alloc ?_ _) | (with_reducible refine Kd.C_drewN ?_ _) | (with_reducible refine Kd.C_drew ?_) | exact HR179_0.out)) | (with_reducible refine Kd.C_alloc ?_ _) | (with_reducible refine Kd.C_drewN ?_ _) | (with_reducible refine Kd.C_drew ?_))); (case side2 => exact HC179_0.out); rintro e w50 ⟨rfl, hb⟩; replace HO_4 := Aside0.mk (Kd.V_below (mv HO_4.out) hb); replace HO172 := Aside0.mk (Kd.V_below (mv HO172.out) hb); replace HO178 := Aside0.mk (Kd.N_below (mv HO178.out) hb); replace HL179_0 := Aside0.mk (Kd.V_below (mv HL179_0.out) hb); replace HR179_0 := Aside0.mk (Kd.C_below (by repeat (first | (with_reducible exact HR179_0.out) | (with_reducible refine Kd.C_alloc ?_ _) | (with_reducible refine Kd.C_drewN ?_ _) | (with_reducible refine Kd.C_drew ?_) | exact HR179_0.out)) hb); replace HB := Aside0.mk (below_step (bt) hb); (try clear hb); (try clear hb2); (try clear hk); (try clear hi)))
                repeat (go_quiet (first | (go_at_call 72; (with_reducible refine (impl_nodeInput.calls k2 (rd x4_2 0) x13_2 t173 _ A38.out).mono ?_); rintro e w46 ⟨v174, rfl, ho0, hb⟩; replace HO_4 := Aside0.mk (Kd.V_elder' (mv HO_4.out) (Kd.R_base ho0) hb); replace HO_12 := Aside0.mk (Kd.N_elder' (mv HO_12.out) (Kd.R_base ho0) hb); replace HO172 := Aside0.mk (Kd.V_elder' (mv HO172.out) (Kd.R_base ho0) hb); have HO175 := Aside0.mk (Kd.R_lower (Kd.R_newM (M := fun k_ => (w.heap.size ≤ k_)) ho0 (below_size (bt)) (fun k_ h_ => h_)) (below_size (bt))); replace HB := Aside0.mk (below_step (bt) hb); (try clear hb); (try clear hb2); (try clear hk); (try clear hi); (try clear ho0); obtain ⟨Ao48, co48, eo48⟩ := Kd.R_slice HO175.out; subst eo48) | ((with_reducible refine gate_builtin (b := .append) (xs := #[.tmp 72, .tmp 76]) rfl ?_); (try (refine gate_guard (by rfl) ?_; dsimp only)); at_builtin; refine Kd.N_append (Kd.slice 5 (Kd.int .u8)) (w0 := w) w.heap.size rfl (.tmp 72) (.tmp 76) 30 22 (.slice none 0 0) 24 rfl Try.underlying30 info22 rfl (by decide) (by omega) u12 x12_2 t173 [.slice Ao48 t173.length co48] (fun k_ => ((P3_ k_ ∨ P4_ k_) ∨ w.heap.size ≤ k_)) (fun k_ => ((fun k_ => ((P3_ k_ ∨ P4_ k_) ∨ w.heap.size ≤ k_))) k_ ∧ some k_ ≠ (u12 : Value).ownBlock) rfl rfl ?aP (fun _ hk => hk) ?aF ?aO ?aB ?aS ?aL ?_; (case aP => exact (Kd.FK_slice_mk (Kd.R_reads' (Kd.R_mono (ok' := (fun k_ => ((fun k_ => ((P3_ k_ ∨ P4_ k_) ∨ w.heap.size ≤ k_))) k_ ∧ some k_ ≠ (u12 : Value).ownBlock)) (Kd.R_apart' (HO175.out) (Kd.N_typed HO_12.out) (by decide)) (fun k_ hk => ⟨(.inr (hk.1.1)), hk.2⟩))).2.1 (Kd.R_F (Kd.R_mono (ok' := (fun k_ => ((fun k_ => ((P3_ k_ ∨ P4_ k_) ∨ w.heap.size ≤ k_))) k_ ∧ some k_ ≠ (u12 : Value).ownBlock)) (Kd.R_apart' (HO175.out) (Kd.N_typed HO_12.out) (by decide)) (fun k_ hk => ⟨(.inr (hk.1.1)), hk.2⟩))))); (case aB => exact (bt)); (case aF => exact (fun k_ hk => (.inr (Nat.le_trans (below_size (bt)) hk)))); (case aO => exact (by (with_reducible repeat (first | apply Kd.N_alloc | apply Kd.N_drewN | apply Kd.N_drew)); exact Kd.N_mono HO_12.out (fun _ hk => hk.1))); (case aS => exact (below_size (bt))); (case aL => have := LMc39.out; omega); intro v177 w47 ho hb hg hat; rw [← Ny176.out] at ho; replace HO_4 := Aside0.mk (Kd.V_afterv (ok := (fun k_ => ((P3_ k_ ∨ P4_ k_) ∨ w.heap.size ≤ k_) ∧ some k_ ≠ (.slice Ao48 t173.length co48 : Value).ownBlock)) (by (with_reducible repeat (first | apply Kd.V_alloc | apply Kd.V_drewN | apply Kd.V_drew)); exact Kd.V_mono HO_4.out (fun _ hk => ⟨⟨hk.1.1, hk.2⟩, hk.1.2⟩)) hg hat); replace HO172 := Aside0.mk (Kd.V_afterv (ok := (fun k_ => ((P3_ k_ ∨ P4_ k_) ∨ w.heap.size ≤ k_) ∧ some k_ ≠ (.slice Ao48 t173.length co48 : Value).ownBlock)) (by (with_reducible repeat (first | apply Kd.V_alloc | apply Kd.V_drewN | apply Kd.V_drew)); exact Kd.V_mono HO172.out (fun _ hk => ⟨⟨hk.1.1, hk.2⟩, hk.1.2⟩)) hg hat); replace HB := Aside0.mk (hb); have HO178 := Aside0.mk (ho); clear HO_12 HO175; clear ho hb hg hat; obtain ⟨Ao49, co49, eo49⟩ := Kd.N_slice HO178.out; subst eo49; have p179 : 0 ≤ ((ji40) : Int) := of_decide_eq_true asm; have q179 : (ji40) < (y176.length : Int) := of_decide_eq_true asm; obtain ⟨ad179, A179_0, c179_0, e179, hx179_0, hl179_0, hi179_0⟩ := at_L1 (Kd.N_reads' HO178.out).2.2 (ji40) p179 q179; cases e179; obtain ⟨ce179, hce179, hMe179, hcc179⟩ := Kd.N_get HO178.out [] (ji40) p179 (by first | exact q179 | exact of_decide_eq_true asm | (have e_ := (Kd.N_reads' HO178.out).1; omega)); obtain ⟨ua179_0, uc179_0, rfl, ul179_0, ge179_0⟩ := Kd.FK_slice_open hMe179; have hv179_0 := hcc179 0 _ rfl; rw [Nat.add_zero, show ((Kd.slice 5 (Kd.int .u8))).sz = 1 from rfl, Nat.mul_one] at hv179_0; replace hv179_0 := Option.some.inj (hv179_0.symm.trans hx179_0); injection hv179_0 with hva_ hvn_ hvc_; rw [hva_] at ge179_0; rw [hvc_] at ul179_0; have HL179_0 := Aside0.mk (show Kd.V (Kd.int .u8) 5 _ w.heap.size _ _ (rd_L1 y176 (ji40)) from Kd.V_mk ul179_0 ge179_0); clear hva_ hvn_ hvc_ ge179_0 ul179_0; clear hcc179 hce179; have HR179_0 := Aside0.mk hi179_0; have HC179_0 := Aside0.mk hl179_0; clear hi179_0 hl179_0; replace p179 := eq_true p179; replace q179 := eq_true q179) | (go_at_call 29; (with_reducible refine (impl_Digest.calls a0 _ _ (rd_L1 y176 (ji40)) t180 _ ?side1 ?side2 A43.out).mono ?_); (case side1 => repeat (first | exact (by repeat (first | (with_reducible exact HR179_0.out) | (with_reducible refine Kd.C_alloc ?_ _) | (with_reducible refine Kd.C_drewN ?_ _) | (with_reducible refine Kd.C_drew ?_) | exact HR179_0.out)) | (with_reducible refine Kd.C_alloc ?_ _) | (with_reducible refine Kd.C_drewN ?_ _) | (with_reducible refine Kd.C_drew ?_))); (case side2 => exact HC179_0.out); rintro e w50 ⟨rfl, hb⟩; replace HO_4 := Aside0.mk (Kd.V_below (mv HO_4.out) hb); replace HO172 := Aside0.mk (Kd.V_below (mv HO172.out) hb); replace HO178 := Aside0.mk (Kd.N_below (mv HO178.out) hb); replace HL179_0 := Aside0.mk (Kd.V_below (mv HL179_0.out) hb); replace HR179_0 := Aside0.mk (Kd.C_below (by repeat (first | (with_reducible exact HR179_0.out) | (with_reducible refine Kd.C_alloc ?_ _) | (with_reducible refine Kd.C_drewN ?_ _) | (with_reducible refine Kd.C_drew ?_) | exact HR179_0.out)) hb); replace HB := Aside0.mk (below_step (bt) hb); (try clear hb); (try clear hb2); (try clear hk); (try clear hi))); try go_wp2_with (first | (go_at_call 72; (with_reducible refine (impl_nodeInput.calls k2 (rd x4_2 0) x13_2 t173 _ A38.out).mono ?_); rintro e w46 ⟨v174, rfl, ho0, hb⟩; replace HO_4 := Aside0.mk (Kd.V_elder' (mv HO_4.out) (Kd.R_base ho0) hb); replace HO_12 := Aside0.mk (Kd.N_elder' (mv HO_12.out) (Kd.R_base ho0) hb); replace HO172 := Aside0.mk (Kd.V_elder' (mv HO172.out) (Kd.R_base ho0) hb); have HO175 := Aside0.mk (Kd.R_lower (Kd.R_newM (M := fun k_ => (w.heap.size ≤ k_)) ho0 (below_size (bt)) (fun k_ h_ => h_)) (below_size (bt))); replace HB := Aside0.mk (below_step (bt) hb); (try clear hb); (try clear hb2); (try clear hk); (try clear hi); (try clear ho0); obtain ⟨Ao48, co48, eo48⟩ := Kd.R_slice HO175.out; subst eo48) | ((with_reducible refine gate_builtin (b := .append) (xs := #[.tmp 72, .tmp 76]) rfl ?_); (try (refine gate_guard (by rfl) ?_; dsimp only)); at_builtin; refine Kd.N_append (Kd.slice 5 (Kd.int .u8)) (w0 := w) w.heap.size rfl (.tmp 72) (.tmp 76) 30 22 (.slice none 0 0) 24 rfl Try.underlying30 info22 rfl (by decide) (by omega) u12 x12_2 t173 [.slice Ao48 t173.length co48] (fun k_ => ((P3_ k_ ∨ P4_ k_) ∨ w.heap.size ≤ k_)) (fun k_ => ((fun k_ => ((P3_ k_ ∨ P4_ k_) ∨ w.heap.size ≤ k_))) k_ ∧ some k_ ≠ (u12 : Value).ownBlock) rfl rfl ?aP (fun _ hk => hk) ?aF ?aO ?aB ?aS ?aL ?_; (case aP => exact (Kd.FK_slice_mk (Kd.R_reads' (Kd.R_mono (ok' := (fun k_ => ((fun k_ => ((P3_ k_ ∨ P4_ k_) ∨ w.heap.size ≤ k_))) k_ ∧ some k_ ≠ (u12 : Value).ownBlock)) (Kd.R_apart' (HO175.out) (Kd.N_typed HO_12.out) (by decide)) (fun k_ hk => ⟨(.inr (hk.1.1)), hk.2⟩))).2.1 (Kd.R_F (Kd.R_mono (ok' := (fun k_ => ((fun k_ => ((P3_ k_ ∨ P4_ k_) ∨ w.heap.size ≤ k_))) k_ ∧ some k_ ≠ (u12 : Value).ownBlock)) (Kd.R_apart' (HO175.out) (Kd.N_typed HO_12.out) (by decide)) (fun k_ hk => ⟨(.inr (hk.1.1)), hk.2⟩))))); (case aB => exact (bt)); (case aF => exact (fun k_ hk => (.inr (Nat.le_trans (below_size (bt)) hk)))); (case aO => exact (by (with_reducible repeat (first | apply Kd.N_alloc | apply Kd.N_drewN | apply Kd.N_drew)); exact Kd.N_mono HO_12.out (fun _ hk => hk.1))); (case aS => exact (below_size (bt))); (case aL => have := LMc39.out; omega); intro v177 w47 ho hb hg hat; rw [← Ny176.out] at ho; replace HO_4 := Aside0.mk (Kd.V_afterv (ok := (fun k_ => ((P3_ k_ ∨ P4_ k_) ∨ w.heap.size ≤ k_) ∧ some k_ ≠ (.slice Ao48 t173.length co48 : Value).ownBlock)) (by (with_reducible repeat (first | apply Kd.V_alloc | apply Kd.V_drewN | apply Kd.V_drew)); exact Kd.V_mono HO_4.out (fun _ hk => ⟨⟨hk.1.1, hk.2⟩, hk.1.2⟩)) hg hat); replace HO172 := Aside0.mk (Kd.V_afterv (ok := (fun k_ => ((P3_ k_ ∨ P4_ k_) ∨ w.heap.size ≤ k_) ∧ some k_ ≠ (.slice Ao48 t173.length co48 : Value).ownBlock)) (by (with_reducible repeat (first | apply Kd.V_alloc | apply Kd.V_drewN | apply Kd.V_drew)); exact Kd.V_mono HO172.out (fun _ hk => ⟨⟨hk.1.1, hk.2⟩, hk.1.2⟩)) hg hat); replace HB := Aside0.mk (hb); have HO178 := Aside0.mk (ho); clear HO_12 HO175; clear ho hb hg hat; obtain ⟨Ao49, co49, eo49⟩ := Kd.N_slice HO178.out; subst eo49; have p179 : 0 ≤ ((ji40) : Int) := of_decide_eq_true asm; have q179 : (ji40) < (y176.length : Int) := of_decide_eq_true asm; obtain ⟨ad179, A179_0, c179_0, e179, hx179_0, hl179_0, hi179_0⟩ := at_L1 (Kd.N_reads' HO178.out).2.2 (ji40) p179 q179; cases e179; obtain ⟨ce179, hce179, hMe179, hcc179⟩ := Kd.N_get HO178.out [] (ji40) p179 (by first | exact q179 | exact of_decide_eq_true asm | (have e_ := (Kd.N_reads' HO178.out).1; omega)); obtain ⟨ua179_0, uc179_0, rfl, ul179_0, ge179_0⟩ := Kd.FK_slice_open hMe179; have hv179_0 := hcc179 0 _ rfl; rw [Nat.add_zero, show ((Kd.slice 5 (Kd.int .u8))).sz = 1 from rfl, Nat.mul_one] at hv179_0; replace hv179_0 := Option.some.inj (hv179_0.symm.trans hx179_0); injection hv179_0 with hva_ hvn_ hvc_; rw [hva_] at ge179_0; rw [hvc_] at ul179_0; have HL179_0 := Aside0.mk (show Kd.V (Kd.int .u8) 5 _ w.heap.size _ _ (rd_L1 y176 (ji40)) from Kd.V_mk ul179_0 ge179_0); clear hva_ hvn_ hvc_ ge179_0 ul179_0; clear hcc179 hce179; have HR179_0 := Aside0.mk hi179_0; have HC179_0 := Aside0.mk hl179_0; clear hi179_0 hl179_0; replace p179 := eq_true p179; replace q179 := eq_true q179) | (go_at_call 29; (with_reducible refine (impl_Digest.calls a0 _ _ (rd_L1 y176 (ji40)) t180 _ ?side1 ?side2 A43.out).mono ?_); (case side1 => repeat (first | exact (by repeat (first | (with_reducible exact HR179_0.out) | (with_reducible refine Kd.C_alloc ?_ _) | (with_reducible refine Kd.C_drewN ?_ _) | (with_reducible refine Kd.C_drew ?_) | exact HR179_0.out)) | (with_reducible refine Kd.C_alloc ?_ _) | (with_reducible refine Kd.C_drewN ?_ _) | (with_reducible refine Kd.C_drew ?_))); (case side2 => exact HC179_0.out); rintro e w50 ⟨rfl, hb⟩; replace HO_4 := Aside0.mk (Kd.V_below (mv HO_4.out) hb); replace HO172 := Aside0.mk (Kd.V_below (mv HO172.out) hb); replace HO178 := Aside0.mk (Kd.N_below (mv HO178.out) hb); replace HL179_0 := Aside0.mk (Kd.V_below (mv HL179_0.out) hb); replace HR179_0 := Aside0.mk (Kd.C_below (by repeat (first | (with_reducible exact HR179_0.out) | (with_reducible refine Kd.C_alloc ?_ _) | (with_reducible refine Kd.C_drewN ?_ _) | (with_reducible refine Kd.C_drew ?_) | exact HR179_0.out)) hb); replace HB := Aside0.mk (below_step (bt) hb); (try clear hb); (try clear hb2); (try clear hk); (try clear hi))))
                go_roundg k2
                case measure => have := HJ5.out; have := HK2.out; omega
                case rel => exact ⟨(wrap64 (Int.tdiv x2_2 2)), (y168), (y176), (t180), (wrap64 (Int.tdiv (wrap64 (x14_2 + 1)) 2)), (by first | rfl | (simp; done) | (simp [*]; done)), (by first | rfl | (simp; done) | (simp [*]; done)), (by first | rfl | (simp; done) | (simp [*]; done)), H', ⟨by have := HJ5.out; have := HK2.out; omega⟩, ⟨by (with_reducible repeat (first | apply Kd.V_alloc | apply Kd.V_drewN | apply Kd.V_drew)); exact Kd.V_mono HO172.out (fun _ hk => ⟨hk.1.1, hk.2⟩)⟩, ⟨mv HO178.out⟩, ⟨bt⟩⟩
               ·rw [if_neg c42] at H
                exact absurd H (by simp)
              ·rw [if_neg c41] at H
               exact absurd H (by simp)
             ·rw [if_neg c39] at H
              exact absurd H (by simp)
            ·rw [if_neg c37] at H
             exact absurd H (by simp)
           ·rw [if_neg c36] at H
            have c36b0 : ((Int.tmod x2_2 2) == 1) = false := beq_eq_false_iff_ne.mpr c36
            have c36b1 : ((Int.tmod x2_2 2) != 1) = true := bne_iff_ne.mpr c36
            by_cases c51 : 1 ≤ (x4_2.length : Int)
            ·rw [if_pos c51] at H
             have c51b0 := eq_true c51
             have c51b1 : decide (1 ≤ (x4_2.length : Int)) = true := decide_eq_true c51
             clear c51
             obtain ⟨y181, hy181⟩ : ∃ y_ : List Int, y_ = (x4_2.drop 1) := ⟨_, rfl⟩
             replace H : ((impl_nodeInput.f k2 x13_2 (rd x4_2 0)).bind fun t186 => (if x12_2.length < 5864062014805 then ((some (x12_2 ++ [t186] : List (List Int))).bind fun y189 => (if 0 ≤ (wrap64 ((y189.length : Int) - 1)) then (if (wrap64 ((y189.length : Int) - 1)) < (y189.length : Int) then ((impl_Digest.f a0 (rd_L1 y189 (wrap64 ((y189.length : Int) - 1)))).bind fun t193 => (impl_climb.l0 k2 a0 a1 (wrap64 (Int.tdiv x2_2 2)) y181 y189 t193 (wrap64 (Int.tdiv (wrap64 (x14_2 + 1)) 2)))) else (none)) else (none))) else (none))) = some (r1, r2) := by first | (rw [hy181]; exact H) | exact H
             have Ny181 := Aside0.mk hy181
             clear hy181
             replace H := Option.bind_eq_some_iff.mp H
             obtain ⟨t186, A520, H⟩ := H
             (try dsimp -simprocs only at H)
             have A52 := Aside0.mk A520
             clear A520
             by_cases c53 : x12_2.length < 5864062014805
             ·rw [if_pos c53] at H
              have LMc53 := Aside0.mk c53
              clear c53
              obtain ⟨y189, hy189⟩ : ∃ y_ : List (List Int), y_ = (x12_2 ++ [t186]) := ⟨_, rfl⟩
              replace H : (if 0 ≤ (wrap64 ((y189.length : Int) - 1)) then (if (wrap64 ((y189.length : Int) - 1)) < (y189.length : Int) then ((impl_Digest.f a0 (rd_L1 y189 (wrap64 ((y189.length : Int) - 1)))).bind fun t193 => (impl_climb.l0 k2 a0 a1 (wrap64 (Int.tdiv x2_2 2)) y181 y189 t193 (wrap64 (Int.tdiv (wrap64 (x14_2 + 1)) 2)))) else (none)) else (none)) = some (r1, r2) := by first | (rw [hy189]; exact H) | exact H
              have Ny189 := Aside0.mk hy189
              clear hy189
              obtain ⟨ji54, hji54⟩ : ∃ j_ : Int, (wrap64 ((y189.length : Int) - 1)) = j_ := ⟨_, rfl⟩
              replace H : (if 0 ≤ (ji54) then (if (ji54) < (y189.length : Int) then ((impl_Digest.f a0 (rd_L1 y189 (ji54))).bind fun t193 => (impl_climb.l0 k2 a0 a1 (wrap64 (Int.tdiv x2_2 2)) y181 y189 t193 (wrap64 (Int.tdiv (wrap64 (x14_2 + 1)) 2)))) else (none)) else (none)) = some (r1, r2) := by first | (rw [hji54] at H; exact H) | (simp only [hji54] at H ⊢; exact H)
              (try rw [hji54] at A52)
              have hji54w : (IntKind.i64.wrap ((y189.length : Int) - 1)) = ji54 := (i64_w _).trans hji54
              by_cases c55 : 0 ≤ (ji54)
              ·rw [if_pos c55] at H
               have c55b0 : decide (0 ≤ (ji54)) = true := decide_eq_true c55
               clear c55
               by_cases c56 : (ji54) < (y189.length : Int)
               ·rw [if_pos c56] at H
                have c56b0 : decide ((ji54) < (y189.length : Int)) = true := decide_eq_true c56
                clear c56
                replace H := Option.bind_eq_some_iff.mp H
                obtain ⟨t193, A570, H⟩ := H
                (try dsimp -simprocs only at H)
                have A57 := Aside0.mk A570
                clear A570
                have H' := Aside0.mk H
                clear H
                obtain ⟨Ao58, co58, eo58⟩ := Kd.V_slice HO_4.out
                subst eo58
                have p167 : 0 ≤ (0 : Int) := (by omega)
                have q167 : 0 < (x4_2.length : Int) := of_decide_eq_true asm
                obtain ⟨ad167, e167, hx167_0⟩ := Kd.at_int (Kd.V_reads' HO_4.out).2.2 0 p167 q167
                cases e167
                have qi167 : (0 < x4_2.length) = True := eq_true (by omega)
                (try rw [show ((0 : Int)).toNat = 0 from rfl] at hx167_0)
                (try rw [Addr.add_zero'] at hx167_0)
                replace p167 := eq_true p167
                replace q167 := eq_true q167
                have q59 : (1 : Int) ≤ ((x4_2.length : Int) : Int) := of_decide_eq_true asm
                obtain ⟨i059, hi059, _, hsz59, _⟩ := info_parts info3
                have hroom59 : x4_2.length ≤ co58 := (Kd.V_reads' HO_4.out).2.1
                have hC59 : Kd.F (Kd.int .i64) _ _ (some ad167) x4_2.length x4_2 := (Kd.V_at (base := w.heap.size) HO_4.out).2.2
                have hcut59 := cut_from (P := Try.prog) 23 3 .i64 Try.underlying23 hi059 1 hsz59 (some ad167) x4_2.length co58 1 (by omega) q59
                have hr59 := Kd.F_cut (m := (1 : Int).toNat) (c := co58) hC59 (by omega) hroom59
                obtain ⟨A59, hA59⟩ : ∃ A1, A1 = (if co58 = (1 : Int).toNat then (some ad167) else ((some ad167) : Option Addr).map (·.add ((1 : Int).toNat * 1))) := ⟨_, rfl⟩
                obtain ⟨c59, hc59⟩ : ∃ c1, c1 = co58 - (1 : Int).toNat := ⟨_, rfl⟩
                have hy59 : y181.length = x4_2.length - (1 : Int).toNat := (by rw [Ny181.out, List.length_drop] <;> omega)
                rw [show (x4_2).drop (1 : Int).toNat = y181 from Ny181.out.symm] at hr59
                replace hr59 : Kd.F (Kd.int .i64) _ _ A59 y181.length y181 := (by rw [hA59]; exact hr59)
                rw [← hy59, ← hA59, ← hc59] at hcut59
                have HO185 := Aside0.mk (show Kd.V (Kd.int .i64) 3 _ w.heap.size _ (.slice A59 y181.length c59) y181 from Kd.V_mk (by rw [hy59, hc59]; exact Nat.sub_le_sub_right hroom59 _) hr59)
                have HC185 := Aside0.mk (show y181.length ≤ c59 from by rw [hy59, hc59]; exact Nat.sub_le_sub_right hroom59 _)
                clear hr59 hC59 hroom59 hi059 hsz59 hc59
                have KY59 := Aside0.mk hy59
                have KA59 := Aside0.mk hA59
                clear hy59 hA59
                replace q59 := eq_true q59
                go_wp2_with (first | (go_at_call 72; (with_reducible refine (impl_nodeInput.calls k2 x13_2 (rd x4_2 0) t186 _ A52.out).mono ?_); rintro e w60 ⟨v187, rfl, ho0, hb⟩; replace HO_4 := Aside0.mk (Kd.V_elder' (mv HO_4.out) (Kd.R_base ho0) hb); replace HO_12 := Aside0.mk (Kd.N_elder' (mv HO_12.out) (Kd.R_base ho0) hb); replace HO185 := Aside0.mk (Kd.V_elder' (mv HO185.out) (Kd.R_base ho0) hb); have HO188 := Aside0.mk (Kd.R_lower (Kd.R_newM (M := fun k_ => (w.heap.size ≤ k_)) ho0 (below_size (bt)) (fun k_ h_ => h_)) (below_size (bt))); replace HB := Aside0.mk (below_step (bt) hb); (try clear hb); (try clear hb2); (try clear hk); (try clear hi); (try clear ho0); obtain ⟨Ao62, co62, eo62⟩ := Kd.R_slice HO188.out; subst eo62) | ((with_reducible refine gate_builtin (b := .append) (xs := #[.tmp 72, .tmp 76]) rfl ?_); (try (refine gate_guard (by rfl) ?_; dsimp only)); at_builtin; refine Kd.N_append (Kd.slice 5 (Kd.int .u8)) (w0 := w) w.heap.size rfl (.tmp 72) (.tmp 76) 30 22 (.slice none 0 0) 24 rfl Try.underlying30 info22 rfl (by decide) (by omega) u12 x12_2 t186 [.slice Ao62 t186.length co62] (fun k_ => ((P3_ k_ ∨ P4_ k_) ∨ w.heap.size ≤ k_)) (fun k_ => ((fun k_ => ((P3_ k_ ∨ P4_ k_) ∨ w.heap.size ≤ k_))) k_ ∧ some k_ ≠ (u12 : Value).ownBlock) rfl rfl ?aP (fun _ hk => hk) ?aF ?aO ?aB ?aS ?aL ?_; (case aP => exact (Kd.FK_slice_mk (Kd.R_reads' (Kd.R_mono (ok' := (fun k_ => ((fun k_ => ((P3_ k_ ∨ P4_ k_) ∨ w.heap.size ≤ k_))) k_ ∧ some k_ ≠ (u12 : Value).ownBlock)) (Kd.R_apart' (HO188.out) (Kd.N_typed HO_12.out) (by decide)) (fun k_ hk => ⟨(.inr (hk.1.1)), hk.2⟩))).2.1 (Kd.R_F (Kd.R_mono (ok' := (fun k_ => ((fun k_ => ((P3_ k_ ∨ P4_ k_) ∨ w.heap.size ≤ k_))) k_ ∧ some k_ ≠ (u12 : Value).ownBlock)) (Kd.R_apart' (HO188.out) (Kd.N_typed HO_12.out) (by decide)) (fun k_ hk => ⟨(.inr (hk.1.1)), hk.2⟩))))); (case aB => exact (bt)); (case aF => exact (fun k_ hk => (.inr (Nat.le_trans (below_size (bt)) hk)))); (case aO => exact (by (with_reducible repeat (first | apply Kd.N_alloc | apply Kd.N_drewN | apply Kd.N_drew)); exact Kd.N_mono HO_12.out (fun _ hk => hk.1))); (case aS => exact (below_size (bt))); (case aL => have := LMc53.out; omega); intro v190 w61 ho hb hg hat; rw [← Ny189.out] at ho; replace HO_4 := Aside0.mk (Kd.V_afterv (ok := (fun k_ => ((P3_ k_ ∨ P4_ k_) ∨ w.heap.size ≤ k_) ∧ some k_ ≠ (.slice Ao62 t186.length co62 : Value).ownBlock)) (by (with_reducible repeat (first | apply Kd.V_alloc | apply Kd.V_drewN | apply Kd.V_drew)); exact Kd.V_mono HO_4.out (fun _ hk => ⟨⟨hk.1.1, hk.2⟩, hk.1.2⟩)) hg hat); replace HO185 := Aside0.mk (Kd.V_afterv (ok := (fun k_ => ((P3_ k_ ∨ P4_ k_) ∨ w.heap.size ≤ k_) ∧ some k_ ≠ (.slice Ao62 t186.length co62 : Value).ownBlock)) (by (with_reducible repeat (first | apply Kd.V_alloc | apply Kd.V_drewN | apply Kd.V_drew)); exact Kd.V_mono HO185.out (fun _ hk => ⟨⟨hk.1.1, hk.2⟩, hk.1.2⟩)) hg hat); replace HB := Aside0.mk (hb); have HO191 := Aside0.mk (ho); clear HO_12 HO188; clear ho hb hg hat; obtain ⟨Ao63, co63, eo63⟩ := Kd.N_slice HO191.out; subst eo63; have p192 : 0 ≤ ((ji54) : Int) := of_decide_eq_true asm; have q192 : (ji54) < (y189.length : Int) := of_decide_eq_true asm; obtain ⟨ad192, A192_0, c192_0, e192, hx192_0, hl192_0, hi192_0⟩ := at_L1 (Kd.N_reads' HO191.out).2.2 (ji54) p192 q192; cases e192; obtain ⟨ce192, hce192, hMe192, hcc192⟩ := Kd.N_get HO191.out [] (ji54) p192 (by first | exact q192 | exact of_decide_eq_true asm | (have e_ := (Kd.N_reads' HO191.out).1; omega)); obtain ⟨ua192_0, uc192_0, rfl, ul192_0, ge192_0⟩ := Kd.FK_slice_open hMe192; have hv192_0 := hcc192 0 _ rfl; rw [Nat.add_zero, show ((Kd.slice 5 (Kd.int .u8))).sz = 1 from rfl, Nat.mul_one] at hv192_0; replace hv192_0 := Option.some.inj (hv192_0.symm.trans hx192_0); injection hv192_0 with hva_ hvn_ hvc_; rw [hva_] at ge192_0; rw [hvc_] at ul192_0; have HL192_0 := Aside0.mk (show Kd.V (Kd.int .u8) 5 _ w.heap.size _ _ (rd_L1 y189 (ji54)) from Kd.V_mk ul192_0 ge192_0); clear hva_ hvn_ hvc_ ge192_0 ul192_0; clear hcc192 hce192; have HR192_0 := Aside0.mk hi192_0; have HC192_0 := Aside0.mk hl192_0; clear hi192_0 hl192_0; replace p192 := eq_true p192; replace q192 := eq_true q192) | (go_at_call 29; (with_reducible refine (impl_Digest.calls a0 _ _ (rd_L1 y189 (ji54)) t193 _ ?side1 ?side2 A57.out).mono ?_); (case side1 => repeat (first | exact (by repeat (first | (with_reducible exact HR192_0.out) | (with_reducible refine Kd.C_alloc ?_ _) | (with_reducible refine Kd.C_drewN ?_ _) | (with_reducible refine Kd.C_drew ?_) | exact HR192_0.out)) | (with_reducible refine Kd.C_alloc ?_ _) | (with_reducible refine Kd.C_drewN ?_ _) | (with_reducible refine Kd.C_drew ?_))); (case side2 => exact HC192_0.out); rintro e w64 ⟨rfl, hb⟩; replace HO_4 := Aside0.mk (Kd.V_below (mv HO_4.out) hb); replace HO185 := Aside0.mk (Kd.V_below (mv HO185.out) hb); replace HO191 := Aside0.mk (Kd.N_below (mv HO191.out) hb); replace HL192_0 := Aside0.mk (Kd.V_below (mv HL192_0.out) hb); replace HR192_0 := Aside0.mk (Kd.C_below (by repeat (first | (with_reducible exact HR192_0.out) | (with_reducible refine Kd.C_alloc ?_ _) | (with_reducible refine Kd.C_drewN ?_ _) | (with_reducible refine Kd.C_drew ?_) | exact HR192_0.out)) hb); replace HB := Aside0.mk (below_step (bt) hb); (try clear hb); (try clear hb2); (try clear hk); (try clear hi)))
                repeat (go_quiet (first | (go_at_call 72; (with_reducible refine (impl_nodeInput.calls k2 x13_2 (rd x4_2 0) t186 _ A52.out).mono ?_); rintro e w60 ⟨v187, rfl, ho0, hb⟩; replace HO_4 := Aside0.mk (Kd.V_elder' (mv HO_4.out) (Kd.R_base ho0) hb); replace HO_12 := Aside0.mk (Kd.N_elder' (mv HO_12.out) (Kd.R_base ho0) hb); replace HO185 := Aside0.mk (Kd.V_elder' (mv HO185.out) (Kd.R_base ho0) hb); have HO188 := Aside0.mk (Kd.R_lower (Kd.R_newM (M := fun k_ => (w.heap.size ≤ k_)) ho0 (below_size (bt)) (fun k_ h_ => h_)) (below_size (bt))); replace HB := Aside0.mk (below_step (bt) hb); (try clear hb); (try clear hb2); (try clear hk); (try clear hi); (try clear ho0); obtain ⟨Ao62, co62, eo62⟩ := Kd.R_slice HO188.out; subst eo62) | ((with_reducible refine gate_builtin (b := .append) (xs := #[.tmp 72, .tmp 76]) rfl ?_); (try (refine gate_guard (by rfl) ?_; dsimp only)); at_builtin; refine Kd.N_append (Kd.slice 5 (Kd.int .u8)) (w0 := w) w.heap.size rfl (.tmp 72) (.tmp 76) 30 22 (.slice none 0 0) 24 rfl Try.underlying30 info22 rfl (by decide) (by omega) u12 x12_2 t186 [.slice Ao62 t186.length co62] (fun k_ => ((P3_ k_ ∨ P4_ k_) ∨ w.heap.size ≤ k_)) (fun k_ => ((fun k_ => ((P3_ k_ ∨ P4_ k_) ∨ w.heap.size ≤ k_))) k_ ∧ some k_ ≠ (u12 : Value).ownBlock) rfl rfl ?aP (fun _ hk => hk) ?aF ?aO ?aB ?aS ?aL ?_; (case aP => exact (Kd.FK_slice_mk (Kd.R_reads' (Kd.R_mono (ok' := (fun k_ => ((fun k_ => ((P3_ k_ ∨ P4_ k_) ∨ w.heap.size ≤ k_))) k_ ∧ some k_ ≠ (u12 : Value).ownBlock)) (Kd.R_apart' (HO188.out) (Kd.N_typed HO_12.out) (by decide)) (fun k_ hk => ⟨(.inr (hk.1.1)), hk.2⟩))).2.1 (Kd.R_F (Kd.R_mono (ok' := (fun k_ => ((fun k_ => ((P3_ k_ ∨ P4_ k_) ∨ w.heap.size ≤ k_))) k_ ∧ some k_ ≠ (u12 : Value).ownBlock)) (Kd.R_apart' (HO188.out) (Kd.N_typed HO_12.out) (by decide)) (fun k_ hk => ⟨(.inr (hk.1.1)), hk.2⟩))))); (case aB => exact (bt)); (case aF => exact (fun k_ hk => (.inr (Nat.le_trans (below_size (bt)) hk)))); (case aO => exact (by (with_reducible repeat (first | apply Kd.N_alloc | apply Kd.N_drewN | apply Kd.N_drew)); exact Kd.N_mono HO_12.out (fun _ hk => hk.1))); (case aS => exact (below_size (bt))); (case aL => have := LMc53.out; omega); intro v190 w61 ho hb hg hat; rw [← Ny189.out] at ho; replace HO_4 := Aside0.mk (Kd.V_afterv (ok := (fun k_ => ((P3_ k_ ∨ P4_ k_) ∨ w.heap.size ≤ k_) ∧ some k_ ≠ (.slice Ao62 t186.length co62 : Value).ownBlock)) (by (with_reducible repeat (first | apply Kd.V_alloc | apply Kd.V_drewN | apply Kd.V_drew)); exact Kd.V_mono HO_4.out (fun _ hk => ⟨⟨hk.1.1, hk.2⟩, hk.1.2⟩)) hg hat); replace HO185 := Aside0.mk (Kd.V_afterv (ok := (fun k_ => ((P3_ k_ ∨ P4_ k_) ∨ w.heap.size ≤ k_) ∧ some k_ ≠ (.slice Ao62 t186.length co62 : Value).ownBlock)) (by (with_reducible repeat (first | apply Kd.V_alloc | apply Kd.V_drewN | apply Kd.V_drew)); exact Kd.V_mono HO185.out (fun _ hk => ⟨⟨hk.1.1, hk.2⟩, hk.1.2⟩)) hg hat); replace HB := Aside0.mk (hb); have HO191 := Aside0.mk (ho); clear HO_12 HO188; clear ho hb hg hat; obtain ⟨Ao63, co63, eo63⟩ := Kd.N_slice HO191.out; subst eo63; have p192 : 0 ≤ ((ji54) : Int) := of_decide_eq_true asm; have q192 : (ji54) < (y189.length : Int) := of_decide_eq_true asm; obtain ⟨ad192, A192_0, c192_0, e192, hx192_0, hl192_0, hi192_0⟩ := at_L1 (Kd.N_reads' HO191.out).2.2 (ji54) p192 q192; cases e192; obtain ⟨ce192, hce192, hMe192, hcc192⟩ := Kd.N_get HO191.out [] (ji54) p192 (by first | exact q192 | exact of_decide_eq_true asm | (have e_ := (Kd.N_reads' HO191.out).1; omega)); obtain ⟨ua192_0, uc192_0, rfl, ul192_0, ge192_0⟩ := Kd.FK_slice_open hMe192; have hv192_0 := hcc192 0 _ rfl; rw [Nat.add_zero, show ((Kd.slice 5 (Kd.int .u8))).sz = 1 from rfl, Nat.mul_one] at hv192_0; replace hv192_0 := Option.some.inj (hv192_0.symm.trans hx192_0); injection hv192_0 with hva_ hvn_ hvc_; rw [hva_] at ge192_0; rw [hvc_] at ul192_0; have HL192_0 := Aside0.mk (show Kd.V (Kd.int .u8) 5 _ w.heap.size _ _ (rd_L1 y189 (ji54)) from Kd.V_mk ul192_0 ge192_0); clear hva_ hvn_ hvc_ ge192_0 ul192_0; clear hcc192 hce192; have HR192_0 := Aside0.mk hi192_0; have HC192_0 := Aside0.mk hl192_0; clear hi192_0 hl192_0; replace p192 := eq_true p192; replace q192 := eq_true q192) | (go_at_call 29; (with_reducible refine (impl_Digest.calls a0 _ _ (rd_L1 y189 (ji54)) t193 _ ?side1 ?side2 A57.out).mono ?_); (case side1 => repeat (first | exact (by repeat (first | (with_reducible exact HR192_0.out) | (with_reducible refine Kd.C_alloc ?_ _) | (with_reducible refine Kd.C_drewN ?_ _) | (with_reducible refine Kd.C_drew ?_) | exact HR192_0.out)) | (with_reducible refine Kd.C_alloc ?_ _) | (with_reducible refine Kd.C_drewN ?_ _) | (with_reducible refine Kd.C_drew ?_))); (case side2 => exact HC192_0.out); rintro e w64 ⟨rfl, hb⟩; replace HO_4 := Aside0.mk (Kd.V_below (mv HO_4.out) hb); replace HO185 := Aside0.mk (Kd.V_below (mv HO185.out) hb); replace HO191 := Aside0.mk (Kd.N_below (mv HO191.out) hb); replace HL192_0 := Aside0.mk (Kd.V_below (mv HL192_0.out) hb); replace HR192_0 := Aside0.mk (Kd.C_below (by repeat (first | (with_reducible exact HR192_0.out) | (with_reducible refine Kd.C_alloc ?_ _) | (with_reducible refine Kd.C_drewN ?_ _) | (with_reducible refine Kd.C_drew ?_) | exact HR192_0.out)) hb); replace HB := Aside0.mk (below_step (bt) hb); (try clear hb); (try clear hb2); (try clear hk); (try clear hi))); try go_wp2_with (first | (go_at_call 72; (with_reducible refine (impl_nodeInput.calls k2 x13_2 (rd x4_2 0) t186 _ A52.out).mono ?_); rintro e w60 ⟨v187, rfl, ho0, hb⟩; replace HO_4 := Aside0.mk (Kd.V_elder' (mv HO_4.out) (Kd.R_base ho0) hb); replace HO_12 := Aside0.mk (Kd.N_elder' (mv HO_12.out) (Kd.R_base ho0) hb); replace HO185 := Aside0.mk (Kd.V_elder' (mv HO185.out) (Kd.R_base ho0) hb); have HO188 := Aside0.mk (Kd.R_lower (Kd.R_newM (M := fun k_ => (w.heap.size ≤ k_)) ho0 (below_size (bt)) (fun k_ h_ => h_)) (below_size (bt))); replace HB := Aside0.mk (below_step (bt) hb); (try clear hb); (try clear hb2); (try clear hk); (try clear hi); (try clear ho0); obtain ⟨Ao62, co62, eo62⟩ := Kd.R_slice HO188.out; subst eo62) | ((with_reducible refine gate_builtin (b := .append) (xs := #[.tmp 72, .tmp 76]) rfl ?_); (try (refine gate_guard (by rfl) ?_; dsimp only)); at_builtin; refine Kd.N_append (Kd.slice 5 (Kd.int .u8)) (w0 := w) w.heap.size rfl (.tmp 72) (.tmp 76) 30 22 (.slice none 0 0) 24 rfl Try.underlying30 info22 rfl (by decide) (by omega) u12 x12_2 t186 [.slice Ao62 t186.length co62] (fun k_ => ((P3_ k_ ∨ P4_ k_) ∨ w.heap.size ≤ k_)) (fun k_ => ((fun k_ => ((P3_ k_ ∨ P4_ k_) ∨ w.heap.size ≤ k_))) k_ ∧ some k_ ≠ (u12 : Value).ownBlock) rfl rfl ?aP (fun _ hk => hk) ?aF ?aO ?aB ?aS ?aL ?_; (case aP => exact (Kd.FK_slice_mk (Kd.R_reads' (Kd.R_mono (ok' := (fun k_ => ((fun k_ => ((P3_ k_ ∨ P4_ k_) ∨ w.heap.size ≤ k_))) k_ ∧ some k_ ≠ (u12 : Value).ownBlock)) (Kd.R_apart' (HO188.out) (Kd.N_typed HO_12.out) (by decide)) (fun k_ hk => ⟨(.inr (hk.1.1)), hk.2⟩))).2.1 (Kd.R_F (Kd.R_mono (ok' := (fun k_ => ((fun k_ => ((P3_ k_ ∨ P4_ k_) ∨ w.heap.size ≤ k_))) k_ ∧ some k_ ≠ (u12 : Value).ownBlock)) (Kd.R_apart' (HO188.out) (Kd.N_typed HO_12.out) (by decide)) (fun k_ hk => ⟨(.inr (hk.1.1)), hk.2⟩))))); (case aB => exact (bt)); (case aF => exact (fun k_ hk => (.inr (Nat.le_trans (below_size (bt)) hk)))); (case aO => exact (by (with_reducible repeat (first | apply Kd.N_alloc | apply Kd.N_drewN | apply Kd.N_drew)); exact Kd.N_mono HO_12.out (fun _ hk => hk.1))); (case aS => exact (below_size (bt))); (case aL => have := LMc53.out; omega); intro v190 w61 ho hb hg hat; rw [← Ny189.out] at ho; replace HO_4 := Aside0.mk (Kd.V_afterv (ok := (fun k_ => ((P3_ k_ ∨ P4_ k_) ∨ w.heap.size ≤ k_) ∧ some k_ ≠ (.slice Ao62 t186.length co62 : Value).ownBlock)) (by (with_reducible repeat (first | apply Kd.V_alloc | apply Kd.V_drewN | apply Kd.V_drew)); exact Kd.V_mono HO_4.out (fun _ hk => ⟨⟨hk.1.1, hk.2⟩, hk.1.2⟩)) hg hat); replace HO185 := Aside0.mk (Kd.V_afterv (ok := (fun k_ => ((P3_ k_ ∨ P4_ k_) ∨ w.heap.size ≤ k_) ∧ some k_ ≠ (.slice Ao62 t186.length co62 : Value).ownBlock)) (by (with_reducible repeat (first | apply Kd.V_alloc | apply Kd.V_drewN | apply Kd.V_drew)); exact Kd.V_mono HO185.out (fun _ hk => ⟨⟨hk.1.1, hk.2⟩, hk.1.2⟩)) hg hat); replace HB := Aside0.mk (hb); have HO191 := Aside0.mk (ho); clear HO_12 HO188; clear ho hb hg hat; obtain ⟨Ao63, co63, eo63⟩ := Kd.N_slice HO191.out; subst eo63; have p192 : 0 ≤ ((ji54) : Int) := of_decide_eq_true asm; have q192 : (ji54) < (y189.length : Int) := of_decide_eq_true asm; obtain ⟨ad192, A192_0, c192_0, e192, hx192_0, hl192_0, hi192_0⟩ := at_L1 (Kd.N_reads' HO191.out).2.2 (ji54) p192 q192; cases e192; obtain ⟨ce192, hce192, hMe192, hcc192⟩ := Kd.N_get HO191.out [] (ji54) p192 (by first | exact q192 | exact of_decide_eq_true asm | (have e_ := (Kd.N_reads' HO191.out).1; omega)); obtain ⟨ua192_0, uc192_0, rfl, ul192_0, ge192_0⟩ := Kd.FK_slice_open hMe192; have hv192_0 := hcc192 0 _ rfl; rw [Nat.add_zero, show ((Kd.slice 5 (Kd.int .u8))).sz = 1 from rfl, Nat.mul_one] at hv192_0; replace hv192_0 := Option.some.inj (hv192_0.symm.trans hx192_0); injection hv192_0 with hva_ hvn_ hvc_; rw [hva_] at ge192_0; rw [hvc_] at ul192_0; have HL192_0 := Aside0.mk (show Kd.V (Kd.int .u8) 5 _ w.heap.size _ _ (rd_L1 y189 (ji54)) from Kd.V_mk ul192_0 ge192_0); clear hva_ hvn_ hvc_ ge192_0 ul192_0; clear hcc192 hce192; have HR192_0 := Aside0.mk hi192_0; have HC192_0 := Aside0.mk hl192_0; clear hi192_0 hl192_0; replace p192 := eq_true p192; replace q192 := eq_true q192) | (go_at_call 29; (with_reducible refine (impl_Digest.calls a0 _ _ (rd_L1 y189 (ji54)) t193 _ ?side1 ?side2 A57.out).mono ?_); (case side1 => repeat (first | exact (by repeat (first | (with_reducible exact HR192_0.out) | (with_reducible refine Kd.C_alloc ?_ _) | (with_reducible refine Kd.C_drewN ?_ _) | (with_reducible refine Kd.C_drew ?_) | exact HR192_0.out)) | (with_reducible refine Kd.C_alloc ?_ _) | (with_reducible refine Kd.C_drewN ?_ _) | (with_reducible refine Kd.C_drew ?_))); (case side2 => exact HC192_0.out); rintro e w64 ⟨rfl, hb⟩; replace HO_4 := Aside0.mk (Kd.V_below (mv HO_4.out) hb); replace HO185 := Aside0.mk (Kd.V_below (mv HO185.out) hb); replace HO191 := Aside0.mk (Kd.N_below (mv HO191.out) hb); replace HL192_0 := Aside0.mk (Kd.V_below (mv HL192_0.out) hb); replace HR192_0 := Aside0.mk (Kd.C_below (by repeat (first | (with_reducible exact HR192_0.out) | (with_reducible refine Kd.C_alloc ?_ _) | (with_reducible refine Kd.C_drewN ?_ _) | (with_reducible refine Kd.C_drew ?_) | exact HR192_0.out)) hb); replace HB := Aside0.mk (below_step (bt) hb); (try clear hb); (try clear hb2); (try clear hk); (try clear hi))))
                go_roundg k2
                case measure => have := HJ5.out; have := HK2.out; omega
                case rel => exact ⟨(wrap64 (Int.tdiv x2_2 2)), (y181), (y189), (t193), (wrap64 (Int.tdiv (wrap64 (x14_2 + 1)) 2)), (by first | rfl | (simp; done) | (simp [*]; done)), (by first | rfl | (simp; done) | (simp [*]; done)), (by first | rfl | (simp; done) | (simp [*]; done)), H', ⟨by have := HJ5.out; have := HK2.out; omega⟩, ⟨by (with_reducible repeat (first | apply Kd.V_alloc | apply Kd.V_drewN | apply Kd.V_drew)); exact Kd.V_mono HO185.out (fun _ hk => ⟨hk.1.1, hk.2⟩)⟩, ⟨mv HO191.out⟩, ⟨bt⟩⟩
               ·rw [if_neg c56] at H
                exact absurd H (by simp)
              ·rw [if_neg c55] at H
               exact absurd H (by simp)
             ·rw [if_neg c53] at H
              exact absurd H (by simp)
            ·rw [if_neg c51] at H
             exact absurd H (by simp)
          ·rw [if_neg c35] at H
           exact absurd H (by simp)
        ·rw [if_neg c32] at H
         have c32b0 : decide ((Go.bits .xor .i64 x2_2 1) < x14_2) = false := decide_eq_false c32
         clear c32
         have H' := Aside0.mk H
         clear H
         go_wp2
         go_roundg k2
         case measure => have := HJ5.out; have := HK2.out; omega
         case rel => exact ⟨(wrap64 (Int.tdiv x2_2 2)), (x4_2), (x12_2), (x13_2), (wrap64 (Int.tdiv (wrap64 (x14_2 + 1)) 2)), (by first | rfl | (simp; done) | (simp [*]; done)), (by first | rfl | (simp; done) | (simp [*]; done)), (by first | rfl | (simp; done) | (simp [*]; done)), H', ⟨by have := HJ5.out; have := HK2.out; omega⟩, ⟨mv HO_4.out⟩, ⟨mv HO_12.out⟩, ⟨bt⟩⟩
       ·rw [if_neg c31] at H
        have c31b0 : decide (1 < x14_2) = false := decide_eq_false c31
        clear c31
        replace H := Option.bind_eq_some_iff.mp H
        obtain ⟨t161, A650, H⟩ := H
        (try dsimp -simprocs only at H)
        have A65 := Aside0.mk A650
        clear A650
        by_cases c66 : x12_2.length < 5864062014805
        ·rw [if_pos c66] at H
         have LMc66 := Aside0.mk c66
         clear c66
         obtain ⟨y164, hy164⟩ : ∃ y_ : List (List Int), y_ = (x12_2 ++ [t161]) := ⟨_, rfl⟩
         replace H : (some (y164, ((x4_2.length : Int) == 0))) = some (r1, r2) := by first | (rw [hy164]; exact H) | exact H
         have Ny164 := Aside0.mk hy164
         clear hy164
         simp only [Option.some.injEq, Prod.mk.injEq] at H
         obtain ⟨rfl, rfl⟩ := H
         go_wp2_with (first | (go_at_call 104; (with_reducible refine (impl_topInput.calls k2 a1 x13_2 t161 _ A65.out).mono ?_); rintro e w67 ⟨v162, rfl, ho0, hb⟩; replace HO_4 := Aside0.mk (Kd.V_elder' (mv HO_4.out) (Kd.R_base ho0) hb); replace HO_12 := Aside0.mk (Kd.N_elder' (mv HO_12.out) (Kd.R_base ho0) hb); have HO163 := Aside0.mk (Kd.R_lower (Kd.R_newM (M := fun k_ => (w.heap.size ≤ k_)) ho0 (below_size (bt)) (fun k_ h_ => h_)) (below_size (bt))); replace HB := Aside0.mk (below_step (bt) hb); (try clear hb); (try clear hb2); (try clear hk); (try clear hi); (try clear ho0); obtain ⟨Ao69, co69, eo69⟩ := Kd.R_slice HO163.out; subst eo69) | ((with_reducible refine gate_builtin (b := .append) (xs := #[.tmp 88, .tmp 92]) rfl ?_); (try (refine gate_guard (by rfl) ?_; dsimp only)); at_builtin; refine Kd.N_append (Kd.slice 5 (Kd.int .u8)) (w0 := w) w.heap.size rfl (.tmp 88) (.tmp 92) 30 22 (.slice none 0 0) 24 rfl Try.underlying30 info22 rfl (by decide) (by omega) u12 x12_2 t161 [.slice Ao69 t161.length co69] (fun k_ => ((P3_ k_ ∨ P4_ k_) ∨ w.heap.size ≤ k_)) (fun k_ => ((fun k_ => ((P3_ k_ ∨ P4_ k_) ∨ w.heap.size ≤ k_))) k_ ∧ some k_ ≠ (u12 : Value).ownBlock) rfl rfl ?aP (fun _ hk => hk) ?aF ?aO ?aB ?aS ?aL ?_; (case aP => exact (Kd.FK_slice_mk (Kd.R_reads' (Kd.R_mono (ok' := (fun k_ => ((fun k_ => ((P3_ k_ ∨ P4_ k_) ∨ w.heap.size ≤ k_))) k_ ∧ some k_ ≠ (u12 : Value).ownBlock)) (Kd.R_apart' (HO163.out) (Kd.N_typed HO_12.out) (by decide)) (fun k_ hk => ⟨(.inr (hk.1.1)), hk.2⟩))).2.1 (Kd.R_F (Kd.R_mono (ok' := (fun k_ => ((fun k_ => ((P3_ k_ ∨ P4_ k_) ∨ w.heap.size ≤ k_))) k_ ∧ some k_ ≠ (u12 : Value).ownBlock)) (Kd.R_apart' (HO163.out) (Kd.N_typed HO_12.out) (by decide)) (fun k_ hk => ⟨(.inr (hk.1.1)), hk.2⟩))))); (case aB => exact (bt)); (case aF => exact (fun k_ hk => (.inr (Nat.le_trans (below_size (bt)) hk)))); (case aO => exact (by (with_reducible repeat (first | apply Kd.N_alloc | apply Kd.N_drewN | apply Kd.N_drew)); exact Kd.N_mono HO_12.out (fun _ hk => hk.1))); (case aS => exact (below_size (bt))); (case aL => have := LMc66.out; omega); intro v165 w68 ho hb hg hat; rw [← Ny164.out] at ho; replace HO_4 := Aside0.mk (Kd.V_afterv (ok := (fun k_ => ((P3_ k_ ∨ P4_ k_) ∨ w.heap.size ≤ k_) ∧ some k_ ≠ (.slice Ao69 t161.length co69 : Value).ownBlock)) (by (with_reducible repeat (first | apply Kd.V_alloc | apply Kd.V_drewN | apply Kd.V_drew)); exact Kd.V_mono HO_4.out (fun _ hk => ⟨⟨hk.1.1, hk.2⟩, hk.1.2⟩)) hg hat); replace HB := Aside0.mk (hb); have HO166 := Aside0.mk (ho); clear HO_12 HO163; clear ho hb hg hat; obtain ⟨Ao70, co70, eo70⟩ := Kd.V_slice HO_4.out; subst eo70))
         go_ret2
         exact ⟨_, by first | rfl | (simp [errW_none, errW_some] <;> rfl) | (simp [*, errW_none, errW_some] <;> rfl), by (with_reducible repeat (first | apply Kd.N_alloc | apply Kd.N_drewN | apply Kd.N_drew)); exact HO166.out, bt⟩
        ·rw [if_neg c66] at H
         exact absurd H (by simp)
    ·rw [if_neg c23] at H
     exact absurd H (by simp)

/-! ### impl_lastOf: function 68 -/
def impl_lastOf.f (a0 : Int) (l1 : List (List Int)) (a2 : Bool) : Option (Int) := if a2 = true then (if 0 ≤ (wrap64 ((l1.length : Int) - 1)) then (if (wrap64 ((l1.length : Int) - 1)) < (l1.length : Int) then ((impl_Digest.f a0 (rd_L1 l1 (wrap64 ((l1.length : Int) - 1)))).bind fun t195 => (some t195)) else (none)) else (none)) else (some (-1))
set_option maxHeartbeats 8000000 in
set_option maxRecDepth 100000 in
theorem impl_lastOf.calls (a0 : Int) (A1 : Option Addr) (c1 : Nat) (l1 : List (List Int)) (a2 : Bool) (r : Int) (w : World) (hr1 : Kd.C (Kd.slice 5 (Kd.int .u8)) w A1 l1.length l1) (hc1 : l1.length ≤ c1) (h : impl_lastOf.f a0 l1 a2 = some r) :
  Calls Try.prog 68 #[.int .i64 a0, .slice A1 l1.length c1, .bool a2] w fun e w' => e = .returned (.int .i64 r) ∧ Below w.heap.size w w' := by
 have HR1 := Aside0.mk hr1
 have HC1 := Aside0.mk hc1
 clear hr1 hc1
 have HB := Aside0.mk (Below.refl w.heap.size w)
 have H : (if a2 = true then (if 0 ≤ (wrap64 ((l1.length : Int) - 1)) then (if (wrap64 ((l1.length : Int) - 1)) < (l1.length : Int) then ((impl_Digest.f a0 (rd_L1 l1 (wrap64 ((l1.length : Int) - 1)))).bind fun t195 => (some t195)) else (none)) else (none)) else (some (-1))) = some r := h
 clear h
 by_cases c4 : a2 = true
 ·subst c4
  rw [if_pos rfl] at H
  obtain ⟨ji5, hji5⟩ : ∃ j_ : Int, (wrap64 ((l1.length : Int) - 1)) = j_ := ⟨_, rfl⟩
  replace H : (if 0 ≤ (ji5) then (if (ji5) < (l1.length : Int) then ((impl_Digest.f a0 (rd_L1 l1 (ji5))).bind fun t195 => (some t195)) else (none)) else (none)) = some r := by first | (rw [hji5] at H; exact H) | (simp only [hji5] at H ⊢; exact H)
  have hji5w : (IntKind.i64.wrap ((l1.length : Int) - 1)) = ji5 := (i64_w _).trans hji5
  by_cases c6 : 0 ≤ (ji5)
  ·rw [if_pos c6] at H
   have c6b0 : decide (0 ≤ (ji5)) = true := decide_eq_true c6
   clear c6
   by_cases c7 : (ji5) < (l1.length : Int)
   ·rw [if_pos c7] at H
    have c7b0 : decide ((ji5) < (l1.length : Int)) = true := decide_eq_true c7
    clear c7
    replace H := Option.bind_eq_some_iff.mp H
    obtain ⟨t195, A80, H⟩ := H
    (try dsimp -simprocs only at H)
    have A8 := Aside0.mk A80
    clear A80
    obtain rfl := Option.some.inj H
    have p194 : 0 ≤ ((ji5) : Int) := of_decide_eq_true asm
    have q194 : (ji5) < (l1.length : Int) := of_decide_eq_true asm
    obtain ⟨ad194, A194_0, c194_0, e194, hx194_0, hl194_0, hi194_0⟩ := at_L1 HR1.out (ji5) p194 q194
    cases e194
    have HR194_0 := Aside0.mk hi194_0
    have HC194_0 := Aside0.mk hl194_0
    clear hi194_0 hl194_0
    replace p194 := eq_true p194
    replace q194 := eq_true q194
    go_enter Try.func68, Try.ntmps68
    go_wp2_with (first | ((with_reducible refine gate_callee (f := 29) rfl ?_); refine goesL_ (some 16) rfl rfl Try.func29 (by kernel_rfl) rfl #[.int .i64 a0, .slice A194_0 (rd_L1 l1 (ji5)).length c194_0] rfl (by (try simp only [List.map_toArray, List.map_cons, List.map_nil]); first | done | (simp only [hji5]; rfl) | rfl | (simp only [List.length_drop, List.length_take]; rfl)) ?_; (with_reducible refine (impl_Digest.calls a0 _ _ (rd_L1 l1 (ji5)) t195 _ ?side1 ?side2 A8.out).mono ?_); (case side1 => exact cv (HR194_0.out)); (case side2 => exact HC194_0.out); rintro e w9 ⟨rfl, hb⟩; refine ⟨_, rfl, ?_⟩; replace HB := Aside0.mk (below_step (bt) hb); (try clear hb); (try clear hb2); (try clear hk); (try clear hi)))
    go_ret
    exact ⟨by first | rfl | (simp [errW_none, errW_some] <;> rfl) | (simp only [← hji5]; first | rfl | (simp [errW_none, errW_some] <;> rfl)) | (simp [*, errW_none, errW_some] <;> rfl), bt⟩
   ·rw [if_neg c7] at H
    exact absurd H (by simp)
  ·rw [if_neg c6] at H
   exact absurd H (by simp)
 ·replace c4 := Bool.eq_false_iff.mpr c4
  subst c4
  rw [if_neg (show ¬ (false = true) by decide)] at H
  obtain rfl := Option.some.inj H
  go_enter Try.func68, Try.ntmps68
  go_wp2
  go_ret
  exact ⟨by first | rfl | (simp [errW_none, errW_some] <;> rfl) | (simp [*, errW_none, errW_some] <;> rfl), bt⟩

/-! ### impl_RootFrom: function 24 -/
def impl_RootFrom.f (k : Nat) (a0 : Int) (a1 : Int) (a2 : Int) (l3 : List Int) (l4 : List Int) : Option (Int) := (impl_climb.f k a0 a1 a2 l3 l4).bind fun bt196 => ((impl_lastOf.f a0 bt196.1 bt196.2).bind fun t200 => (some t200))
set_option maxHeartbeats 8000000 in
set_option maxRecDepth 100000 in
theorem impl_RootFrom.calls (k : Nat) (a0 : Int) (a1 : Int) (a2 : Int) (A3 : Option Addr) (c3 : Nat) (l3 : List Int) (A4 : Option Addr) (c4 : Nat) (l4 : List Int) (r : Int) (w : World) (hr3 : Kd.C (Kd.int .u8) w A3 l3.length l3) (hc3 : l3.length ≤ c3) (hr4 : Kd.C (Kd.int .i64) w A4 l4.length l4) (hc4 : l4.length ≤ c4) (h : impl_RootFrom.f k a0 a1 a2 l3 l4 = some r) :
  Calls Try.prog 24 #[.int .i64 a0, .int .i64 a1, .int .i64 a2, .slice A3 l3.length c3, .slice A4 l4.length c4] w fun e w' => e = .returned (.int .i64 r) ∧ Below w.heap.size w w' := by
 have HR3 := Aside0.mk hr3
 have HC3 := Aside0.mk hc3
 clear hr3 hc3
 have HR4 := Aside0.mk hr4
 have HC4 := Aside0.mk hc4
 clear hr4 hc4
 have HB := Aside0.mk (Below.refl w.heap.size w)
 have H : ((impl_climb.f k a0 a1 a2 l3 l4).bind fun bt196 => ((impl_lastOf.f a0 bt196.1 bt196.2).bind fun t200 => (some t200))) = some r := h
 clear h
 replace H := Option.bind_eq_some_iff.mp H
 obtain ⟨⟨t196, t199⟩, A60, H⟩ := H
 (try dsimp -simprocs only at H)
 have A6 := Aside0.mk A60
 clear A60
 replace H := Option.bind_eq_some_iff.mp H
 obtain ⟨t200, A70, H⟩ := H
 (try dsimp -simprocs only at H)
 have A7 := Aside0.mk A70
 clear A70
 obtain rfl := Option.some.inj H
 go_enter Try.func24, Try.ntmps24
 go_wp2_with (first | ((with_reducible refine gate_callee (f := 67) rfl ?_); refine goesL_ (some 19) rfl rfl Try.func67 (by kernel_rfl) rfl #[.int .i64 a0, .int .i64 a1, .int .i64 a2, .slice A3 l3.length c3, .slice A4 l4.length c4] rfl av ?_; (with_reducible refine (impl_climb.calls k a0 a1 a2 (fun k_ => k_ < w.heap.size) _ _ l3 (fun k_ => k_ < w.heap.size) _ _ l4 t196 t199 _ ?side1 ?side2 A6.out).mono ?_); (case side1 => exact Kd.V_mk HC3.out (Kd.F_below (Kd.C_F (Kd.heap_int .u8) HR3.out) (bt))); (case side2 => exact Kd.V_mk HC4.out (Kd.F_below (Kd.C_F (Kd.heap_int .i64) HR4.out) (bt))); rintro e w8 ⟨v197, rfl, ho0, hb⟩; refine ⟨_, rfl, ?_⟩; have HO198 := Aside0.mk (Kd.N_lower (Kd.N_mono (ok' := fun k_ => True) ho0 (fun k_ hk_ => trivial)) (below_size (bt))); replace HB := Aside0.mk (below_step (bt) hb); (try clear hb); (try clear hb2); (try clear hk); (try clear hi); (try clear ho0); obtain ⟨Ao9, co9, eo9⟩ := Kd.N_slice HO198.out; subst eo9) | ((with_reducible refine gate_callee (f := 68) rfl ?_); refine goesL_ (some 25) rfl rfl Try.func68 (by kernel_rfl) rfl #[.int .i64 a0, .slice Ao9 t196.length co9, .bool t199] rfl av ?_; (with_reducible refine (impl_lastOf.calls a0 _ _ t196 t199 t200 _ ?side1 ?side2 A7.out).mono ?_); (case side1 => exact cv ((Kd.N_reads' HO198.out).2.2)); (case side2 => exact (Kd.N_reads' HO198.out).2.1); rintro e w10 ⟨rfl, hb⟩; refine ⟨_, rfl, ?_⟩; replace HO198 := Aside0.mk (Kd.N_below (mv HO198.out) hb); replace HB := Aside0.mk (below_step (bt) hb); (try clear hb); (try clear hb2); (try clear hk); (try clear hi)))
 go_ret
 exact ⟨by first | rfl | (simp [errW_none, errW_some] <;> rfl) | (simp [*, errW_none, errW_some] <;> rfl), bt⟩

/-! ### impl_Proven: function 17 -/
def impl_Proven.f (k : Nat) (a0 : Int) (a1 : Int) (a2 : Int) (a3 : Int) (l4 : List Int) (l5 : List Int) : Option (Bool) := if a1 = (-1) then (some false) else ((impl_RootFrom.f k a0 a2 a3 l4 l5).bind fun t201 => (some (t201 == a1)))
set_option maxHeartbeats 8000000 in
set_option maxRecDepth 100000 in
theorem impl_Proven.calls (k : Nat) (a0 : Int) (a1 : Int) (a2 : Int) (a3 : Int) (A4 : Option Addr) (c4 : Nat) (l4 : List Int) (A5 : Option Addr) (c5 : Nat) (l5 : List Int) (r : Bool) (w : World) (hr4 : Kd.C (Kd.int .u8) w A4 l4.length l4) (hc4 : l4.length ≤ c4) (hr5 : Kd.C (Kd.int .i64) w A5 l5.length l5) (hc5 : l5.length ≤ c5) (h : impl_Proven.f k a0 a1 a2 a3 l4 l5 = some r) :
  Calls Try.prog 17 #[.int .i64 a0, .int .i64 a1, .int .i64 a2, .int .i64 a3, .slice A4 l4.length c4, .slice A5 l5.length c5] w fun e w' => e = .returned (.bool r) ∧ Below w.heap.size w w' := by
 have HR4 := Aside0.mk hr4
 have HC4 := Aside0.mk hc4
 clear hr4 hc4
 have HR5 := Aside0.mk hr5
 have HC5 := Aside0.mk hc5
 clear hr5 hc5
 have HB := Aside0.mk (Below.refl w.heap.size w)
 have H : (if a1 = (-1) then (some false) else ((impl_RootFrom.f k a0 a2 a3 l4 l5).bind fun t201 => (some (t201 == a1)))) = some r := h
 clear h
 by_cases c7 : a1 = (-1)
 ·rw [if_pos c7] at H
  have c7b0 : (a1 == (-1)) = true := beq_iff_eq.mpr c7
  have c7b1 : (a1 != (-1)) = false := bne_eq_false_iff_eq.mpr c7
  clear c7
  obtain rfl := Option.some.inj H
  go_enter Try.func17, Try.ntmps17
  go_wp2
  go_ret
  exact ⟨by first | rfl | (simp [errW_none, errW_some] <;> rfl) | (simp [*, errW_none, errW_some] <;> rfl), bt⟩
 ·rw [if_neg c7] at H
  have c7b0 : (a1 == (-1)) = false := beq_eq_false_iff_ne.mpr c7
  have c7b1 : (a1 != (-1)) = true := bne_iff_ne.mpr c7
  replace H := Option.bind_eq_some_iff.mp H
  obtain ⟨t201, A80, H⟩ := H
  (try dsimp -simprocs only at H)
  have A8 := Aside0.mk A80
  clear A80
  obtain rfl := Option.some.inj H
  go_enter Try.func17, Try.ntmps17
  go_wp2_with (first | (go_at_call 24; (with_reducible refine (impl_RootFrom.calls k a0 a2 a3 _ _ l4 _ _ l5 t201 _ ?side1 ?side2 ?side3 ?side4 A8.out).mono ?_); (case side1 => exact cv (HR4.out)); (case side2 => exact HC4.out); (case side3 => exact cv (HR5.out)); (case side4 => exact HC5.out); rintro e w9 ⟨rfl, hb⟩; replace HB := Aside0.mk (below_step (bt) hb); (try clear hb); (try clear hb2); (try clear hk); (try clear hi)))
  go_ret
  exact ⟨by first | rfl | (simp [errW_none, errW_some] <;> rfl) | (simp [*, errW_none, errW_some] <;> rfl), bt⟩

/-! ### laws_big: function 20 -/
def laws_big.f (l0 : List Int) : Option (Bool) := some (decide ((l0.length : Int) > 1048576))
set_option maxHeartbeats 8000000 in
set_option maxRecDepth 100000 in
theorem laws_big.calls (A0 : Option Addr) (c0 : Nat) (l0 : List Int) (r : Bool) (w : World) (hr0 : Kd.C (Kd.int .u8) w A0 l0.length l0) (hc0 : l0.length ≤ c0) (h : laws_big.f l0 = some r) :
  Calls Try.prog 20 #[.slice A0 l0.length c0] w fun e w' => e = .returned (.bool r) ∧ Drawn0 w w' := by
 have HR0 := Aside0.mk hr0
 have HC0 := Aside0.mk hc0
 clear hr0 hc0
 have H : (some (decide ((l0.length : Int) > 1048576))) = some r := h
 clear h
 obtain rfl := Option.some.inj H
 go_enter Try.func20, Try.ntmps20
 go_wp2
 go_ret
 exact ⟨by first | rfl | (simp; done) | (simp [*]; done), by repeat (first | exact Drawn0.refl _ | apply Drawn0.step)⟩

/-- A state of type 94 at block g of W; what its slices lead to came in by w0. -/
def IsS94 (w0 W : World) (g : Nat) (f0 : List Int) (f1 : Int) (f2 : Int) : Prop := ∃ A0 c0, W.heap[g]? = some (.cells #[.slice A0 f0.length c0, .int .i64 f1, .int .i64 f2] 94 (0, 0)) ∧ w0.heap.size ≤ g ∧ Kd.C (Kd.int .u8) w0 A0 f0.length f0
theorem IsS94.grown {w0 W : World} {g : Nat} {f0 : List Int} {f1 : Int} {f2 : Int} {W1 : World} {row : Option Nat} (h : IsS94 w0 W g f0 f1 f2) (hw : W.grownBy W1 row) (hne : some g ≠ row) : IsS94 w0 W1 g f0 f1 f2 := by
 obtain ⟨A0, c0, hb, hg, hr0⟩ := h
 exact ⟨A0, c0, blk_grown hb hw hne, hg, hr0⟩
theorem IsS94.own_neN {w0 W : World} {g : Nat} {f0 : List Int} {f1 : Int} {f2 : Int} {α : Type} {d : Kd α} {e : Nat} {base : Nat} {ok : Nat → Prop} {v : Value} {xs : List α} (h : IsS94 w0 W g f0 f1 f2) (ho : Kd.N d e W base ok v xs) (ht : e ≠ 94) : some g ≠ v.ownBlock := by
 obtain ⟨A0, c0, hb, hg, hr0⟩ := h
 exact Kd.N_ne ho hb ht
theorem IsS94.fresh {w0 W : World} {g : Nat} {f0 : List Int} {f1 : Int} {f2 : Int} (h : IsS94 w0 W g f0 f1 f2) : ∀ k, W.heap.size ≤ k → k ≠ g := by
 obtain ⟨A0, c0, hb, hg, hr0⟩ := h
 exact Kd.freshB hb
theorem IsS94.kept {w0 W : World} {g : Nat} {f0 : List Int} {f1 : Int} {f2 : Int} {W1 : World} {S : Nat → Prop} (h : IsS94 w0 W g f0 f1 f2) (hk : Kept W W1 S) (hne : ¬ S g) : IsS94 w0 W1 g f0 f1 f2 := by
 obtain ⟨A0, c0, hb, hg, hr0⟩ := h
 exact ⟨A0, c0, blk_kept hb hk hne, hg, hr0⟩
theorem IsS94.below {w0 W : World} {g : Nat} {f0 : List Int} {f1 : Int} {f2 : Int} {W1 : World} (h : IsS94 w0 W g f0 f1 f2) (hw : Below W.heap.size W W1) : IsS94 w0 W1 g f0 f1 f2 := h.grown (grown_of_below hw none) (by simp)
theorem IsS94.alloc {w0 W : World} {g : Nat} {f0 : List Int} {f1 : Int} {f2 : Int} (h : IsS94 w0 W g f0 f1 f2) (o : Obj) : IsS94 w0 (W.alloc o) g f0 f1 f2 := h.below (below_alloc (Below.refl _ _) o)
theorem IsS94.drewN {w0 W : World} {g : Nat} {f0 : List Int} {f1 : Int} {f2 : Int} (h : IsS94 w0 W g f0 f1 f2) (m : Nat) : IsS94 w0 (W.drewN m) g f0 f1 f2 := h
theorem IsS94.drew {w0 W : World} {g : Nat} {f0 : List Int} {f1 : Int} {f2 : Int} (h : IsS94 w0 W g f0 f1 f2) : IsS94 w0 W.drew g f0 f1 f2 := h
theorem IsS94.at_ {w0 W : World} {g : Nat} {f0 : List Int} {f1 : Int} {f2 : Int} {w' : World} {m : Nat} (hq : W.drewN m = w') (h : IsS94 w0 W g f0 f1 f2) : IsS94 w0 w' g f0 f1 f2 := by subst hq; exact IsS94.drewN h m
theorem IsS94.apart {w0 W : World} {g : Nat} {f0 : List Int} {f1 : Int} {f2 : Int} {α : Type} {d : Kd α} {e : Nat} {base : Nat} {ok : Nat → Prop} {v : Value} {xs : List α} (h : IsS94 w0 W g f0 f1 f2) (ho : d.R e W base ok v xs) (ht : ∀ q, q ∈ e :: d.E → q ≠ 94) : d.R e W base (fun k => ok k ∧ k ≠ g) v xs := by
 obtain ⟨A0, c0, hb, hg, hr0⟩ := h
 exact Kd.R_types ho hb ht
theorem IsS94.own_ne {w0 W : World} {g : Nat} {f0 : List Int} {f1 : Int} {f2 : Int} {α : Type} {d : Kd α} {e : Nat} {base : Nat} {ok : Nat → Prop} {v : Value} {xs : List α} (h : IsS94 w0 W g f0 f1 f2) (ho : d.R e W base ok v xs) (ht : e ≠ 94) : some g ≠ v.ownBlock := by
 obtain ⟨A0, c0, hb, hg, hr0⟩ := h
 exact Kd.R_ne ho hb ht
theorem IsS94.apartQ {w0 W : World} {g : Nat} {f0 : List Int} {f1 : Int} {f2 : Int} {α : Type} {d : Kd α} {e : Nat} {base : Nat} {ok : Nat → Prop} {v : Value} {xs : List α} (h : IsS94 w0 W g f0 f1 f2) (ho : d.Q e W base ok v xs) (ht : ∀ q, q ∈ e :: d.E → q ≠ 94) : d.Q e W base (fun k => ok k ∧ k ≠ g) v xs := by
 obtain ⟨A0, c0, hb, hg, hr0⟩ := h
 exact Kd.Q_types ho hb ht
theorem IsS94.own_neQ {w0 W : World} {g : Nat} {f0 : List Int} {f1 : Int} {f2 : Int} {α : Type} {d : Kd α} {e : Nat} {base : Nat} {ok : Nat → Prop} {v : Value} {xs : List α} (h : IsS94 w0 W g f0 f1 f2) (ho : d.Q e W base ok v xs) (ht : e ≠ 94) : some g ≠ v.ownBlock := by
 obtain ⟨A0, c0, hb, hg, hr0⟩ := h
 exact Kd.Q_ne ho hb ht
theorem IsS94.apartS {w0 W : World} {g : Nat} {f0 : List Int} {f1 : Int} {f2 : Int} {α : Type} {d : Kd α} {e : Nat} {base : Nat} {ok : Nat → Prop} {v : Value} {xs : List α} (h : IsS94 w0 W g f0 f1 f2) (ho : d.S e W base ok v xs) (ht : ∀ q, q ∈ e :: d.E → q ≠ 94) : d.S e W base (fun k => ok k ∧ k ≠ g) v xs := by
 obtain ⟨A0, c0, hb, hg, hr0⟩ := h
 exact Kd.S_types ho hb ht
theorem IsS94.own_neS {w0 W : World} {g : Nat} {f0 : List Int} {f1 : Int} {f2 : Int} {α : Type} {d : Kd α} {e : Nat} {base : Nat} {ok : Nat → Prop} {v : Value} {xs : List α} (h : IsS94 w0 W g f0 f1 f2) (ho : d.S e W base ok v xs) (ht : e ≠ 94) : some g ≠ v.ownBlock := by
 obtain ⟨A0, c0, hb, hg, hr0⟩ := h
 exact Kd.S_ne ho hb ht
theorem IsS94.lt {w0 W : World} {g : Nat} {f0 : List Int} {f1 : Int} {f2 : Int} (h : IsS94 w0 W g f0 f1 f2) : g < W.heap.size := by
 obtain ⟨A0, c0, hb, hg, hr0⟩ := h
 exact blk_lt hb
theorem IsS94.ge {w0 W : World} {g : Nat} {f0 : List Int} {f1 : Int} {f2 : Int} (h : IsS94 w0 W g f0 f1 f2) : w0.heap.size ≤ g := by
 obtain ⟨A0, c0, hb, hg, hr0⟩ := h
 exact hg
theorem IsS94.ne_blk {w0 W : World} {g : Nat} {f0 : List Int} {f1 : Int} {f2 : Int} {a : Nat} {cs : Array Value} {t : TypeId} {fr : Nat × Nat} (h : IsS94 w0 W g f0 f1 f2) (hb2 : W.heap[a]? = some (.cells cs t fr)) (ht : t ≠ 94) : g ≠ a := by
 obtain ⟨A0, c0, hb, hg, hr0⟩ := h
 rintro rfl
 rw [hb] at hb2
 injection hb2 with hb2
 injection hb2 with _ ht2
 exact ht ht2.symm
theorem IsS94.far {w0 W : World} {g : Nat} {f0 : List Int} {f1 : Int} {f2 : Int} {p : Addr} (h : IsS94 w0 W g f0 f1 f2) (hne : g ≠ p.block) (u : Value) : IsS94 w0 (W.setCell p u) g f0 f1 f2 := by
 obtain ⟨A0, c0, hb, hg, hr0⟩ := h
 exact ⟨A0, c0, blk_far hb hne u, hg, hr0⟩
theorem cellS94_0 {W : World} {g : Nat} {A0 : Option Addr} {c0 : Nat} {f0 : List Int} {f1 : Int} {f2 : Int} (h : W.heap[g]? = some (.cells #[.slice A0 f0.length c0, .int .i64 f1, .int .i64 f2] 94 (0, 0))) : W.cell? ⟨g, 0, none⟩ = some (.slice A0 f0.length c0) := (blk_cell h 0).trans rfl
theorem cellS94_1 {W : World} {g : Nat} {A0 : Option Addr} {c0 : Nat} {f0 : List Int} {f1 : Int} {f2 : Int} (h : W.heap[g]? = some (.cells #[.slice A0 f0.length c0, .int .i64 f1, .int .i64 f2] 94 (0, 0))) : W.cell? ⟨g, 1, none⟩ = some (.int .i64 f1) := (blk_cell h 1).trans rfl
theorem IsS94.set_1 {w0 W : World} {g : Nat} {f0 : List Int} {f1 : Int} {f2 : Int} (h : IsS94 w0 W g f0 f1 f2) (x : Int) : IsS94 w0 (W.setCell ⟨g, 1, none⟩ (.int .i64 x)) g f0 x f2 := by
 obtain ⟨A0, c0, hb, hg, hr0⟩ := h
 exact ⟨A0, c0, by simpa using blk_set hb 1 (.int .i64 x), hg, hr0⟩
theorem cellS94_2 {W : World} {g : Nat} {A0 : Option Addr} {c0 : Nat} {f0 : List Int} {f1 : Int} {f2 : Int} (h : W.heap[g]? = some (.cells #[.slice A0 f0.length c0, .int .i64 f1, .int .i64 f2] 94 (0, 0))) : W.cell? ⟨g, 2, none⟩ = some (.int .i64 f2) := (blk_cell h 2).trans rfl
theorem IsS94.set_2 {w0 W : World} {g : Nat} {f0 : List Int} {f1 : Int} {f2 : Int} (h : IsS94 w0 W g f0 f1 f2) (x : Int) : IsS94 w0 (W.setCell ⟨g, 2, none⟩ (.int .i64 x)) g f0 f1 x := by
 obtain ⟨A0, c0, hb, hg, hr0⟩ := h
 exact ⟨A0, c0, by simpa using blk_set hb 2 (.int .i64 x), hg, hr0⟩
theorem IsS94.new (w0 W : World) (A0 : Option Addr) (c0 : Nat) (f0 : List Int) (f1 : Int) (f2 : Int) (hB : Below w0.heap.size w0 W) (hr0 : Kd.C (Kd.int .u8) w0 A0 f0.length f0) : IsS94 w0 (W.alloc (.cells #[.slice A0 f0.length c0, .int .i64 f1, .int .i64 f2] 94)) W.heap.size f0 f1 f2 := ⟨A0, c0, by simpa using heap_alloc_new W _, hB.size, hr0⟩

/-! ### spec_l1New: function 59 -/
def spec_l1New.l0 : Nat → List Int → Int → Int → Option (List Int × Int × Int)
 | 0, _, _, _ => none
 | k + 1, x0, x3, x4 => if x4 < (x0.length : Int) then (if x4 < 4000 then (if 0 ≤ x4 then (spec_l1New.l0 k x0 (Go.bits .and .i64 (wrap64 ((wrap64 ((wrap64 (x3 * 131)) + (wrap64 (rd x0 x4)))) + 7)) 1073741823) (wrap64 (x4 + 1))) else (none)) else (some (x0, 0, x3))) else (some (x0, 0, x3))
def spec_l1New.f (k : Nat) (l0 : List Int) : Option (List Int × Int × Int) := spec_l1New.l0 k l0 (wrap64 (88088 + (l0.length : Int))) 0
set_option maxHeartbeats 8000000 in
set_option maxRecDepth 100000 in
theorem spec_l1New.calls (k : Nat) (A0 : Option Addr) (c0 : Nat) (l0 : List Int) (r1 : List Int) (r2 : Int) (r3 : Int) (w0 w : World) (hB : Below w0.heap.size w0 w) (hr0 : Kd.C (Kd.int .u8) w0 A0 l0.length l0) (hc0 : l0.length ≤ c0) (h : spec_l1New.f k l0 = some (r1, r2, r3)) :
  Calls Try.prog 59 #[.slice A0 l0.length c0] w fun e w' => ∃ g_ : Nat, e = .returned (.pointer (some ⟨g_, 0, none⟩)) ∧ IsS94 w0 w' g_ r1 r2 r3 ∧ Below w0.heap.size w0 w' ∧ Below w.heap.size w w' := by
 have hu94 := Try.underlying94
 have HR0 := Aside0.mk hr0
 have HC0 := Aside0.mk hc0
 clear hr0 hc0
 have HBW := Aside0.mk (Below.refl w.heap.size w)
 have HW0 := Aside0.mk hB.size
 have HB := Aside0.mk hB
 clear hB
 have H : (spec_l1New.l0 k l0 (wrap64 (88088 + (l0.length : Int))) 0) = some (r1, r2, r3) := h
 clear h
 have H' := Aside0.mk H
 clear H
 go_enter Try.func59, Try.ntmps59
 go_wp2
 go_loopg [3, 4] k (fun kq v3 v4 w' => ∃ (x3_1 : Int) (x4_1 : Int), v3 = .int .i64 x3_1 ∧ v4 = .int .i64 x4_1 ∧ Aside0 (spec_l1New.l0 kq l0 x3_1 x4_1 = some (r1, r2, r3)) ∧ Aside0 (kq ≤ k) ∧ Aside0 (Below w0.heap.size w0 w') ∧ Aside0 (Below w.heap.size w w'))
 case atStart => exact ⟨(wrap64 (88088 + (l0.length : Int))), (0), (by first | rfl | (simp; done) | (simp [*]; done)), (by first | rfl | (simp; done) | (simp [*]; done)), H', ⟨Nat.le_refl _⟩, ⟨bt⟩, HBW⟩
 case round =>
  clear H'
  obtain ⟨x3_1, x4_1, rfl, rfl, HA, HK1, HB, HBW⟩ := hrel
  cases gk with
  | zero => exact absurd HA.out (by simp [spec_l1New.l0])
  | succ k1 =>
   have H := HA.out
   clear HA
   simp only [spec_l1New.l0] at H
   by_cases c2 : x4_1 < (l0.length : Int)
   ·rw [if_pos c2] at H
    have c2b0 : decide (x4_1 < (l0.length : Int)) = true := decide_eq_true c2
    clear c2
    by_cases c3 : x4_1 < 4000
    ·rw [if_pos c3] at H
     have c3b0 : decide (x4_1 < 4000) = true := decide_eq_true c3
     clear c3
     by_cases c4 : 0 ≤ x4_1
     ·rw [if_pos c4] at H
      have c4b0 : decide (0 ≤ x4_1) = true := decide_eq_true c4
      clear c4
      have H' := Aside0.mk H
      clear H
      have p202 : 0 ≤ (x4_1 : Int) := of_decide_eq_true asm
      have q202 : x4_1 < (l0.length : Int) := of_decide_eq_true asm
      obtain ⟨ad202, e202, hx202_0⟩ := Kd.at_int HR0.out x4_1 p202 q202
      cases e202
      replace hx202_0 := pw_cell_below HB.out hx202_0
      replace p202 := eq_true p202
      replace q202 := eq_true q202
      go_wp2
      go_roundg k1
      case measure => have := HK1.out; omega
      case rel => exact ⟨(Go.bits .and .i64 (wrap64 ((wrap64 ((wrap64 (x3_1 * 131)) + (wrap64 (rd l0 x4_1)))) + 7)) 1073741823), (wrap64 (x4_1 + 1)), (by first | rfl | (simp; done) | (simp [*]; done)), (by first | rfl | (simp; done) | (simp [*]; done)), H', ⟨by have := HK1.out; omega⟩, ⟨bt⟩, ⟨by repeat (first | (with_reducible first | exact HBW.out | apply below_alloc | apply pw_below_drewN | apply below_drew1) | exact HBW.out)⟩⟩
     ·rw [if_neg c4] at H
      exact absurd H (by simp)
    ·rw [if_neg c3] at H
     have c3b0 : decide (x4_1 < 4000) = false := decide_eq_false c3
     clear c3
     simp only [Option.some.injEq, Prod.mk.injEq] at H
     obtain ⟨rfl, rfl, rfl⟩ := H
     go_wp2_with (first | ((with_reducible refine gate_dst (N := 31) rfl ?_); refine box_event ?hg (N := 31) ?hd (cs := #[.slice A0 l0.length c0, .int .i64 0, .int .i64 x3_1]) (t := 94) ?hr ?_; (case hd => rfl); (case hg => rfl); (case hr => first | (go_simp; done) | (go_simp; rfl)); intro gb203 hg w5 hbox hb; replace HB := Aside0.mk (below_step (bt) hb); have BK203 := Aside0.mk (hbox); have GW203 := Aside0.mk ((by rw [hg]; exact (below_size (by repeat (first | (with_reducible first | exact HBW.out | apply below_alloc | apply pw_below_drewN | apply below_drew1) | exact HBW.out))) : w.heap.size ≤ gb203)); have GE203 := Aside0.mk ((Nat.le_trans HW0.out (by rw [hg]; exact (below_size (by repeat (first | (with_reducible first | exact HBW.out | apply below_alloc | apply pw_below_drewN | apply below_drew1) | exact HBW.out))) : w.heap.size ≤ gb203) : w0.heap.size ≤ gb203)); replace HBW := Aside0.mk (below_step HBW.out hb); clear hb hbox hg))
     go_ret
     exact ⟨_, rfl, (show IsS94 w0 _ gb203 l0 0 x3_1 from ⟨_, _, by (with_reducible repeat (first | refine blk_drewN ?_ _ | refine blk_drew ?_ | refine blk_alloc ?_ _)); exact BK203.out, GE203.out, HR0.out⟩), b1 GE203.out, by repeat (first | (with_reducible first | exact HBW.out | apply below_alloc | apply pw_below_drewN | apply below_drew1 | refine below_set ?_ GW203.out) | exact HBW.out)⟩
   ·rw [if_neg c2] at H
    have c2b0 : decide (x4_1 < (l0.length : Int)) = false := decide_eq_false c2
    clear c2
    simp only [Option.some.injEq, Prod.mk.injEq] at H
    obtain ⟨rfl, rfl, rfl⟩ := H
    go_wp2_with (first | ((with_reducible refine gate_dst (N := 31) rfl ?_); refine box_event ?hg (N := 31) ?hd (cs := #[.slice A0 l0.length c0, .int .i64 0, .int .i64 x3_1]) (t := 94) ?hr ?_; (case hd => rfl); (case hg => rfl); (case hr => first | (go_simp; done) | (go_simp; rfl)); intro gb204 hg w6 hbox hb; replace HB := Aside0.mk (below_step (bt) hb); have BK204 := Aside0.mk (hbox); have GW204 := Aside0.mk ((by rw [hg]; exact (below_size (by repeat (first | (with_reducible first | exact HBW.out | apply below_alloc | apply pw_below_drewN | apply below_drew1) | exact HBW.out))) : w.heap.size ≤ gb204)); have GE204 := Aside0.mk ((Nat.le_trans HW0.out (by rw [hg]; exact (below_size (by repeat (first | (with_reducible first | exact HBW.out | apply below_alloc | apply pw_below_drewN | apply below_drew1) | exact HBW.out))) : w.heap.size ≤ gb204) : w0.heap.size ≤ gb204)); replace HBW := Aside0.mk (below_step HBW.out hb); clear hb hbox hg))
    go_ret
    exact ⟨_, rfl, (show IsS94 w0 _ gb204 l0 0 x3_1 from ⟨_, _, by (with_reducible repeat (first | refine blk_drewN ?_ _ | refine blk_drew ?_ | refine blk_alloc ?_ _)); exact BK204.out, GE204.out, HR0.out⟩), b1 GE204.out, by repeat (first | (with_reducible first | exact HBW.out | apply below_alloc | apply pw_below_drewN | apply below_drew1 | refine below_set ?_ GW204.out) | exact HBW.out)⟩

end Go.Proofs.Ytaacidhgnappdaa.PFnProven
