-- Written by a program of this workplace (wip/mp.py) out of the translation.
import Derived.Test.YthaoloacbbohlaaPFnSolvedx0
import Derived.Test.YthaoloacbbohlaaPFnSolvedx2
import Derived.Test.YthaoloacbbohlaaPFnSolvedx3
import Derived.Test.YthaoloacbbohlaaPFnSolvedx4
import Derived.Test.YthaoloacbbohlaaPFnSolvedx5
import Derived.Test.YthaoloacbbohlaaPFnSolvedx6
namespace Go.Proofs.Ythaoloacbbohlaa.PFnSolved
open Go.RowKit Go.Proofs.YthaoloacbbohlaaW.PrintWords Go.Proofs.YthaoloacbbohlaaW.PrintLast Go.Proofs.YthaoloacbbohlaaW.PrintMore Go.Proofs.Ythaoloacbbohlaa.Slim
attribute [local go_sem] max2_int min2_int max_two min_two max_three min_three max_four min_four   -- for this text's walks alone
set_option linter.unusedVariables false
set_option linter.unusedSimpArgs false

/-! ### laws_FnSolved: function 7 -/
mutual
def laws_FnSolved.j0 : Nat → List Int → List (List Int) → List Int → List Int → Bool → Bool → Option (Bool)
 | 0, _, _, _, _, _, _ => none
 | k + 1, x0, x3, x4, x5, x6, x48 => if x48 = true then (some false) else (laws_FnSolved.l0 k x0 x3 x4 x5 x6 0)
def laws_FnSolved.l0 : Nat → List Int → List (List Int) → List Int → List Int → Bool → Int → Option (Bool)
 | 0, _, _, _, _, _, _ => none
 | k + 1, x0, x3, x4, x5, x6, x9 => if x9 < (x3.length : Int) then (laws_FnSolved.j2 k x0 x3 x4 x5 x6 x9 x6) else (laws_FnSolved.j2 k x0 x3 x4 x5 x6 x9 false)
def laws_FnSolved.j2 : Nat → List Int → List (List Int) → List Int → List Int → Bool → Int → Bool → Option (Bool)
 | 0, _, _, _, _, _, _, _ => none
 | k + 1, x0, x3, x4, x5, x6, x9, x55 => if x55 = true then (if 0 ≤ x9 then (if x9 < (x3.length : Int) then ((impl_GfDot.f k (rd_L2 x3 x9) x5).bind fun bt251 => (if bt251.2 = true then (if x9 < (x4.length : Int) then (if bt251.1 = (rd x4 x9) then (laws_FnSolved.l0 k x0 x3 x4 x5 x6 (wrap64 (x9 + 1))) else (some false)) else (none)) else (some false))) else (none)) else (none)) else ((laws_at.f x0 0).bind fun t254 => ((impl_GfLog.f k ((t254) % 256)).bind fun bt255 => ((impl_GfSolve.f k (([(([2, 0] : List Int)), (([0, 1] : List Int))] : List (List Int))) (([4, 9] : List Int))).bind fun bt269 => (if (bt255.2 == (((t254) % 256) != 0)) = true then (if bt255.2 = true then ((impl_GfPow.f k 2 bt255.1).bind fun t273 => (if t273 = ((t254) % 256) then (if bt255.1 < 255 then (if bt269.2 = true then (if 0 < (bt269.1.length : Int) then (if (rd bt269.1 0) = 2 then (if 1 < (bt269.1.length : Int) then (some ((rd bt269.1 1) == 9)) else (none)) else (some false)) else (none)) else (some false)) else (some false)) else (some false))) else (if bt255.1 = (-1) then (if bt269.2 = true then (if 0 < (bt269.1.length : Int) then (if (rd bt269.1 0) = 2 then (if 1 < (bt269.1.length : Int) then (some ((rd bt269.1 1) == 9)) else (none)) else (some false)) else (none)) else (some false)) else (some false))) else (some false)))))
end
def laws_FnSolved.f (k : Nat) (l0 : List Int) : Option (Bool) := (laws_big.f l0).bind fun t235 => (if t235 = true then (some true) else ((spec_DrawGfSolve.f k l0).bind fun bt236 => ((impl_GfSolve.f k bt236.1 bt236.2).bind fun bt242 => ((spec_GfSolve.f k bt236.1 bt236.2).bind fun bt246 => (if (bt242.2 != bt246.2) = true then (laws_FnSolved.j0 k l0 bt236.1 bt236.2 bt242.1 bt242.2 true) else (if bt242.2 = true then (laws_FnSolved.j0 k l0 bt236.1 bt236.2 bt242.1 bt242.2 ((bt242.1.length : Int) != (bt236.1.length : Int))) else (laws_FnSolved.j0 k l0 bt236.1 bt236.2 bt242.1 bt242.2 false)))))))
set_option maxHeartbeats 8000000 in
set_option maxRecDepth 100000 in
theorem laws_FnSolved.calls (k : Nat) (A0 : Option Addr) (c0 : Nat) (l0 : List Int) (r : Bool) (w : World) (hT : Aside0 (r = true)) (hr0 : Kd.C (Kd.int .u8) w A0 l0.length l0) (hc0 : l0.length ≤ c0) (h : laws_FnSolved.f k l0 = some r) :
  Calls Try.prog 7 #[.slice A0 l0.length c0] w fun e w' => e = .returned (.bool r) ∧ Below w.heap.size w w' := by
 have HR0 := Aside0.mk hr0
 have HC0 := Aside0.mk hc0
 clear hr0 hc0
 have HB := Aside0.mk (Below.refl w.heap.size w)
 have H : ((laws_big.f l0).bind fun t235 => (if t235 = true then (some true) else ((spec_DrawGfSolve.f k l0).bind fun bt236 => ((impl_GfSolve.f k bt236.1 bt236.2).bind fun bt242 => ((spec_GfSolve.f k bt236.1 bt236.2).bind fun bt246 => (if (bt242.2 != bt246.2) = true then (laws_FnSolved.j0 k l0 bt236.1 bt236.2 bt242.1 bt242.2 true) else (if bt242.2 = true then (laws_FnSolved.j0 k l0 bt236.1 bt236.2 bt242.1 bt242.2 ((bt242.1.length : Int) != (bt236.1.length : Int))) else (laws_FnSolved.j0 k l0 bt236.1 bt236.2 bt242.1 bt242.2 false)))))))) = some r := h
 clear h
 replace H := Option.bind_eq_some_iff.mp H
 obtain ⟨t235, A20, H⟩ := H
 (try dsimp -simprocs only at H)
 have A2 := Aside0.mk A20
 clear A20
 by_cases c3 : t235 = true
 ·subst c3
  rw [if_pos rfl] at H
  obtain rfl := Option.some.inj H
  go_enter Try.func7, Try.ntmps7
  go_wp2_with (first | ((with_reducible refine gate_callee (f := 29) rfl ?_); refine goesL_ (some 18) rfl rfl Try.func29 (by kernel_rfl) rfl #[.slice A0 l0.length c0] rfl av ?_; (with_reducible refine (laws_big.calls _ _ l0 true _ ?side1 ?side2 A2.out).mono ?_); (case side1 => exact cv (HR0.out)); (case side2 => exact HC0.out); rintro e w' ⟨rfl, ⟨nd, rfl⟩⟩; refine ⟨_, rfl, ?_⟩))
  go_ret
  exact ⟨by first | rfl | (simp [errW_none, errW_some] <;> rfl) | (simp [*, errW_none, errW_some] <;> rfl), bt⟩
 ·replace c3 := Bool.eq_false_iff.mpr c3
  subst c3
  rw [if_neg (show ¬ (false = true) by decide)] at H
  replace H := Option.bind_eq_some_iff.mp H
  obtain ⟨⟨t236, t237⟩, A40, H⟩ := H
  (try dsimp -simprocs only at H)
  have A4 := Aside0.mk A40
  clear A40
  replace H := Option.bind_eq_some_iff.mp H
  obtain ⟨⟨t242, t243⟩, A50, H⟩ := H
  (try dsimp -simprocs only at H)
  have A5 := Aside0.mk A50
  clear A50
  replace H := Option.bind_eq_some_iff.mp H
  obtain ⟨⟨t246, t247⟩, A60, H⟩ := H
  (try dsimp -simprocs only at H)
  have A6 := Aside0.mk A60
  clear A60
  have HC7 := Aside0.mk H
  clear H
  go_enter Try.func7, Try.ntmps7
  go_upto_region 6 with (first | ((with_reducible refine gate_callee (f := 29) rfl ?_); refine goesL_ (some 18) rfl rfl Try.func29 (by kernel_rfl) rfl #[.slice A0 l0.length c0] rfl av ?_; (with_reducible refine (laws_big.calls _ _ l0 false _ ?side1 ?side2 A2.out).mono ?_); (case side1 => exact cv (HR0.out)); (case side2 => exact HC0.out); rintro e w' ⟨rfl, ⟨nd, rfl⟩⟩; refine ⟨_, rfl, ?_⟩) | ((with_reducible refine gate_callee (f := 30) rfl ?_); refine goesL_ (some 21) rfl rfl Try.func30 (by kernel_rfl) rfl #[.slice A0 l0.length c0] rfl av ?_; (with_reducible refine (spec_DrawGfSolve.calls k _ _ l0 t236 t237 _ ?side1 ?side2 A4.out).mono ?_); (case side1 => exact cv (HR0.out)); (case side2 => exact HC0.out); rintro e w8 ⟨v238, v240, rfl, ho0, ho1, hb⟩; refine ⟨_, rfl, ?_⟩; have HO239 := Aside0.mk (Kd.N_lower (Kd.N_mono (ok' := fun k_ => some k_ ≠ (v240 : Value).ownBlock) (Kd.S_N (Kd.S_bound ho0)) (fun k_ hk_ => hk_.1)) (below_size (bt))); have HO241 := Aside0.mk (Kd.Q_lower ho1 (below_size (bt))); replace HB := Aside0.mk (below_step (bt) hb); (try clear hb); (try clear hb2); (try clear hk); (try clear hi); (try clear ho0); (try clear ho1); obtain ⟨Ao9, co9, eo9⟩ := Kd.N_slice HO239.out; subst eo9; obtain ⟨Ao10, co10, eo10, _⟩ := Kd.Q_slice HO241.out; subst eo10) | ((with_reducible refine gate_callee (f := 26) rfl ?_); refine goesL_ (some 27) rfl rfl Try.func26 (by kernel_rfl) rfl #[.slice Ao9 t236.length co9, .slice Ao10 t237.length co10] rfl av ?_; (with_reducible refine (impl_GfSolve.calls k _ _ t236 _ _ t237 t242 t243 _ ?side1 ?side2 ?side3 ?side4 A5.out).mono ?_); (case side1 => exact cv ((Kd.N_reads' HO239.out).2.2)); (case side2 => exact (Kd.N_reads' HO239.out).2.1); (case side3 => exact cv ((Kd.Q_reads' HO241.out).2.2)); (case side4 => exact (Kd.Q_reads' HO241.out).2.1); rintro e w11 ⟨v244, rfl, ho0, hb⟩; refine ⟨_, rfl, ?_⟩; replace HO239 := Aside0.mk (Kd.N_elder' (mv HO239.out) (Kd.R_base ho0) hb); have HO245 := Aside0.mk (Kd.R_lower (Kd.R_new' ho0 (Kd.Q_lt (by (with_reducible repeat (first | apply Kd.Q_alloc | apply Kd.Q_drewN | apply Kd.Q_drew)); exact HO241.out))) (below_size (bt))); replace HO241 := Aside0.mk (Kd.Q_elder' (by (with_reducible repeat (first | apply Kd.Q_alloc | apply Kd.Q_drewN | apply Kd.Q_drew)); exact HO241.out) (Kd.R_base ho0) hb); replace HB := Aside0.mk (below_step (bt) hb); (try clear hb); (try clear hb2); (try clear hk); (try clear hi); (try clear ho0)) | ((with_reducible refine gate_callee (f := 25) rfl ?_); refine goesL_ (some 33) rfl rfl Try.func25 (by kernel_rfl) rfl #[.slice Ao9 t236.length co9, .slice Ao10 t237.length co10] rfl av ?_; (with_reducible refine (spec_GfSolve.calls k _ _ t236 _ _ t237 t246 t247 _ ?side1 ?side2 ?side3 ?side4 A6.out).mono ?_); (case side1 => exact cv ((Kd.N_reads' HO239.out).2.2)); (case side2 => exact (Kd.N_reads' HO239.out).2.1); (case side3 => exact cv ((Kd.Q_reads' HO241.out).2.2)); (case side4 => exact (Kd.Q_reads' HO241.out).2.1); rintro e w12 ⟨v248, rfl, ho0, hb⟩; refine ⟨_, rfl, ?_⟩; replace HO239 := Aside0.mk (Kd.N_elder' (mv HO239.out) (Kd.R_base ho0) hb); have HO249 := Aside0.mk (Kd.R_lower (Kd.R_new' (Kd.R_new' ho0 (Kd.Q_lt (by (with_reducible repeat (first | apply Kd.Q_alloc | apply Kd.Q_drewN | apply Kd.Q_drew)); exact HO241.out))) (Kd.R_lt (mv HO245.out))) (below_size (bt))); replace HO241 := Aside0.mk (Kd.Q_elder' (by (with_reducible repeat (first | apply Kd.Q_alloc | apply Kd.Q_drewN | apply Kd.Q_drew)); exact HO241.out) (Kd.R_base ho0) hb); replace HO245 := Aside0.mk (Kd.R_elder' (mv HO245.out) (Kd.R_base ho0) hb); replace HB := Aside0.mk (below_step (bt) hb); (try clear hb); (try clear hb2); (try clear hk); (try clear hi); (try clear ho0)))
  (try simp only [Act.put, List.setIfInBounds_toArray, List.set_cons_zero, List.set_cons_succ])
  go_cut [48] (fun v48 wc => ∃ (kq : Nat) (x48_6 : Bool), v48 = .bool x48_6 ∧ Aside0 (laws_FnSolved.j0 kq l0 t236 t237 t242 t243 x48_6 = some r) ∧ Aside0 (kq ≤ k) ∧ Aside0 (Kd.N (Kd.slice 5 (Kd.int .u8)) 24 wc w.heap.size (fun k_ => some k_ ≠ ((.slice Ao10 t237.length co10) : Value).ownBlock ∧ some k_ ≠ (v244 : Value).ownBlock) (.slice Ao9 t236.length co9) t236) ∧ Aside0 (Kd.Q (Kd.int .u8) 5 wc w.heap.size (fun k_ => some k_ ≠ (v244 : Value).ownBlock) (.slice Ao10 t237.length co10) t237) ∧ Aside0 (Kd.R (Kd.int .u8) 5 wc w.heap.size (fun k_ => some k_ ≠ ((.slice Ao10 t237.length co10) : Value).ownBlock) v244 t242) ∧ Aside0 (Below w.heap.size w wc))
  case first =>
   have H := HC7.out
   clear HC7
   by_cases c13 : (t243 != t247) = true
   ·rw [if_pos c13] at H
    have c13b0 : (t243 != t247) = true := c13
    (try (have c13b1 : decide (t243 = t247) = false := by simpa using c13))
    (try (have c13b2 : (t243 == t247) = false := by simpa using c13))
    (try (have c13b3 : ¬ (t243 = t247) := by simpa using c13))
    clear c13
    (first | rw [c13b0] | (simp only [i64_w, i32_w]; rw [c13b0]) | skip)
    have H' := Aside0.mk H
    clear H
    go_wp2
    go_meet
    case rel => exact ⟨_, (true), (by first | rfl | (simp; done) | (simp [*]; done)), H', ⟨by first | omega | exact Nat.le_refl _⟩, ⟨by (with_reducible repeat (first | apply Kd.N_alloc | apply Kd.N_drewN | apply Kd.N_drew)); exact Kd.N_mono HO239.out (fun _ hk => ⟨hk.1.1, hk.1.2⟩)⟩, ⟨by (with_reducible repeat (first | apply Kd.Q_alloc | apply Kd.Q_drewN | apply Kd.Q_drew)); exact Kd.Q_mono HO241.out (fun _ hk => hk.1.2)⟩, ⟨by (with_reducible repeat (first | apply Kd.R_alloc | apply Kd.R_drewN | apply Kd.R_drew)); exact Kd.R_mono HO245.out (fun _ hk => hk.1.2)⟩, ⟨bt⟩⟩
   ·rw [if_neg c13] at H
    have c13b0 : (t243 != t247) = false := by simpa using c13
    (try (have c13b1 : decide (t243 = t247) = true := by simpa using c13))
    (try (have c13b2 : (t243 == t247) = true := by simpa using c13))
    clear c13
    (first | rw [c13b0] | (simp only [i64_w, i32_w]; rw [c13b0]) | skip)
    by_cases c14 : t243 = true
    ·subst c14
     rw [if_pos rfl] at H
     have H' := Aside0.mk H
     clear H
     obtain ⟨Ao15, co15, eo15⟩ := Kd.R_slice HO245.out
     subst eo15
     go_wp2
     go_meet
     case rel => exact ⟨_, (((t242.length : Int) != (t236.length : Int))), (by first | rfl | (simp; done) | (simp [*]; done)), H', ⟨by first | omega | exact Nat.le_refl _⟩, ⟨by (with_reducible repeat (first | apply Kd.N_alloc | apply Kd.N_drewN | apply Kd.N_drew)); exact Kd.N_mono HO239.out (fun _ hk => ⟨hk.1.1, hk.1.2⟩)⟩, ⟨by (with_reducible repeat (first | apply Kd.Q_alloc | apply Kd.Q_drewN | apply Kd.Q_drew)); exact Kd.Q_mono HO241.out (fun _ hk => hk.1.2)⟩, ⟨by (with_reducible repeat (first | apply Kd.R_alloc | apply Kd.R_drewN | apply Kd.R_drew)); exact Kd.R_mono HO245.out (fun _ hk => hk.1.2)⟩, ⟨bt⟩⟩
    ·replace c14 := Bool.eq_false_iff.mpr c14
     subst c14
     rw [if_neg (show ¬ (false = true) by decide)] at H
     have H' := Aside0.mk H
     clear H
     go_wp2
     go_meet
     case rel => exact ⟨_, (false), (by first | rfl | (simp; done) | (simp [*]; done)), H', ⟨by first | omega | exact Nat.le_refl _⟩, ⟨by (with_reducible repeat (first | apply Kd.N_alloc | apply Kd.N_drewN | apply Kd.N_drew)); exact Kd.N_mono HO239.out (fun _ hk => ⟨hk.1.1, hk.1.2⟩)⟩, ⟨by (with_reducible repeat (first | apply Kd.Q_alloc | apply Kd.Q_drewN | apply Kd.Q_drew)); exact Kd.Q_mono HO241.out (fun _ hk => hk.1.2)⟩, ⟨by (with_reducible repeat (first | apply Kd.R_alloc | apply Kd.R_drewN | apply Kd.R_drew)); exact Kd.R_mono HO245.out (fun _ hk => hk.1.2)⟩, ⟨bt⟩⟩
  case rest =>
   clear HC7
   try clear c1
   try clear c2
   try clear p2
   try clear c3
   try clear c7
   try clear c13
   try clear c13b0
   try clear c13b1
   try clear c13b2
   try clear c14
   obtain ⟨kq, x48_6, rfl, HA, HJ6, HO_3, HO_4, HO_5, HB⟩ := hcut
   cases kq with
   | zero => exact absurd HA.out (by simp [laws_FnSolved.j0])
   | succ kj6 =>
    have H := HA.out
    clear HA
    simp only [laws_FnSolved.j0] at H
    by_cases c16 : x48_6 = true
    ·subst c16
     rw [if_pos rfl] at H
     exact absurd ((Option.some.inj H).trans hT.out) (by decide)
    ·replace c16 := Bool.eq_false_iff.mpr c16
     subst c16
     rw [if_neg (show ¬ (false = true) by decide)] at H
     have H' := Aside0.mk H
     clear H
     go_wp2
     go_loopg [9] kj6 (fun kq v9 w' => ∃ (x9_2 : Int), v9 = .int .i64 x9_2 ∧ Aside0 (laws_FnSolved.l0 kq l0 t236 t237 t242 t243 x9_2 = some r) ∧ Aside0 (kq ≤ kj6) ∧ Aside0 (Kd.N (Kd.slice 5 (Kd.int .u8)) 24 w' w.heap.size (fun k_ => some k_ ≠ ((.slice Ao10 t237.length co10) : Value).ownBlock ∧ some k_ ≠ (v244 : Value).ownBlock) (.slice Ao9 t236.length co9) t236) ∧ Aside0 (Kd.Q (Kd.int .u8) 5 w' w.heap.size (fun k_ => some k_ ≠ (v244 : Value).ownBlock) (.slice Ao10 t237.length co10) t237) ∧ Aside0 (Kd.R (Kd.int .u8) 5 w' w.heap.size (fun k_ => some k_ ≠ ((.slice Ao10 t237.length co10) : Value).ownBlock) v244 t242) ∧ Aside0 (Below w.heap.size w w'))
     case atStart => exact ⟨(0), (by first | rfl | (simp; done) | (simp [*]; done)), H', ⟨Nat.le_refl _⟩, ⟨mv HO_3.out⟩, ⟨by (with_reducible repeat (first | apply Kd.Q_alloc | apply Kd.Q_drewN | apply Kd.Q_drew)); exact HO_4.out⟩, ⟨mv HO_5.out⟩, ⟨bt⟩⟩
     case round =>
      clear H'
      try clear c1
      try clear c2
      try clear p2
      try clear c3
      try clear c7
      try clear c13
      try clear c13b0
      try clear c13b1
      try clear c13b2
      try clear c14
      try clear c16
      try clear p2
      obtain ⟨x9_2, rfl, HA, HK2, HO_3, HO_4, HO_5, HB⟩ := hrel
      cases gk with
      | zero => exact absurd HA.out (by simp [laws_FnSolved.l0])
      | succ k2 =>
       have H := HA.out
       clear HA
       simp only [laws_FnSolved.l0] at H
       have HC17 := Aside0.mk H
       clear H
       go_upto_region 9 with (fail)
       go_cut [55] (fun v55 wc => ∃ (kq : Nat) (x55_16 : Bool), v55 = .bool x55_16 ∧ Aside0 (laws_FnSolved.j2 kq l0 t236 t237 t242 t243 x9_2 x55_16 = some r) ∧ Aside0 (kq ≤ k2) ∧ Aside0 (Kd.N (Kd.slice 5 (Kd.int .u8)) 24 wc w.heap.size (fun k_ => some k_ ≠ ((.slice Ao10 t237.length co10) : Value).ownBlock ∧ some k_ ≠ (v244 : Value).ownBlock) (.slice Ao9 t236.length co9) t236) ∧ Aside0 (Kd.Q (Kd.int .u8) 5 wc w.heap.size (fun k_ => some k_ ≠ (v244 : Value).ownBlock) (.slice Ao10 t237.length co10) t237) ∧ Aside0 (Kd.R (Kd.int .u8) 5 wc w.heap.size (fun k_ => some k_ ≠ ((.slice Ao10 t237.length co10) : Value).ownBlock) v244 t242) ∧ Aside0 (Below w.heap.size w wc))
       case first =>
        have H := HC17.out
        clear HC17
        by_cases c18 : x9_2 < (t236.length : Int)
        ·rw [if_pos c18] at H
         have c18b0 : decide (x9_2 < (t236.length : Int)) = true := decide_eq_true c18
         clear c18
         (first | rw [c18b0] | (simp only [i64_w, i32_w]; rw [c18b0]) | skip)
         have H' := Aside0.mk H
         clear H
         go_wp2
         go_meet
         case rel => exact ⟨_, (t243), (by first | rfl | (simp; done) | (simp [*]; done)), H', ⟨by have := HJ6.out; have := HK2.out; first | omega | exact Nat.le_refl _⟩, ⟨mv HO_3.out⟩, ⟨by (with_reducible repeat (first | apply Kd.Q_alloc | apply Kd.Q_drewN | apply Kd.Q_drew)); exact HO_4.out⟩, ⟨mv HO_5.out⟩, ⟨bt⟩⟩
        ·rw [if_neg c18] at H
         have c18b0 : decide (x9_2 < (t236.length : Int)) = false := decide_eq_false c18
         clear c18
         (first | rw [c18b0] | (simp only [i64_w, i32_w]; rw [c18b0]) | skip)
         have H' := Aside0.mk H
         clear H
         go_wp2
         go_meet
         case rel => exact ⟨_, (false), (by first | rfl | (simp; done) | (simp [*]; done)), H', ⟨by have := HJ6.out; have := HK2.out; first | omega | exact Nat.le_refl _⟩, ⟨mv HO_3.out⟩, ⟨by (with_reducible repeat (first | apply Kd.Q_alloc | apply Kd.Q_drewN | apply Kd.Q_drew)); exact HO_4.out⟩, ⟨mv HO_5.out⟩, ⟨bt⟩⟩
       case rest =>
        clear HC17
        try clear c1
        try clear c2
        try clear p2
        try clear c3
        try clear c7
        try clear c13
        try clear c13b0
        try clear c13b1
        try clear c13b2
        try clear c14
        try clear c16
        try clear c18
        try clear c18b0
        try clear p2
        obtain ⟨kq, x55_16, rfl, HA, HJ16, HO_3, HO_4, HO_5, HB⟩ := hcut
        cases kq with
        | zero => exact absurd HA.out (by simp [laws_FnSolved.j2])
        | succ kj16 =>
         have H := HA.out
         clear HA
         simp only [laws_FnSolved.j2] at H
         by_cases c19 : x55_16 = true
         ·subst c19
          rw [if_pos rfl] at H
          by_cases c20 : 0 ≤ x9_2
          ·rw [if_pos c20] at H
           have c20b0 : decide (0 ≤ x9_2) = true := decide_eq_true c20
           clear c20
           by_cases c21 : x9_2 < (t236.length : Int)
           ·rw [if_pos c21] at H
            have c21b0 : decide (x9_2 < (t236.length : Int)) = true := decide_eq_true c21
            clear c21
            replace H := Option.bind_eq_some_iff.mp H
            obtain ⟨⟨t251, t252⟩, A220, H⟩ := H
            (try dsimp -simprocs only at H)
            have A22 := Aside0.mk A220
            clear A220
            by_cases c23 : t252 = true
            ·subst c23
             rw [if_pos rfl] at H
             by_cases c24 : x9_2 < (t237.length : Int)
             ·rw [if_pos c24] at H
              have c24b0 : decide (x9_2 < (t237.length : Int)) = true := decide_eq_true c24
              clear c24
              by_cases c25 : t251 = (rd t237 x9_2)
              ·rw [if_pos c25] at H
               have c25b0 : (t251 == (rd t237 x9_2)) = true := beq_iff_eq.mpr c25
               have c25b1 : (t251 != (rd t237 x9_2)) = false := bne_eq_false_iff_eq.mpr c25
               clear c25
               have H' := Aside0.mk H
               clear H
               have p250 : 0 ≤ (x9_2 : Int) := of_decide_eq_true asm
               have q250 : x9_2 < (t236.length : Int) := of_decide_eq_true asm
               obtain ⟨ad250, A250_0, c250_0, e250, hx250_0, hl250_0, hi250_0⟩ := at_L2 (Kd.N_reads' HO_3.out).2.2 x9_2 p250 q250
               cases e250
               obtain ⟨ce250, hce250, hMe250, hcc250⟩ := Kd.N_get HO_3.out [] x9_2 p250 (by first | exact q250 | exact of_decide_eq_true asm | (have e_ := (Kd.N_reads' HO_3.out).1; omega))
               obtain ⟨ua250_0, uc250_0, rfl, ul250_0, ge250_0⟩ := Kd.FK_slice_open hMe250
               have hv250_0 := hcc250 0 _ rfl
               rw [Nat.add_zero, show ((Kd.slice 5 (Kd.int .u8))).sz = 1 from rfl, Nat.mul_one] at hv250_0
               replace hv250_0 := Option.some.inj (hv250_0.symm.trans hx250_0)
               injection hv250_0 with hva_ hvn_ hvc_
               rw [hva_] at ge250_0
               rw [hvc_] at ul250_0
               have HL250_0 := Aside0.mk (show Kd.V (Kd.int .u8) 5 _ w.heap.size _ _ (rd_L2 t236 x9_2) from Kd.V_mk ul250_0 ge250_0)
               clear hva_ hvn_ hvc_ ge250_0 ul250_0
               clear hcc250 hce250
               have HR250_0 := Aside0.mk hi250_0
               have HC250_0 := Aside0.mk hl250_0
               clear hi250_0 hl250_0
               replace p250 := eq_true p250
               replace q250 := eq_true q250
               obtain ⟨Ao26, co26, eo26⟩ := Kd.R_slice HO_5.out
               subst eo26
               go_wp2_with (first | ((with_reducible refine gate_callee (f := 31) rfl ?_); refine goesL_ (some 64) rfl rfl Try.func31 (by kernel_rfl) rfl #[.slice A250_0 (rd_L2 t236 x9_2).length c250_0, .slice Ao26 t242.length co26] rfl av ?_; (with_reducible refine (impl_GfDot.calls kj16 _ _ (rd_L2 t236 x9_2) _ _ t242 t251 true _ ?side1 ?side2 ?side3 ?side4 A22.out).mono ?_); (case side1 => repeat (first | exact (by repeat (first | (with_reducible exact HR250_0.out) | (with_reducible refine Kd.C_alloc ?_ _) | (with_reducible refine Kd.C_drewN ?_ _) | (with_reducible refine Kd.C_drew ?_) | exact HR250_0.out)) | (with_reducible refine Kd.C_alloc ?_ _) | (with_reducible refine Kd.C_drewN ?_ _) | (with_reducible refine Kd.C_drew ?_))); (case side2 => exact HC250_0.out); (case side3 => exact cv ((Kd.R_reads' HO_5.out).2.2)); (case side4 => exact (Kd.R_reads' HO_5.out).2.1); rintro e w' ⟨rfl, ⟨nd, rfl⟩⟩; refine ⟨_, rfl, ?_⟩; have p253 : 0 ≤ (x9_2 : Int) := of_decide_eq_true asm; have q253 : x9_2 < (t237.length : Int) := of_decide_eq_true asm; obtain ⟨ad253, e253, hx253_0⟩ := Kd.at_int (Kd.Q_reads' HO_4.out).2.2 x9_2 p253 q253; cases e253; replace p253 := eq_true p253; replace q253 := eq_true q253))
               go_roundg kj16
               case measure => have := HJ6.out; have := HK2.out; have := HJ16.out; omega
               case rel => exact ⟨(wrap64 (x9_2 + 1)), (by first | rfl | (simp; done) | (simp [*]; done)), H', ⟨by have := HJ6.out; have := HK2.out; have := HJ16.out; omega⟩, ⟨mv HO_3.out⟩, ⟨by (with_reducible repeat (first | apply Kd.Q_alloc | apply Kd.Q_drewN | apply Kd.Q_drew)); exact HO_4.out⟩, ⟨mv HO_5.out⟩, ⟨bt⟩⟩
              ·rw [if_neg c25] at H
               have c25b0 : (t251 == (rd t237 x9_2)) = false := beq_eq_false_iff_ne.mpr c25
               have c25b1 : (t251 != (rd t237 x9_2)) = true := bne_iff_ne.mpr c25
               exact absurd ((Option.some.inj H).trans hT.out) (by decide)
             ·rw [if_neg c24] at H
              exact absurd H (by simp)
            ·replace c23 := Bool.eq_false_iff.mpr c23
             subst c23
             rw [if_neg (show ¬ (false = true) by decide)] at H
             exact absurd ((Option.some.inj H).trans hT.out) (by decide)
           ·rw [if_neg c21] at H
            exact absurd H (by simp)
          ·rw [if_neg c20] at H
           exact absurd H (by simp)
         ·replace c19 := Bool.eq_false_iff.mpr c19
          subst c19
          rw [if_neg (show ¬ (false = true) by decide)] at H
          replace H := Option.bind_eq_some_iff.mp H
          obtain ⟨t254, A270, H⟩ := H
          (try dsimp -simprocs only at H)
          have A27 := Aside0.mk A270
          clear A270
          replace H := Option.bind_eq_some_iff.mp H
          obtain ⟨⟨t255, t256⟩, A280, H⟩ := H
          (try dsimp -simprocs only at H)
          have A28 := Aside0.mk A280
          clear A280
          obtain ⟨y257, hy257⟩ : ∃ y_ : List Int, y_ = (([2, 0] : List Int)) := ⟨_, rfl⟩
          replace H : ((impl_GfSolve.f kj16 (([y257, (([0, 1] : List Int))] : List (List Int))) (([4, 9] : List Int))).bind fun bt269 => (if (t256 == (((t254) % 256) != 0)) = true then (if t256 = true then ((impl_GfPow.f kj16 2 t255).bind fun t273 => (if t273 = ((t254) % 256) then (if t255 < 255 then (if bt269.2 = true then (if 0 < (bt269.1.length : Int) then (if (rd bt269.1 0) = 2 then (if 1 < (bt269.1.length : Int) then (some ((rd bt269.1 1) == 9)) else (none)) else (some false)) else (none)) else (some false)) else (some false)) else (some false))) else (if t255 = (-1) then (if bt269.2 = true then (if 0 < (bt269.1.length : Int) then (if (rd bt269.1 0) = 2 then (if 1 < (bt269.1.length : Int) then (some ((rd bt269.1 1) == 9)) else (none)) else (some false)) else (none)) else (some false)) else (some false))) else (some false))) = some r := by first | (rw [hy257]; exact H) | exact H
          have Ny257 := Aside0.mk hy257
          clear hy257
          obtain ⟨y260, hy260⟩ : ∃ y_ : List Int, y_ = (([0, 1] : List Int)) := ⟨_, rfl⟩
          replace H : ((impl_GfSolve.f kj16 (([y257, y260] : List (List Int))) (([4, 9] : List Int))).bind fun bt269 => (if (t256 == (((t254) % 256) != 0)) = true then (if t256 = true then ((impl_GfPow.f kj16 2 t255).bind fun t273 => (if t273 = ((t254) % 256) then (if t255 < 255 then (if bt269.2 = true then (if 0 < (bt269.1.length : Int) then (if (rd bt269.1 0) = 2 then (if 1 < (bt269.1.length : Int) then (some ((rd bt269.1 1) == 9)) else (none)) else (some false)) else (none)) else (some false)) else (some false)) else (some false))) else (if t255 = (-1) then (if bt269.2 = true then (if 0 < (bt269.1.length : Int) then (if (rd bt269.1 0) = 2 then (if 1 < (bt269.1.length : Int) then (some ((rd bt269.1 1) == 9)) else (none)) else (some false)) else (none)) else (some false)) else (some false))) else (some false))) = some r := by first | (rw [hy260]; exact H) | exact H
          have Ny260 := Aside0.mk hy260
          clear hy260
          obtain ⟨y263, hy263⟩ : ∃ y_ : List (List Int), y_ = (([y257, y260] : List (List Int))) := ⟨_, rfl⟩
          replace H : ((impl_GfSolve.f kj16 y263 (([4, 9] : List Int))).bind fun bt269 => (if (t256 == (((t254) % 256) != 0)) = true then (if t256 = true then ((impl_GfPow.f kj16 2 t255).bind fun t273 => (if t273 = ((t254) % 256) then (if t255 < 255 then (if bt269.2 = true then (if 0 < (bt269.1.length : Int) then (if (rd bt269.1 0) = 2 then (if 1 < (bt269.1.length : Int) then (some ((rd bt269.1 1) == 9)) else (none)) else (some false)) else (none)) else (some false)) else (some false)) else (some false))) else (if t255 = (-1) then (if bt269.2 = true then (if 0 < (bt269.1.length : Int) then (if (rd bt269.1 0) = 2 then (if 1 < (bt269.1.length : Int) then (some ((rd bt269.1 1) == 9)) else (none)) else (some false)) else (none)) else (some false)) else (some false))) else (some false))) = some r := by first | (rw [hy263]; exact H) | exact H
          have Ny263 := Aside0.mk hy263
          clear hy263
          obtain ⟨y266, hy266⟩ : ∃ y_ : List Int, y_ = (([4, 9] : List Int)) := ⟨_, rfl⟩
          replace H : ((impl_GfSolve.f kj16 y263 y266).bind fun bt269 => (if (t256 == (((t254) % 256) != 0)) = true then (if t256 = true then ((impl_GfPow.f kj16 2 t255).bind fun t273 => (if t273 = ((t254) % 256) then (if t255 < 255 then (if bt269.2 = true then (if 0 < (bt269.1.length : Int) then (if (rd bt269.1 0) = 2 then (if 1 < (bt269.1.length : Int) then (some ((rd bt269.1 1) == 9)) else (none)) else (some false)) else (none)) else (some false)) else (some false)) else (some false))) else (if t255 = (-1) then (if bt269.2 = true then (if 0 < (bt269.1.length : Int) then (if (rd bt269.1 0) = 2 then (if 1 < (bt269.1.length : Int) then (some ((rd bt269.1 1) == 9)) else (none)) else (some false)) else (none)) else (some false)) else (some false))) else (some false))) = some r := by first | (rw [hy266]; exact H) | exact H
          have Ny266 := Aside0.mk hy266
          clear hy266
          replace H := Option.bind_eq_some_iff.mp H
          obtain ⟨⟨t269, t270⟩, A290, H⟩ := H
          (try dsimp -simprocs only at H)
          have A29 := Aside0.mk A290
          clear A290
          by_cases c30 : (t256 == (((t254) % 256) != 0)) = true
          ·rw [if_pos c30] at H
           have c30b0 : (t256 == (((t254) % 256) != 0)) = true := c30
           (try (have c30b1 : decide (t256 = (((t254) % 256) != 0)) = true := by simpa using c30))
           (try (have c30b2 : (t256 == (((t254) % 256) != 0)) = true := by simpa using c30))
           clear c30
           by_cases c31 : t256 = true
           ·subst c31
            rw [if_pos rfl] at H
            replace H := Option.bind_eq_some_iff.mp H
            obtain ⟨t273, A320, H⟩ := H
            (try dsimp -simprocs only at H)
            have A32 := Aside0.mk A320
            clear A320
            by_cases c33 : t273 = ((t254) % 256)
            ·rw [if_pos c33] at H
             have c33b0 : (t273 == ((t254) % 256)) = true := beq_iff_eq.mpr c33
             have c33b1 : (t273 != ((t254) % 256)) = false := bne_eq_false_iff_eq.mpr c33
             clear c33
             by_cases c34 : t255 < 255
             ·rw [if_pos c34] at H
              have c34b0 : decide (t255 < 255) = true := decide_eq_true c34
              clear c34
              by_cases c35 : t270 = true
              ·subst c35
               rw [if_pos rfl] at H
               by_cases c36 : 0 < (t269.length : Int)
               ·rw [if_pos c36] at H
                have c36b0 : decide (0 < (t269.length : Int)) = true := decide_eq_true c36
                have c36b1 : decide (0 < t269.length) = true := decide_eq_true (by omega)
                clear c36
                by_cases c37 : (rd t269 0) = 2
                ·rw [if_pos c37] at H
                 have c37b0 : ((rd t269 0) == 2) = true := beq_iff_eq.mpr c37
                 have c37b1 : ((rd t269 0) != 2) = false := bne_eq_false_iff_eq.mpr c37
                 clear c37
                 by_cases c38 : 1 < (t269.length : Int)
                 ·rw [if_pos c38] at H
                  have c38b0 : decide (1 < (t269.length : Int)) = true := decide_eq_true c38
                  have c38b1 : decide (1 < t269.length) = true := decide_eq_true (by omega)
                  clear c38
                  obtain rfl := Option.some.inj H
                  go_wp2_with (first | ((with_reducible refine gate_callee (f := 32) rfl ?_); refine goesL_ (some 78) rfl rfl Try.func32 (by kernel_rfl) rfl #[.slice A0 l0.length c0, .int .i64 0] rfl av ?_; (with_reducible refine (laws_at.calls _ _ l0 0 t254 _ ?side1 ?side2 A27.out).mono ?_); (case side1 => exact cv ((Kd.C_below HR0.out HB.out))); (case side2 => exact HC0.out); rintro e w' ⟨rfl, ⟨nd, rfl⟩⟩; refine ⟨_, rfl, ?_⟩) | ((with_reducible refine gate_callee (f := 33) rfl ?_); refine goesL_ (some 82) rfl rfl Try.func33 (by kernel_rfl) rfl #[.int .u8 ((t254) % 256)] rfl av ?_; (with_reducible refine (impl_GfLog.calls kj16 ((t254) % 256) t255 true _ A28.out).mono ?_); rintro e w' ⟨rfl, ⟨nd, rfl⟩⟩; refine ⟨_, rfl, ?_⟩) | ((with_reducible refine gate_dst (N := 86) rfl ?_); (try (refine gate_guard (by rfl) ?_; dsimp only)); refine Kd.R_lit (Kd.int .u8) _ 5 ?hg (N := 86) ?hd (xs := ([2, 0] : List Int)) (inner := [.int .u8 2, .int .u8 0]) (ok := fun _ => True) (okp := fun _ => True) ?hr ?hp (fun _ hk => hk) trivial (Below.refl _ _) (Nat.le_refl _) (by simp) ?_; (case hd => rfl); (case hg => rfl); (case hr => first | (go_simp; done) | (go_simp; rfl)); (case hp => exact (Reps.one (show Kd.M (Kd.int .u8) _ _ _ 2 [.int .u8 2] from rfl) (Reps.one (show Kd.M (Kd.int .u8) _ _ _ 0 [.int .u8 0] from rfl) (Reps.none _ _)))); intro v258 w39 ho40 hb hg_ hnew_; clear hg_ hnew_; (first | rw [← Ny257.out] at ho40 | (simp only [Int.reduceToNat] at ho40; rw [← Ny257.out] at ho40)); replace HO_3 := Aside0.mk (Kd.N_elder' (mv HO_3.out) (Kd.R_base ho40) hb); have HO259 := Aside0.mk (Kd.R_lower (Kd.R_new' (Kd.R_new' ho40 (Kd.Q_lt (by (with_reducible repeat (first | apply Kd.Q_alloc | apply Kd.Q_drewN | apply Kd.Q_drew)); exact HO_4.out))) (Kd.R_lt (mv HO_5.out))) (below_size (bt))); replace HO_4 := Aside0.mk (Kd.Q_elder' (by (with_reducible repeat (first | apply Kd.Q_alloc | apply Kd.Q_drewN | apply Kd.Q_drew)); exact HO_4.out) (Kd.R_base ho40) hb); replace HO_5 := Aside0.mk (Kd.R_elder' (mv HO_5.out) (Kd.R_base ho40) hb); replace HB := Aside0.mk (below_step (bt) hb); clear hb ho40) | ((with_reducible refine gate_dst (N := 87) rfl ?_); (try (refine gate_guard (by rfl) ?_; dsimp only)); refine Kd.R_lit (Kd.int .u8) _ 5 ?hg (N := 87) ?hd (xs := ([0, 1] : List Int)) (inner := [.int .u8 0, .int .u8 1]) (ok := fun _ => True) (okp := fun _ => True) ?hr ?hp (fun _ hk => hk) trivial (Below.refl _ _) (Nat.le_refl _) (by simp) ?_; (case hd => rfl); (case hg => rfl); (case hr => first | (go_simp; done) | (go_simp; rfl)); (case hp => exact (Reps.one (show Kd.M (Kd.int .u8) _ _ _ 0 [.int .u8 0] from rfl) (Reps.one (show Kd.M (Kd.int .u8) _ _ _ 1 [.int .u8 1] from rfl) (Reps.none _ _)))); intro v261 w41 ho42 hb hg_ hnew_; clear hg_ hnew_; (first | rw [← Ny260.out] at ho42 | (simp only [Int.reduceToNat] at ho42; rw [← Ny260.out] at ho42)); replace HO_3 := Aside0.mk (Kd.N_elder' (mv HO_3.out) (Kd.R_base ho42) hb); have HO262 := Aside0.mk (Kd.R_lower (Kd.R_new' (Kd.R_new' (Kd.R_new' ho42 (Kd.Q_lt (by (with_reducible repeat (first | apply Kd.Q_alloc | apply Kd.Q_drewN | apply Kd.Q_drew)); exact HO_4.out))) (Kd.R_lt (mv HO_5.out))) (Kd.R_lt (mv HO259.out))) (below_size (bt))); replace HO_4 := Aside0.mk (Kd.Q_elder' (by (with_reducible repeat (first | apply Kd.Q_alloc | apply Kd.Q_drewN | apply Kd.Q_drew)); exact HO_4.out) (Kd.R_base ho42) hb); replace HO_5 := Aside0.mk (Kd.R_elder' (mv HO_5.out) (Kd.R_base ho42) hb); replace HO259 := Aside0.mk (Kd.R_elder' (mv HO259.out) (Kd.R_base ho42) hb); replace HB := Aside0.mk (below_step (bt) hb); clear hb ho42; obtain ⟨Ao43, co43, eo43⟩ := Kd.R_slice HO259.out; subst eo43; obtain ⟨Ao44, co44, eo44⟩ := Kd.R_slice HO262.out; subst eo44) | ((with_reducible refine gate_dst (N := 88) rfl ?_); (try (refine gate_guard (by rfl) ?_; dsimp only)); refine Kd.N_lit (Kd.slice 5 (Kd.int .u8)) _ 24 ?hg (N' := 88) ?hd (xs := ([y257, y260] : List (List Int))) (inner := [.slice Ao43 y257.length co43, .slice Ao44 y260.length co44]) (ok := (fun k_ => some k_ ≠ (.slice Ao9 t236.length co9 : Value).ownBlock ∧ some k_ ≠ (.slice Ao10 t237.length co10 : Value).ownBlock ∧ some k_ ≠ (v244 : Value).ownBlock)) (okp := (fun k_ => some k_ ≠ (.slice Ao9 t236.length co9 : Value).ownBlock ∧ some k_ ≠ (.slice Ao10 t237.length co10 : Value).ownBlock ∧ some k_ ≠ (v244 : Value).ownBlock)) ?hr ?hp (fun _ hk => hk) ((show ∀ k_, w41.heap.size ≤ k_ → (fun k_ => some k_ ≠ (.slice Ao9 t236.length co9 : Value).ownBlock ∧ some k_ ≠ (.slice Ao10 t237.length co10 : Value).ownBlock ∧ some k_ ≠ (v244 : Value).ownBlock) k_ from fun k_ hk => ⟨Kd.fresh' (Kd.N_lt (mv HO_3.out)) k_ hk, Kd.fresh' (Kd.Q_lt (by (with_reducible repeat (first | apply Kd.Q_alloc | apply Kd.Q_drewN | apply Kd.Q_drew)); exact HO_4.out)) k_ hk, Kd.fresh' (Kd.R_lt (mv HO_5.out)) k_ hk⟩) _ (Nat.le_refl _)) (Below.refl _ _) (Nat.le_refl _) (by simp) ?_; (case hd => rfl); (case hg => rfl); (case hr => first | (go_simp; done) | (go_simp; rfl)); (case hp => exact (Reps.one (show Kd.FK (Kd.slice 5 (Kd.int .u8)) _ _ y257 [.slice Ao43 y257.length co43] from (Kd.FK_slice_mk (Kd.R_reads' (Kd.R_mono (ok' := (fun k_ => some k_ ≠ (.slice Ao9 t236.length co9 : Value).ownBlock ∧ some k_ ≠ (.slice Ao10 t237.length co10 : Value).ownBlock ∧ some k_ ≠ (v244 : Value).ownBlock)) (Kd.R_apart' (HO259.out) (Kd.N_typed HO_3.out) (by decide)) (fun k_ hk => ⟨hk.2, ⟨hk.1.1.1.2, hk.1.1.2⟩⟩))).2.1 (Kd.R_F (Kd.R_mono (ok' := (fun k_ => some k_ ≠ (.slice Ao9 t236.length co9 : Value).ownBlock ∧ some k_ ≠ (.slice Ao10 t237.length co10 : Value).ownBlock ∧ some k_ ≠ (v244 : Value).ownBlock)) (Kd.R_apart' (HO259.out) (Kd.N_typed HO_3.out) (by decide)) (fun k_ hk => ⟨hk.2, ⟨hk.1.1.1.2, hk.1.1.2⟩⟩))))) (Reps.one (show Kd.FK (Kd.slice 5 (Kd.int .u8)) _ _ y260 [.slice Ao44 y260.length co44] from (Kd.FK_slice_mk (Kd.R_reads' (Kd.R_mono (ok' := (fun k_ => some k_ ≠ (.slice Ao9 t236.length co9 : Value).ownBlock ∧ some k_ ≠ (.slice Ao10 t237.length co10 : Value).ownBlock ∧ some k_ ≠ (v244 : Value).ownBlock)) (Kd.R_apart' (HO262.out) (Kd.N_typed HO_3.out) (by decide)) (fun k_ hk => ⟨hk.2, ⟨hk.1.1.1.2, hk.1.1.2⟩⟩))).2.1 (Kd.R_F (Kd.R_mono (ok' := (fun k_ => some k_ ≠ (.slice Ao9 t236.length co9 : Value).ownBlock ∧ some k_ ≠ (.slice Ao10 t237.length co10 : Value).ownBlock ∧ some k_ ≠ (v244 : Value).ownBlock)) (Kd.R_apart' (HO262.out) (Kd.N_typed HO_3.out) (by decide)) (fun k_ hk => ⟨hk.2, ⟨hk.1.1.1.2, hk.1.1.2⟩⟩))))) (Reps.none _ _)))); intro v264 w45 ho46 hb hg_ hnew_; clear hg_ hnew_; (first | rw [← Ny263.out] at ho46 | (simp only [Int.reduceToNat] at ho46; rw [← Ny263.out] at ho46)); replace HO_3 := Aside0.mk (Kd.N_elder' (mv HO_3.out) (Kd.N_base ho46) hb); replace HO_4 := Aside0.mk (Kd.Q_below (by (with_reducible repeat (first | apply Kd.Q_alloc | apply Kd.Q_drewN | apply Kd.Q_drew)); exact HO_4.out) hb); replace HO_5 := Aside0.mk (Kd.R_below (mv HO_5.out) hb); have HO265 := Aside0.mk (Kd.N_lower ho46 (below_size (bt))); replace HB := Aside0.mk (below_step (bt) hb); clear HO259 HO262; clear hb ho46) | ((with_reducible refine gate_dst (N := 89) rfl ?_); (try (refine gate_guard (by rfl) ?_; dsimp only)); refine Kd.R_lit (Kd.int .u8) _ 5 ?hg (N := 89) ?hd (xs := ([4, 9] : List Int)) (inner := [.int .u8 4, .int .u8 9]) (ok := fun _ => True) (okp := fun _ => True) ?hr ?hp (fun _ hk => hk) trivial (Below.refl _ _) (Nat.le_refl _) (by simp) ?_; (case hd => rfl); (case hg => rfl); (case hr => first | (go_simp; done) | (go_simp; rfl)); (case hp => exact (Reps.one (show Kd.M (Kd.int .u8) _ _ _ 4 [.int .u8 4] from rfl) (Reps.one (show Kd.M (Kd.int .u8) _ _ _ 9 [.int .u8 9] from rfl) (Reps.none _ _)))); intro v267 w47 ho48 hb hg_ hnew_; clear hg_ hnew_; (first | rw [← Ny266.out] at ho48 | (simp only [Int.reduceToNat] at ho48; rw [← Ny266.out] at ho48)); replace HO_3 := Aside0.mk (Kd.N_elder' (mv HO_3.out) (Kd.R_base ho48) hb); replace HO265 := Aside0.mk (Kd.N_elder' (mv HO265.out) (Kd.R_base ho48) hb); have HO268 := Aside0.mk (Kd.R_lower (Kd.R_new' (Kd.R_new' ho48 (Kd.Q_lt (by (with_reducible repeat (first | apply Kd.Q_alloc | apply Kd.Q_drewN | apply Kd.Q_drew)); exact HO_4.out))) (Kd.R_lt (mv HO_5.out))) (below_size (bt))); replace HO_4 := Aside0.mk (Kd.Q_elder' (by (with_reducible repeat (first | apply Kd.Q_alloc | apply Kd.Q_drewN | apply Kd.Q_drew)); exact HO_4.out) (Kd.R_base ho48) hb); replace HO_5 := Aside0.mk (Kd.R_elder' (mv HO_5.out) (Kd.R_base ho48) hb); replace HB := Aside0.mk (below_step (bt) hb); clear hb ho48; obtain ⟨Ao49, co49, eo49⟩ := Kd.N_slice HO265.out; subst eo49; obtain ⟨Ao50, co50, eo50⟩ := Kd.R_slice HO268.out; subst eo50) | ((with_reducible refine gate_callee (f := 26) rfl ?_); refine goesL_ (some 90) rfl rfl Try.func26 (by kernel_rfl) rfl #[.slice Ao49 y263.length co49, .slice Ao50 y266.length co50] rfl av ?_; (with_reducible refine (impl_GfSolve.calls kj16 _ _ y263 _ _ y266 t269 true _ ?side1 ?side2 ?side3 ?side4 A29.out).mono ?_); (case side1 => exact cv ((Kd.N_reads' HO265.out).2.2)); (case side2 => exact (Kd.N_reads' HO265.out).2.1); (case side3 => exact cv ((Kd.R_reads' HO268.out).2.2)); (case side4 => exact (Kd.R_reads' HO268.out).2.1); rintro e w51 ⟨v271, rfl, ho0, hb⟩; refine ⟨_, rfl, ?_⟩; replace HO_3 := Aside0.mk (Kd.N_elder' (mv HO_3.out) (Kd.R_base ho0) hb); replace HO265 := Aside0.mk (Kd.N_elder' (mv HO265.out) (Kd.R_base ho0) hb); have HO272 := Aside0.mk (Kd.R_lower (Kd.R_new' (Kd.R_new' (Kd.R_new' ho0 (Kd.Q_lt (by (with_reducible repeat (first | apply Kd.Q_alloc | apply Kd.Q_drewN | apply Kd.Q_drew)); exact HO_4.out))) (Kd.R_lt (mv HO_5.out))) (Kd.R_lt (mv HO268.out))) (below_size (bt))); replace HO_4 := Aside0.mk (Kd.Q_elder' (by (with_reducible repeat (first | apply Kd.Q_alloc | apply Kd.Q_drewN | apply Kd.Q_drew)); exact HO_4.out) (Kd.R_base ho0) hb); replace HO_5 := Aside0.mk (Kd.R_elder' (mv HO_5.out) (Kd.R_base ho0) hb); replace HO268 := Aside0.mk (Kd.R_elder' (mv HO268.out) (Kd.R_base ho0) hb); replace HB := Aside0.mk (below_step (bt) hb); (try clear hb); (try clear hb2); (try clear hk); (try clear hi); (try clear ho0)) | (go_at_call 34; (with_reducible refine (impl_GfPow.calls kj16 2 t255 t273 _ A32.out).mono ?_); rintro e w' ⟨rfl, ⟨nd, rfl⟩⟩; obtain ⟨Ao52, co52, eo52⟩ := Kd.R_slice HO272.out; subst eo52; have p274 : 0 ≤ (0 : Int) := (by omega); have q274 : 0 < (t269.length : Int) := of_decide_eq_true asm; obtain ⟨ad274, e274, hx274_0⟩ := Kd.at_int (Kd.R_reads' HO272.out).2.2 0 p274 q274; cases e274; have qi274 : (0 < t269.length) = True := eq_true (by omega); (try rw [show ((0 : Int)).toNat = 0 from rfl] at hx274_0); (try rw [Addr.add_zero'] at hx274_0); replace p274 := eq_true p274; replace q274 := eq_true q274; have p275 : 0 ≤ (1 : Int) := (by omega); have q275 : 1 < (t269.length : Int) := of_decide_eq_true asm; obtain ⟨ad275, e275, hx275_0⟩ := Kd.at_int (Kd.R_reads' HO272.out).2.2 1 p275 q275; obtain rfl : ad274 = ad275 := (by injection e275); (try simp only [show (1 : Int).toNat = 1 from rfl, Nat.reduceMul, Nat.reduceEqDiff, Go.Addr.add, ↓reduceIte] at hx275_0); have qi275 : (1 < t269.length) = True := eq_true (by omega); (try rw [show ((1 : Int)).toNat = 1 from rfl] at hx275_0); replace p275 := eq_true p275; replace q275 := eq_true q275))
                  go_ret
                  exact ⟨by first | rfl | (simp [errW_none, errW_some] <;> rfl) | (simp [*, errW_none, errW_some] <;> rfl), bt⟩
                 ·rw [if_neg c38] at H
                  exact absurd H (by simp)
                ·rw [if_neg c37] at H
                 have c37b0 : ((rd t269 0) == 2) = false := beq_eq_false_iff_ne.mpr c37
                 have c37b1 : ((rd t269 0) != 2) = true := bne_iff_ne.mpr c37
                 exact absurd ((Option.some.inj H).trans hT.out) (by decide)
               ·rw [if_neg c36] at H
                exact absurd H (by simp)
              ·replace c35 := Bool.eq_false_iff.mpr c35
               subst c35
               rw [if_neg (show ¬ (false = true) by decide)] at H
               exact absurd ((Option.some.inj H).trans hT.out) (by decide)
             ·rw [if_neg c34] at H
              have c34b0 : decide (t255 < 255) = false := decide_eq_false c34
              clear c34
              exact absurd ((Option.some.inj H).trans hT.out) (by decide)
            ·rw [if_neg c33] at H
             have c33b0 : (t273 == ((t254) % 256)) = false := beq_eq_false_iff_ne.mpr c33
             have c33b1 : (t273 != ((t254) % 256)) = true := bne_iff_ne.mpr c33
             exact absurd ((Option.some.inj H).trans hT.out) (by decide)
           ·replace c31 := Bool.eq_false_iff.mpr c31
            subst c31
            rw [if_neg (show ¬ (false = true) by decide)] at H
            by_cases c53 : t255 = (-1)
            ·rw [if_pos c53] at H
             have c53b0 : (t255 == (-1)) = true := beq_iff_eq.mpr c53
             have c53b1 : (t255 != (-1)) = false := bne_eq_false_iff_eq.mpr c53
             clear c53
             by_cases c54 : t270 = true
             ·subst c54
              rw [if_pos rfl] at H
              by_cases c55 : 0 < (t269.length : Int)
              ·rw [if_pos c55] at H
               have c55b0 : decide (0 < (t269.length : Int)) = true := decide_eq_true c55
               have c55b1 : decide (0 < t269.length) = true := decide_eq_true (by omega)
               clear c55
               by_cases c56 : (rd t269 0) = 2
               ·rw [if_pos c56] at H
                have c56b0 : ((rd t269 0) == 2) = true := beq_iff_eq.mpr c56
                have c56b1 : ((rd t269 0) != 2) = false := bne_eq_false_iff_eq.mpr c56
                clear c56
                by_cases c57 : 1 < (t269.length : Int)
                ·rw [if_pos c57] at H
                 have c57b0 : decide (1 < (t269.length : Int)) = true := decide_eq_true c57
                 have c57b1 : decide (1 < t269.length) = true := decide_eq_true (by omega)
                 clear c57
                 obtain rfl := Option.some.inj H
                 go_wp2_with (first | ((with_reducible refine gate_callee (f := 32) rfl ?_); refine goesL_ (some 78) rfl rfl Try.func32 (by kernel_rfl) rfl #[.slice A0 l0.length c0, .int .i64 0] rfl av ?_; (with_reducible refine (laws_at.calls _ _ l0 0 t254 _ ?side1 ?side2 A27.out).mono ?_); (case side1 => exact cv ((Kd.C_below HR0.out HB.out))); (case side2 => exact HC0.out); rintro e w' ⟨rfl, ⟨nd, rfl⟩⟩; refine ⟨_, rfl, ?_⟩) | ((with_reducible refine gate_callee (f := 33) rfl ?_); refine goesL_ (some 82) rfl rfl Try.func33 (by kernel_rfl) rfl #[.int .u8 ((t254) % 256)] rfl av ?_; (with_reducible refine (impl_GfLog.calls kj16 ((t254) % 256) t255 false _ A28.out).mono ?_); rintro e w' ⟨rfl, ⟨nd, rfl⟩⟩; refine ⟨_, rfl, ?_⟩) | ((with_reducible refine gate_dst (N := 86) rfl ?_); (try (refine gate_guard (by rfl) ?_; dsimp only)); refine Kd.R_lit (Kd.int .u8) _ 5 ?hg (N := 86) ?hd (xs := ([2, 0] : List Int)) (inner := [.int .u8 2, .int .u8 0]) (ok := fun _ => True) (okp := fun _ => True) ?hr ?hp (fun _ hk => hk) trivial (Below.refl _ _) (Nat.le_refl _) (by simp) ?_; (case hd => rfl); (case hg => rfl); (case hr => first | (go_simp; done) | (go_simp; rfl)); (case hp => exact (Reps.one (show Kd.M (Kd.int .u8) _ _ _ 2 [.int .u8 2] from rfl) (Reps.one (show Kd.M (Kd.int .u8) _ _ _ 0 [.int .u8 0] from rfl) (Reps.none _ _)))); intro v258 w58 ho59 hb hg_ hnew_; clear hg_ hnew_; (first | rw [← Ny257.out] at ho59 | (simp only [Int.reduceToNat] at ho59; rw [← Ny257.out] at ho59)); replace HO_3 := Aside0.mk (Kd.N_elder' (mv HO_3.out) (Kd.R_base ho59) hb); have HO259 := Aside0.mk (Kd.R_lower (Kd.R_new' (Kd.R_new' ho59 (Kd.Q_lt (by (with_reducible repeat (first | apply Kd.Q_alloc | apply Kd.Q_drewN | apply Kd.Q_drew)); exact HO_4.out))) (Kd.R_lt (mv HO_5.out))) (below_size (bt))); replace HO_4 := Aside0.mk (Kd.Q_elder' (by (with_reducible repeat (first | apply Kd.Q_alloc | apply Kd.Q_drewN | apply Kd.Q_drew)); exact HO_4.out) (Kd.R_base ho59) hb); replace HO_5 := Aside0.mk (Kd.R_elder' (mv HO_5.out) (Kd.R_base ho59) hb); replace HB := Aside0.mk (below_step (bt) hb); clear hb ho59) | ((with_reducible refine gate_dst (N := 87) rfl ?_); (try (refine gate_guard (by rfl) ?_; dsimp only)); refine Kd.R_lit (Kd.int .u8) _ 5 ?hg (N := 87) ?hd (xs := ([0, 1] : List Int)) (inner := [.int .u8 0, .int .u8 1]) (ok := fun _ => True) (okp := fun _ => True) ?hr ?hp (fun _ hk => hk) trivial (Below.refl _ _) (Nat.le_refl _) (by simp) ?_; (case hd => rfl); (case hg => rfl); (case hr => first | (go_simp; done) | (go_simp; rfl)); (case hp => exact (Reps.one (show Kd.M (Kd.int .u8) _ _ _ 0 [.int .u8 0] from rfl) (Reps.one (show Kd.M (Kd.int .u8) _ _ _ 1 [.int .u8 1] from rfl) (Reps.none _ _)))); intro v261 w60 ho61 hb hg_ hnew_; clear hg_ hnew_; (first | rw [← Ny260.out] at ho61 | (simp only [Int.reduceToNat] at ho61; rw [← Ny260.out] at ho61)); replace HO_3 := Aside0.mk (Kd.N_elder' (mv HO_3.out) (Kd.R_base ho61) hb); have HO262 := Aside0.mk (Kd.R_lower (Kd.R_new' (Kd.R_new' (Kd.R_new' ho61 (Kd.Q_lt (by (with_reducible repeat (first | apply Kd.Q_alloc | apply Kd.Q_drewN | apply Kd.Q_drew)); exact HO_4.out))) (Kd.R_lt (mv HO_5.out))) (Kd.R_lt (mv HO259.out))) (below_size (bt))); replace HO_4 := Aside0.mk (Kd.Q_elder' (by (with_reducible repeat (first | apply Kd.Q_alloc | apply Kd.Q_drewN | apply Kd.Q_drew)); exact HO_4.out) (Kd.R_base ho61) hb); replace HO_5 := Aside0.mk (Kd.R_elder' (mv HO_5.out) (Kd.R_base ho61) hb); replace HO259 := Aside0.mk (Kd.R_elder' (mv HO259.out) (Kd.R_base ho61) hb); replace HB := Aside0.mk (below_step (bt) hb); clear hb ho61; obtain ⟨Ao62, co62, eo62⟩ := Kd.R_slice HO259.out; subst eo62; obtain ⟨Ao63, co63, eo63⟩ := Kd.R_slice HO262.out; subst eo63) | ((with_reducible refine gate_dst (N := 88) rfl ?_); (try (refine gate_guard (by rfl) ?_; dsimp only)); refine Kd.N_lit (Kd.slice 5 (Kd.int .u8)) _ 24 ?hg (N' := 88) ?hd (xs := ([y257, y260] : List (List Int))) (inner := [.slice Ao62 y257.length co62, .slice Ao63 y260.length co63]) (ok := (fun k_ => some k_ ≠ (.slice Ao9 t236.length co9 : Value).ownBlock ∧ some k_ ≠ (.slice Ao10 t237.length co10 : Value).ownBlock ∧ some k_ ≠ (v244 : Value).ownBlock)) (okp := (fun k_ => some k_ ≠ (.slice Ao9 t236.length co9 : Value).ownBlock ∧ some k_ ≠ (.slice Ao10 t237.length co10 : Value).ownBlock ∧ some k_ ≠ (v244 : Value).ownBlock)) ?hr ?hp (fun _ hk => hk) ((show ∀ k_, w60.heap.size ≤ k_ → (fun k_ => some k_ ≠ (.slice Ao9 t236.length co9 : Value).ownBlock ∧ some k_ ≠ (.slice Ao10 t237.length co10 : Value).ownBlock ∧ some k_ ≠ (v244 : Value).ownBlock) k_ from fun k_ hk => ⟨Kd.fresh' (Kd.N_lt (mv HO_3.out)) k_ hk, Kd.fresh' (Kd.Q_lt (by (with_reducible repeat (first | apply Kd.Q_alloc | apply Kd.Q_drewN | apply Kd.Q_drew)); exact HO_4.out)) k_ hk, Kd.fresh' (Kd.R_lt (mv HO_5.out)) k_ hk⟩) _ (Nat.le_refl _)) (Below.refl _ _) (Nat.le_refl _) (by simp) ?_; (case hd => rfl); (case hg => rfl); (case hr => first | (go_simp; done) | (go_simp; rfl)); (case hp => exact (Reps.one (show Kd.FK (Kd.slice 5 (Kd.int .u8)) _ _ y257 [.slice Ao62 y257.length co62] from (Kd.FK_slice_mk (Kd.R_reads' (Kd.R_mono (ok' := (fun k_ => some k_ ≠ (.slice Ao9 t236.length co9 : Value).ownBlock ∧ some k_ ≠ (.slice Ao10 t237.length co10 : Value).ownBlock ∧ some k_ ≠ (v244 : Value).ownBlock)) (Kd.R_apart' (HO259.out) (Kd.N_typed HO_3.out) (by decide)) (fun k_ hk => ⟨hk.2, ⟨hk.1.1.1.2, hk.1.1.2⟩⟩))).2.1 (Kd.R_F (Kd.R_mono (ok' := (fun k_ => some k_ ≠ (.slice Ao9 t236.length co9 : Value).ownBlock ∧ some k_ ≠ (.slice Ao10 t237.length co10 : Value).ownBlock ∧ some k_ ≠ (v244 : Value).ownBlock)) (Kd.R_apart' (HO259.out) (Kd.N_typed HO_3.out) (by decide)) (fun k_ hk => ⟨hk.2, ⟨hk.1.1.1.2, hk.1.1.2⟩⟩))))) (Reps.one (show Kd.FK (Kd.slice 5 (Kd.int .u8)) _ _ y260 [.slice Ao63 y260.length co63] from (Kd.FK_slice_mk (Kd.R_reads' (Kd.R_mono (ok' := (fun k_ => some k_ ≠ (.slice Ao9 t236.length co9 : Value).ownBlock ∧ some k_ ≠ (.slice Ao10 t237.length co10 : Value).ownBlock ∧ some k_ ≠ (v244 : Value).ownBlock)) (Kd.R_apart' (HO262.out) (Kd.N_typed HO_3.out) (by decide)) (fun k_ hk => ⟨hk.2, ⟨hk.1.1.1.2, hk.1.1.2⟩⟩))).2.1 (Kd.R_F (Kd.R_mono (ok' := (fun k_ => some k_ ≠ (.slice Ao9 t236.length co9 : Value).ownBlock ∧ some k_ ≠ (.slice Ao10 t237.length co10 : Value).ownBlock ∧ some k_ ≠ (v244 : Value).ownBlock)) (Kd.R_apart' (HO262.out) (Kd.N_typed HO_3.out) (by decide)) (fun k_ hk => ⟨hk.2, ⟨hk.1.1.1.2, hk.1.1.2⟩⟩))))) (Reps.none _ _)))); intro v264 w64 ho65 hb hg_ hnew_; clear hg_ hnew_; (first | rw [← Ny263.out] at ho65 | (simp only [Int.reduceToNat] at ho65; rw [← Ny263.out] at ho65)); replace HO_3 := Aside0.mk (Kd.N_elder' (mv HO_3.out) (Kd.N_base ho65) hb); replace HO_4 := Aside0.mk (Kd.Q_below (by (with_reducible repeat (first | apply Kd.Q_alloc | apply Kd.Q_drewN | apply Kd.Q_drew)); exact HO_4.out) hb); replace HO_5 := Aside0.mk (Kd.R_below (mv HO_5.out) hb); have HO265 := Aside0.mk (Kd.N_lower ho65 (below_size (bt))); replace HB := Aside0.mk (below_step (bt) hb); clear HO259 HO262; clear hb ho65) | ((with_reducible refine gate_dst (N := 89) rfl ?_); (try (refine gate_guard (by rfl) ?_; dsimp only)); refine Kd.R_lit (Kd.int .u8) _ 5 ?hg (N := 89) ?hd (xs := ([4, 9] : List Int)) (inner := [.int .u8 4, .int .u8 9]) (ok := fun _ => True) (okp := fun _ => True) ?hr ?hp (fun _ hk => hk) trivial (Below.refl _ _) (Nat.le_refl _) (by simp) ?_; (case hd => rfl); (case hg => rfl); (case hr => first | (go_simp; done) | (go_simp; rfl)); (case hp => exact (Reps.one (show Kd.M (Kd.int .u8) _ _ _ 4 [.int .u8 4] from rfl) (Reps.one (show Kd.M (Kd.int .u8) _ _ _ 9 [.int .u8 9] from rfl) (Reps.none _ _)))); intro v267 w66 ho67 hb hg_ hnew_; clear hg_ hnew_; (first | rw [← Ny266.out] at ho67 | (simp only [Int.reduceToNat] at ho67; rw [← Ny266.out] at ho67)); replace HO_3 := Aside0.mk (Kd.N_elder' (mv HO_3.out) (Kd.R_base ho67) hb); replace HO265 := Aside0.mk (Kd.N_elder' (mv HO265.out) (Kd.R_base ho67) hb); have HO268 := Aside0.mk (Kd.R_lower (Kd.R_new' (Kd.R_new' ho67 (Kd.Q_lt (by (with_reducible repeat (first | apply Kd.Q_alloc | apply Kd.Q_drewN | apply Kd.Q_drew)); exact HO_4.out))) (Kd.R_lt (mv HO_5.out))) (below_size (bt))); replace HO_4 := Aside0.mk (Kd.Q_elder' (by (with_reducible repeat (first | apply Kd.Q_alloc | apply Kd.Q_drewN | apply Kd.Q_drew)); exact HO_4.out) (Kd.R_base ho67) hb); replace HO_5 := Aside0.mk (Kd.R_elder' (mv HO_5.out) (Kd.R_base ho67) hb); replace HB := Aside0.mk (below_step (bt) hb); clear hb ho67; obtain ⟨Ao68, co68, eo68⟩ := Kd.N_slice HO265.out; subst eo68; obtain ⟨Ao69, co69, eo69⟩ := Kd.R_slice HO268.out; subst eo69) | ((with_reducible refine gate_callee (f := 26) rfl ?_); refine goesL_ (some 90) rfl rfl Try.func26 (by kernel_rfl) rfl #[.slice Ao68 y263.length co68, .slice Ao69 y266.length co69] rfl av ?_; (with_reducible refine (impl_GfSolve.calls kj16 _ _ y263 _ _ y266 t269 true _ ?side1 ?side2 ?side3 ?side4 A29.out).mono ?_); (case side1 => exact cv ((Kd.N_reads' HO265.out).2.2)); (case side2 => exact (Kd.N_reads' HO265.out).2.1); (case side3 => exact cv ((Kd.R_reads' HO268.out).2.2)); (case side4 => exact (Kd.R_reads' HO268.out).2.1); rintro e w70 ⟨v271, rfl, ho0, hb⟩; refine ⟨_, rfl, ?_⟩; replace HO_3 := Aside0.mk (Kd.N_elder' (mv HO_3.out) (Kd.R_base ho0) hb); replace HO265 := Aside0.mk (Kd.N_elder' (mv HO265.out) (Kd.R_base ho0) hb); have HO272 := Aside0.mk (Kd.R_lower (Kd.R_new' (Kd.R_new' (Kd.R_new' ho0 (Kd.Q_lt (by (with_reducible repeat (first | apply Kd.Q_alloc | apply Kd.Q_drewN | apply Kd.Q_drew)); exact HO_4.out))) (Kd.R_lt (mv HO_5.out))) (Kd.R_lt (mv HO268.out))) (below_size (bt))); replace HO_4 := Aside0.mk (Kd.Q_elder' (by (with_reducible repeat (first | apply Kd.Q_alloc | apply Kd.Q_drewN | apply Kd.Q_drew)); exact HO_4.out) (Kd.R_base ho0) hb); replace HO_5 := Aside0.mk (Kd.R_elder' (mv HO_5.out) (Kd.R_base ho0) hb); replace HO268 := Aside0.mk (Kd.R_elder' (mv HO268.out) (Kd.R_base ho0) hb); replace HB := Aside0.mk (below_step (bt) hb); (try clear hb); (try clear hb2); (try clear hk); (try clear hi); (try clear ho0); obtain ⟨Ao71, co71, eo71⟩ := Kd.R_slice HO272.out; subst eo71; have p276 : 0 ≤ (0 : Int) := (by omega); have q276 : 0 < (t269.length : Int) := of_decide_eq_true asm; obtain ⟨ad276, e276, hx276_0⟩ := Kd.at_int (Kd.R_reads' HO272.out).2.2 0 p276 q276; cases e276; have qi276 : (0 < t269.length) = True := eq_true (by omega); (try rw [show ((0 : Int)).toNat = 0 from rfl] at hx276_0); (try rw [Addr.add_zero'] at hx276_0); replace p276 := eq_true p276; replace q276 := eq_true q276; have p277 : 0 ≤ (1 : Int) := (by omega); have q277 : 1 < (t269.length : Int) := of_decide_eq_true asm; obtain ⟨ad277, e277, hx277_0⟩ := Kd.at_int (Kd.R_reads' HO272.out).2.2 1 p277 q277; obtain rfl : ad276 = ad277 := (by injection e277); (try simp only [show (1 : Int).toNat = 1 from rfl, Nat.reduceMul, Nat.reduceEqDiff, Go.Addr.add, ↓reduceIte] at hx277_0); have qi277 : (1 < t269.length) = True := eq_true (by omega); (try rw [show ((1 : Int)).toNat = 1 from rfl] at hx277_0); replace p277 := eq_true p277; replace q277 := eq_true q277))
                 go_ret
                 exact ⟨by first | rfl | (simp [errW_none, errW_some] <;> rfl) | (simp [*, errW_none, errW_some] <;> rfl), bt⟩
                ·rw [if_neg c57] at H
                 exact absurd H (by simp)
               ·rw [if_neg c56] at H
                have c56b0 : ((rd t269 0) == 2) = false := beq_eq_false_iff_ne.mpr c56
                have c56b1 : ((rd t269 0) != 2) = true := bne_iff_ne.mpr c56
                exact absurd ((Option.some.inj H).trans hT.out) (by decide)
              ·rw [if_neg c55] at H
               exact absurd H (by simp)
             ·replace c54 := Bool.eq_false_iff.mpr c54
              subst c54
              rw [if_neg (show ¬ (false = true) by decide)] at H
              exact absurd ((Option.some.inj H).trans hT.out) (by decide)
            ·rw [if_neg c53] at H
             have c53b0 : (t255 == (-1)) = false := beq_eq_false_iff_ne.mpr c53
             have c53b1 : (t255 != (-1)) = true := bne_iff_ne.mpr c53
             exact absurd ((Option.some.inj H).trans hT.out) (by decide)
          ·rw [if_neg c30] at H
           have c30b0 : (t256 == (((t254) % 256) != 0)) = false := by simpa using c30
           (try (have c30b1 : decide (t256 = (((t254) % 256) != 0)) = false := by simpa using c30))
           (try (have c30b2 : (t256 == (((t254) % 256) != 0)) = false := by simpa using c30))
           (try (have c30b3 : ¬ (t256 = (((t254) % 256) != 0)) := by simpa using c30))
           clear c30
           exact absurd ((Option.some.inj H).trans hT.out) (by decide)

/-- THE ONE PURE STATEMENT of laws_FnSolved: yours. -/
def laws_FnSolved.Pure : Prop := ∀ (l0 : List Int), l0.length ≤ maxLen → l0.length * 1 ≤ 140737488351232 → (∀ x ∈ l0, (Lit.int .u8 x).wf = true) → ∃ k, laws_FnSolved.f k l0 = some true
theorem laws_FnSolved.walk (P : laws_FnSolved.Pure) (a0 : Option Addr) (len0 cap0 : Nat) (z0 : List Int) (w : World) (w0 : (a0 = none ∧ len0 = 0 ∧ cap0 = 0 ∧ z0 = []) ∨ ∃ x, a0 = some x ∧ len0 ≤ cap0 ∧ cap0 ≤ maxLen ∧ z0.length = cap0 ∧ (∀ i, i < z0.length → w.cell? (x.add i) = some (.int .u8 (z0.getD i 0))) ∧ ∀ n ∈ z0, (Lit.int .u8 n).wf = true) (y0 : len0 * 1 ≤ 140737488351232) :
  Calls Try.prog 7 #[.slice a0 len0 cap0] w fun e w' => e = .returned (.bool true) ∧ Below w.heap.size w w' := by
 obtain ⟨l0, rfl, hr0, hm0, hw0, hc0⟩ := ReadsInt.ofRowC w0
 obtain ⟨k, h⟩ := P l0 hm0 y0 hw0
 refine (laws_FnSolved.calls k _ _ l0 true w ⟨rfl⟩ (Kd.C_of_reads (d := (0 : Int)) (h1 := fun _ => rfl) hr0) hc0 h).mono ?_
 rintro e w' ⟨rfl, hd⟩
 exact ⟨rfl, hd⟩

end Go.Proofs.Ythaoloacbbohlaa.PFnSolved
