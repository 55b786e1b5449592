-- Written by a program of this workplace (wip/mp.py) out of the translation.
import Derived.Test.YtaacidhgnappdaaPFnProvenx0
import Derived.Test.YtaacidhgnappdaaPFnProvenx1
import Derived.Test.YtaacidhgnappdaaPFnProvenx3
import Derived.Test.YtaacidhgnappdaaPFnProvenx4
import Derived.Test.YtaacidhgnappdaaPFnProvenx5
import Derived.Test.YtaacidhgnappdaaPFnProvenx6
namespace Go.Proofs.Ytaacidhgnappdaa.PFnProven
open Go.RowKit Go.Proofs.YtaacidhgnappdaaW.PrintWords Go.Proofs.YtaacidhgnappdaaW.PrintLast Go.Proofs.YtaacidhgnappdaaW.PrintMore Go.Proofs.Ytaacidhgnappdaa.Slim
attribute [local go_sem] max2_int min2_int max_two min_two max_three min_three max_four min_four   -- for this text's walks alone
set_option linter.unusedVariables false
set_option linter.unusedSimpArgs false

/-! ### laws_FnProven: function 4 -/
mutual
def laws_FnProven.j0 : Nat → List Int → Int → List (List Int) → Int → Bool → Option (Bool)
 | 0, _, _, _, _, _ => none
 | k + 1, x0, x3, x4, x5, x30 => if x30 = true then (some false) else (laws_FnProven.l0 k x0 x3 x4 x5 0)
def laws_FnProven.l0 : Nat → List Int → Int → List (List Int) → Int → Int → Option (Bool)
 | 0, _, _, _, _, _ => none
 | k + 1, x0, x3, x4, x5, x6 => if x6 < (x4.length : Int) then ((impl_Path.f k x3 x4 x6).bind fun bt339 => (if bt339.2 = true then (if 0 ≤ x6 then ((impl_Proven.f k x3 x5 (x4.length : Int) x6 (rd_L1 x4 x6) bt339.1).bind fun t344 => (if t344 = true then ((impl_RootFrom.f k x3 (x4.length : Int) x6 (rd_L1 x4 x6) bt339.1).bind fun t346 => (laws_FnProven.j2 k x0 x3 x4 x5 x6 bt339.1 (t346 != x5))) else (laws_FnProven.j2 k x0 x3 x4 x5 x6 bt339.1 true))) else (none)) else (laws_FnProven.j2 k x0 x3 x4 x5 x6 bt339.1 true))) else (if 0 < (x4.length : Int) then ((impl_LeafOf.f x3 (rd_L1 x4 0)).bind fun t362 => ((impl_NodeOf.f k x3 t362 t362).bind fun t363 => (if t363 ≥ 0 then ((impl_NodeOf.f k x3 (-1) 0).bind fun t364 => (if t364 = (-1) then ((some (([0] : List Int) : List Int)).bind fun y365 => (if y365.length + (rd_L1 x4 0).length < 140737488355328 then ((impl_Digest.f x3 (y365 ++ (rd_L1 x4 0))).bind fun t372 => (some (t362 == t372))) else (none))) else (some false))) else (some false)))) else (none))
def laws_FnProven.j2 : Nat → List Int → Int → List (List Int) → Int → Int → List Int → Bool → Option (Bool)
 | 0, _, _, _, _, _, _, _ => none
 | k + 1, x0, x3, x4, x5, x6, x7, x73 => if x73 = true then (some false) else ((laws_at.f x0 x6).bind fun t347 => ((some (([(t347) % 256, 9, 9, 9, 9, 9, 9] : List Int) : List Int)).bind fun y348 => ((impl_Changed.f k x3 x4 x6 y348).bind fun bt351 => (if bt351.2 = true then ((impl_Proven.f k x3 bt351.1 (x4.length : Int) x6 y348 x7).bind fun t353 => (laws_FnProven.j3 k x0 x3 x4 x5 x6 x7 (!t353))) else (laws_FnProven.j3 k x0 x3 x4 x5 x6 x7 true)))))
def laws_FnProven.j3 : Nat → List Int → Int → List (List Int) → Int → Int → List Int → Bool → Option (Bool)
 | 0, _, _, _, _, _, _, _ => none
 | k + 1, x0, x3, x4, x5, x6, x7, x99 => if x99 = true then (some false) else (if (x7.length : Int) > 0 then (if 0 ≤ x6 then (if x6 < (x4.length : Int) then (if 1 ≤ (x7.length : Int) then ((impl_Proven.f k x3 x5 (x4.length : Int) x6 (rd_L1 x4 x6) (x7.drop 1)).bind fun t360 => (if t360 = true then (some false) else (laws_FnProven.l0 k x0 x3 x4 x5 (wrap64 (x6 + 1))))) else (none)) else (none)) else (none)) else (laws_FnProven.l0 k x0 x3 x4 x5 (wrap64 (x6 + 1))))
end
def laws_FnProven.f (k : Nat) (l0 : List Int) : Option (Bool) := (laws_big.f l0).bind fun t333 => (if t333 = true then (some true) else ((spec_DrawLeaves.f k l0).bind fun bt334 => ((impl_TreeRoot.f k bt334.1 bt334.2).bind fun t338 => (if t338 < 0 then (laws_FnProven.j0 k l0 bt334.1 bt334.2 t338 true) else (if 0 ≤ bt334.1 then (laws_FnProven.j0 k l0 bt334.1 bt334.2 t338 (decide (t338 ≥ (shl .i64 1 bt334.1)))) else (none))))))
def laws_FnProven.T17 : Bool × List (List Nat × List Nat) := (true, [([], []), ([0], [0]), ([1], [1]), ([2], [2]), ([3], [3]), ([3], [3]), ([3], [3]), ([6, 3], [3, 6]), ([3], [3]), ([3], [3]), ([3], [3]), ([9, 10, 3], [3, 9, 10]), ([11, 3], [3, 11]), ([3], [3]), ([13, 3], [3, 13]), ([4, 5, 7, 8, 12, 14, 3, 3], [3, 4, 5, 7, 8, 12, 14]), ([3, 15], [3, 15])])
def laws_FnProven.B17 : List Nat := [0, 1, 3, 7, 15, 15, 15, 79, 15, 15, 15, 1551, 3599, 15, 8207, 32767, 65535]
theorem laws_FnProven.tab17 : rtab .any (opsOf Try.f4 17) = laws_FnProven.T17 := by kernel_rfl
theorem laws_FnProven.bits17 : waitsOk laws_FnProven.T17.2 laws_FnProven.B17 = true := by kernel_rfl
set_option maxHeartbeats 8000000 in
set_option maxRecDepth 100000 in
theorem laws_FnProven.calls (k : Nat) (A0 : Option Addr) (c0 : Nat) (l0 : List Int) (r : Bool) (w : World) (hT : Aside0 (r = true)) (hr0 : Kd.C (Kd.int .u8) w A0 l0.length l0) (hc0 : l0.length ≤ c0) (h : laws_FnProven.f k l0 = some r) :
  Calls Try.prog 4 #[.slice A0 l0.length c0] w fun e w' => e = .returned (.bool r) ∧ Below w.heap.size w w' := by
 have HR0 := Aside0.mk hr0
 have HC0 := Aside0.mk hc0
 clear hr0 hc0
 have HB := Aside0.mk (Below.refl w.heap.size w)
 have H : ((laws_big.f l0).bind fun t333 => (if t333 = true then (some true) else ((spec_DrawLeaves.f k l0).bind fun bt334 => ((impl_TreeRoot.f k bt334.1 bt334.2).bind fun t338 => (if t338 < 0 then (laws_FnProven.j0 k l0 bt334.1 bt334.2 t338 true) else (if 0 ≤ bt334.1 then (laws_FnProven.j0 k l0 bt334.1 bt334.2 t338 (decide (t338 ≥ (shl .i64 1 bt334.1)))) else (none))))))) = some r := h
 clear h
 replace H := Option.bind_eq_some_iff.mp H
 obtain ⟨t333, A20, H⟩ := H
 (try dsimp -simprocs only at H)
 have A2 := Aside0.mk A20
 clear A20
 by_cases c3 : t333 = true
 ·subst c3
  rw [if_pos rfl] at H
  obtain rfl := Option.some.inj H
  go_enter Try.func4, Try.ntmps4
  go_wp2_with (first | ((with_reducible refine gate_callee (f := 20) rfl ?_); refine goesL_ (some 14) rfl rfl Try.func20 (by kernel_rfl) rfl #[.slice A0 l0.length c0] rfl av ?_; (with_reducible refine (laws_big.calls _ _ l0 true _ ?side1 ?side2 A2.out).mono ?_); (case side1 => exact cv (HR0.out)); (case side2 => exact HC0.out); rintro e w' ⟨rfl, ⟨nd, rfl⟩⟩; refine ⟨_, rfl, ?_⟩))
  go_ret
  exact ⟨by first | rfl | (simp [errW_none, errW_some] <;> rfl) | (simp [*, errW_none, errW_some] <;> rfl), bt⟩
 ·replace c3 := Bool.eq_false_iff.mpr c3
  subst c3
  rw [if_neg (show ¬ (false = true) by decide)] at H
  replace H := Option.bind_eq_some_iff.mp H
  obtain ⟨⟨t334, t335⟩, A40, H⟩ := H
  (try dsimp -simprocs only at H)
  have A4 := Aside0.mk A40
  clear A40
  replace H := Option.bind_eq_some_iff.mp H
  obtain ⟨t338, A50, H⟩ := H
  (try dsimp -simprocs only at H)
  have A5 := Aside0.mk A50
  clear A50
  have HC6 := Aside0.mk H
  clear H
  go_enter Try.func4, Try.ntmps4
  go_upto_region 5 with (first | ((with_reducible refine gate_callee (f := 20) rfl ?_); refine goesL_ (some 14) rfl rfl Try.func20 (by kernel_rfl) rfl #[.slice A0 l0.length c0] rfl av ?_; (with_reducible refine (laws_big.calls _ _ l0 false _ ?side1 ?side2 A2.out).mono ?_); (case side1 => exact cv (HR0.out)); (case side2 => exact HC0.out); rintro e w' ⟨rfl, ⟨nd, rfl⟩⟩; refine ⟨_, rfl, ?_⟩) | ((with_reducible refine gate_callee (f := 21) rfl ?_); refine goesL_ (some 17) rfl rfl Try.func21 (by kernel_rfl) rfl #[.slice A0 l0.length c0] rfl av ?_; (with_reducible refine (spec_DrawLeaves.calls k _ _ l0 t334 t335 _ ?side1 ?side2 A4.out).mono ?_); (case side1 => exact cv (HR0.out)); (case side2 => exact HC0.out); rintro e w7 ⟨v336, rfl, ho0, hb⟩; refine ⟨_, rfl, ?_⟩; have HO337 := Aside0.mk (Kd.N_lower (Kd.N_mono (ok' := fun k_ => True) ho0 (fun k_ hk_ => trivial)) (below_size (bt))); replace HB := Aside0.mk (below_step (bt) hb); (try clear hb); (try clear hb2); (try clear hk); (try clear hi); (try clear ho0); obtain ⟨Ao8, co8, eo8⟩ := Kd.N_slice HO337.out; subst eo8) | ((with_reducible refine gate_callee (f := 22) rfl ?_); refine goesL_ (some 22) rfl rfl Try.func22 (by kernel_rfl) rfl #[.int .i64 t334, .slice Ao8 t335.length co8] rfl av ?_; (with_reducible refine (impl_TreeRoot.calls k t334 _ _ t335 t338 _ ?side1 ?side2 A5.out).mono ?_); (case side1 => exact cv ((Kd.N_reads' HO337.out).2.2)); (case side2 => exact (Kd.N_reads' HO337.out).2.1); rintro e w9 ⟨rfl, hb⟩; refine ⟨_, rfl, ?_⟩; replace HO337 := Aside0.mk (Kd.N_below (mv HO337.out) hb); replace HB := Aside0.mk (below_step (bt) hb); (try clear hb); (try clear hb2); (try clear hk); (try clear hi)))
  (try simp only [Act.put, List.setIfInBounds_toArray, List.set_cons_zero, List.set_cons_succ])
  go_cut [30] (fun v30 wc => ∃ (kq : Nat) (x30_5 : Bool), v30 = .bool x30_5 ∧ Aside0 (laws_FnProven.j0 kq l0 t334 t335 t338 x30_5 = some r) ∧ Aside0 (kq ≤ k) ∧ Aside0 (Kd.N (Kd.slice 5 (Kd.int .u8)) 22 wc w.heap.size (fun _ => True) (.slice Ao8 t335.length co8) t335) ∧ Aside0 (Below w.heap.size w wc))
  case first =>
   have H := HC6.out
   clear HC6
   by_cases c10 : t338 < 0
   ·rw [if_pos c10] at H
    have c10b0 : decide (t338 < 0) = true := decide_eq_true c10
    clear c10
    (first | rw [c10b0] | (simp only [i64_w, i32_w]; rw [c10b0]) | skip)
    have H' := Aside0.mk H
    clear H
    go_wp2
    go_meet
    case rel => exact ⟨_, (true), (by first | rfl | (simp; done) | (simp [*]; done)), H', ⟨by first | omega | exact Nat.le_refl _⟩, ⟨mv HO337.out⟩, ⟨bt⟩⟩
   ·rw [if_neg c10] at H
    have c10b0 : decide (t338 < 0) = false := decide_eq_false c10
    clear c10
    (first | rw [c10b0] | (simp only [i64_w, i32_w]; rw [c10b0]) | skip)
    by_cases c11 : 0 ≤ t334
    ·rw [if_pos c11] at H
     have c11b0 := eq_true c11
     have c11b1 : decide (0 ≤ t334) = true := decide_eq_true c11
     clear c11
     obtain ⟨ji12, hji12⟩ : ∃ j_ : Int, (shl .i64 1 t334) = j_ := ⟨_, rfl⟩
     replace H : (laws_FnProven.j0 k l0 t334 t335 t338 (decide (t338 ≥ (ji12)))) = some r := by first | (rw [hji12] at H; exact H) | (simp only [hji12] at H ⊢; exact H)
     have hji12_ : (IntKind.i64.wrap (1 * 2 ^ min t334.toNat 64)) = ji12 := hji12
     have hji12z : t334 ≤ 64 → (IntKind.i64.wrap (1 * 2 ^ t334.toNat)) = ji12 := shl_small hji12
     have hji12u : (IntKind.i64.wrap (2 ^ min t334.toNat 64)) = ji12 := by have h_ := hji12_; rw [Int.one_mul] at h_; exact h_
     have hji12v : t334 ≤ 64 → (IntKind.i64.wrap (2 ^ t334.toNat)) = ji12 := fun hle_ => by have h_ := hji12z hle_; rw [Int.one_mul] at h_; exact h_
     have hji12y : (wrap64 (1 * 2 ^ min t334.toNat 64)) = ji12 := (i64_w _).symm.trans hji12_
     have hji12x : t334 ≤ 64 → (wrap64 (1 * 2 ^ t334.toNat)) = ji12 := fun h_ => (i64_w _).symm.trans (hji12z h_)
     have H' := Aside0.mk H
     clear H
     go_wp2
     go_meet
     case rel => exact ⟨_, (decide (t338 ≥ (ji12))), (by first | rfl | (simp; done) | (simp only [← hji12] <;> (first | rfl | simp)) | (simp [*]; done)), H', ⟨by first | omega | exact Nat.le_refl _⟩, ⟨mv HO337.out⟩, ⟨bt⟩⟩
    ·rw [if_neg c11] at H
     exact absurd H (by simp)
  case rest =>
   clear HC6
   try clear c1
   try clear c2
   try clear p2
   try clear c3
   try clear c4
   try clear p6
   try clear c10
   try clear c10b0
   try clear c11
   try clear c11b0
   try clear c11b1
   obtain ⟨kq, x30_5, rfl, HA, HJ5, HO_4, HB⟩ := hcut
   cases kq with
   | zero => exact absurd HA.out (by simp [laws_FnProven.j0])
   | succ kj5 =>
    have H := HA.out
    clear HA
    simp only [laws_FnProven.j0] at H
    by_cases c13 : x30_5 = true
    ·subst c13
     rw [if_pos rfl] at H
     exact absurd ((Option.some.inj H).trans hT.out) (by decide)
    ·replace c13 := Bool.eq_false_iff.mpr c13
     subst c13
     rw [if_neg (show ¬ (false = true) by decide)] at H
     have H' := Aside0.mk H
     clear H
     go_wp2
     go_loopg [6] kj5 (fun kq v6 w' => ∃ (x6_2 : Int), v6 = .int .i64 x6_2 ∧ Aside0 (laws_FnProven.l0 kq l0 t334 t335 t338 x6_2 = some r) ∧ Aside0 (kq ≤ kj5) ∧ Aside0 (Kd.N (Kd.slice 5 (Kd.int .u8)) 22 w' w.heap.size (fun _ => True) (.slice Ao8 t335.length co8) t335) ∧ Aside0 (Below w.heap.size w w'))
     case atStart => exact ⟨(0), (by first | rfl | (simp; done) | (simp [*]; done)), H', ⟨Nat.le_refl _⟩, ⟨mv HO_4.out⟩, ⟨bt⟩⟩
     case round =>
      clear H'
      try clear c1
      try clear c2
      try clear p2
      try clear c3
      try clear c4
      try clear p6
      try clear c10
      try clear c10b0
      try clear c11
      try clear c11b0
      try clear c11b1
      try clear c13
      try clear p2
      try clear p6
      obtain ⟨x6_2, rfl, HA, HK2, HO_4, HB⟩ := hrel
      cases gk with
      | zero => exact absurd HA.out (by simp [laws_FnProven.l0])
      | succ k2 =>
       have H := HA.out
       clear HA
       simp only [laws_FnProven.l0] at H
       by_cases c14 : x6_2 < (t335.length : Int)
       ·rw [if_pos c14] at H
        have c14b0 : decide (x6_2 < (t335.length : Int)) = true := decide_eq_true c14
        clear c14
        replace H := Option.bind_eq_some_iff.mp H
        obtain ⟨⟨t339, t340⟩, A150, H⟩ := H
        (try dsimp -simprocs only at H)
        have A15 := Aside0.mk A150
        clear A150
        have HC16 := Aside0.mk H
        clear H
        go_upto_region 11 with (first | ((with_reducible refine gate_callee (f := 23) rfl ?_); refine goesL_ (some 41) rfl rfl Try.func23 (by kernel_rfl) rfl #[.int .i64 t334, .slice Ao8 t335.length co8, .int .i64 x6_2] rfl av ?_; (with_reducible refine (impl_Path.calls k2 t334 _ _ t335 x6_2 t339 t340 _ ?side1 ?side2 A15.out).mono ?_); (case side1 => exact cv ((Kd.N_reads' HO_4.out).2.2)); (case side2 => exact (Kd.N_reads' HO_4.out).2.1); rintro e w17 ⟨v341, rfl, ho0, hb⟩; refine ⟨_, rfl, ?_⟩; replace HO_4 := Aside0.mk (Kd.N_elder' (mv HO_4.out) (Kd.R_base ho0) hb); have HO342 := Aside0.mk (Kd.R_lower ho0 (below_size (bt))); replace HB := Aside0.mk (below_step (bt) hb); (try clear hb); (try clear hb2); (try clear hk); (try clear hi); (try clear ho0)))
        (try simp only [Act.put, List.setIfInBounds_toArray, List.set_cons_zero, List.set_cons_succ])
        go_cut [73] (fun v73 wc => ∃ (kq : Nat) (x73_15 : Bool), v73 = .bool x73_15 ∧ Aside0 (laws_FnProven.j2 kq l0 t334 t335 t338 x6_2 t339 x73_15 = some r) ∧ Aside0 (kq ≤ k2) ∧ Aside0 (Kd.N (Kd.slice 5 (Kd.int .u8)) 22 wc w.heap.size (fun k_ => some k_ ≠ (v341 : Value).ownBlock) (.slice Ao8 t335.length co8) t335) ∧ Aside0 (Kd.R (Kd.int .i64) 3 wc w.heap.size (fun _ => True) v341 t339) ∧ Aside0 (Below w.heap.size w wc))
        case first =>
         have H := HC16.out
         clear HC16
         by_cases c18 : t340 = true
         ·subst c18
          rw [if_pos rfl] at H
          by_cases c19 : 0 ≤ x6_2
          ·rw [if_pos c19] at H
           have c19b0 : decide (0 ≤ x6_2) = true := decide_eq_true c19
           clear c19
           (first | rw [c19b0] | (simp only [i64_w, i32_w]; rw [c19b0]) | skip)
           replace H := Option.bind_eq_some_iff.mp H
           obtain ⟨t344, A200, H⟩ := H
           (try dsimp -simprocs only at H)
           have A20 := Aside0.mk A200
           clear A200
           by_cases c21 : t344 = true
           ·subst c21
            rw [if_pos rfl] at H
            replace H := Option.bind_eq_some_iff.mp H
            obtain ⟨t346, A220, H⟩ := H
            (try dsimp -simprocs only at H)
            have A22 := Aside0.mk A220
            clear A220
            have H' := Aside0.mk H
            clear H
            have p343 : 0 ≤ (x6_2 : Int) := of_decide_eq_true asm
            have q343 : x6_2 < (t335.length : Int) := of_decide_eq_true asm
            obtain ⟨ad343, A343_0, c343_0, e343, hx343_0, hl343_0, hi343_0⟩ := at_L1 (Kd.N_reads' HO_4.out).2.2 x6_2 p343 q343
            cases e343
            obtain ⟨ce343, hce343, hMe343, hcc343⟩ := Kd.N_get HO_4.out [] x6_2 p343 (by first | exact q343 | exact of_decide_eq_true asm | (have e_ := (Kd.N_reads' HO_4.out).1; omega))
            obtain ⟨ua343_0, uc343_0, rfl, ul343_0, ge343_0⟩ := Kd.FK_slice_open hMe343
            have hv343_0 := hcc343 0 _ rfl
            rw [Nat.add_zero, show ((Kd.slice 5 (Kd.int .u8))).sz = 1 from rfl, Nat.mul_one] at hv343_0
            replace hv343_0 := Option.some.inj (hv343_0.symm.trans hx343_0)
            injection hv343_0 with hva_ hvn_ hvc_
            rw [hva_] at ge343_0
            rw [hvc_] at ul343_0
            have HL343_0 := Aside0.mk (show Kd.V (Kd.int .u8) 5 _ w.heap.size _ _ (rd_L1 t335 x6_2) from Kd.V_mk ul343_0 ge343_0)
            clear hva_ hvn_ hvc_ ge343_0 ul343_0
            clear hcc343 hce343
            have HR343_0 := Aside0.mk hi343_0
            have HC343_0 := Aside0.mk hl343_0
            clear hi343_0 hl343_0
            replace p343 := eq_true p343
            replace q343 := eq_true q343
            obtain ⟨Ao23, co23, eo23⟩ := Kd.R_slice HO342.out
            subst eo23
            go_wp2_with (first | (go_at_call 17; (with_reducible refine (impl_Proven.calls k2 t334 t338 (t335.length : Int) x6_2 _ _ (rd_L1 t335 x6_2) _ _ t339 true _ ?side1 ?side2 ?side3 ?side4 A20.out).mono ?_); (case side1 => repeat (first | exact (by repeat (first | (with_reducible exact HR343_0.out) | (with_reducible refine Kd.C_alloc ?_ _) | (with_reducible refine Kd.C_drewN ?_ _) | (with_reducible refine Kd.C_drew ?_) | exact HR343_0.out)) | (with_reducible refine Kd.C_alloc ?_ _) | (with_reducible refine Kd.C_drewN ?_ _) | (with_reducible refine Kd.C_drew ?_))); (case side2 => exact HC343_0.out); (case side3 => exact cv ((Kd.R_reads' HO342.out).2.2)); (case side4 => exact (Kd.R_reads' HO342.out).2.1); rintro e w24 ⟨rfl, hb⟩; replace HO_4 := Aside0.mk (Kd.N_below (mv HO_4.out) hb); replace HO342 := Aside0.mk (Kd.R_below (mv HO342.out) hb); replace HL343_0 := Aside0.mk (Kd.V_below (mv HL343_0.out) hb); replace HR343_0 := Aside0.mk (Kd.C_below (by repeat (first | (with_reducible exact HR343_0.out) | (with_reducible refine Kd.C_alloc ?_ _) | (with_reducible refine Kd.C_drewN ?_ _) | (with_reducible refine Kd.C_drew ?_) | exact HR343_0.out)) hb); replace HB := Aside0.mk (below_step (bt) hb); (try clear hb); (try clear hb2); (try clear hk); (try clear hi); have p345 : 0 ≤ (x6_2 : Int) := of_decide_eq_true asm; have q345 : x6_2 < (t335.length : Int) := of_decide_eq_true asm; obtain ⟨ad345, A345_0, c345_0, e345, hx345_0, hl345_0, hi345_0⟩ := at_L1 (Kd.N_reads' HO_4.out).2.2 x6_2 p345 q345; obtain rfl : ad343 = ad345 := (by injection e345); obtain ⟨ce345, hce345, hMe345, hcc345⟩ := Kd.N_get HO_4.out [] x6_2 p345 (by first | exact q345 | exact of_decide_eq_true asm | (have e_ := (Kd.N_reads' HO_4.out).1; omega)); obtain ⟨ua345_0, uc345_0, rfl, ul345_0, ge345_0⟩ := Kd.FK_slice_open hMe345; have hv345_0 := hcc345 0 _ rfl; rw [Nat.add_zero, show ((Kd.slice 5 (Kd.int .u8))).sz = 1 from rfl, Nat.mul_one] at hv345_0; replace hv345_0 := Option.some.inj (hv345_0.symm.trans hx345_0); injection hv345_0 with hva_ hvn_ hvc_; rw [hva_] at ge345_0; rw [hvc_] at ul345_0; have HL345_0 := Aside0.mk (show Kd.V (Kd.int .u8) 5 _ w.heap.size _ _ (rd_L1 t335 x6_2) from Kd.V_mk ul345_0 ge345_0); clear hva_ hvn_ hvc_ ge345_0 ul345_0; clear hcc345 hce345; have HR345_0 := Aside0.mk hi345_0; have HC345_0 := Aside0.mk hl345_0; clear hi345_0 hl345_0; replace p345 := eq_true p345; replace q345 := eq_true q345) | (go_at_call 24; (with_reducible refine (impl_RootFrom.calls k2 t334 (t335.length : Int) x6_2 _ _ (rd_L1 t335 x6_2) _ _ t339 t346 _ ?side1 ?side2 ?side3 ?side4 A22.out).mono ?_); (case side1 => repeat (first | exact (by repeat (first | (with_reducible exact HR345_0.out) | (with_reducible refine Kd.C_alloc ?_ _) | (with_reducible refine Kd.C_drewN ?_ _) | (with_reducible refine Kd.C_drew ?_) | exact HR345_0.out)) | (with_reducible refine Kd.C_alloc ?_ _) | (with_reducible refine Kd.C_drewN ?_ _) | (with_reducible refine Kd.C_drew ?_))); (case side2 => exact HC345_0.out); (case side3 => exact cv ((Kd.R_reads' HO342.out).2.2)); (case side4 => exact (Kd.R_reads' HO342.out).2.1); rintro e w25 ⟨rfl, hb⟩; replace HO_4 := Aside0.mk (Kd.N_below (mv HO_4.out) hb); replace HO342 := Aside0.mk (Kd.R_below (mv HO342.out) hb); replace HL343_0 := Aside0.mk (Kd.V_below (mv HL343_0.out) hb); replace HL345_0 := Aside0.mk (Kd.V_below (mv HL345_0.out) hb); replace HR343_0 := Aside0.mk (Kd.C_below (by repeat (first | (with_reducible exact HR343_0.out) | (with_reducible refine Kd.C_alloc ?_ _) | (with_reducible refine Kd.C_drewN ?_ _) | (with_reducible refine Kd.C_drew ?_) | exact HR343_0.out)) hb); replace HR345_0 := Aside0.mk (Kd.C_below (by repeat (first | (with_reducible exact HR345_0.out) | (with_reducible refine Kd.C_alloc ?_ _) | (with_reducible refine Kd.C_drewN ?_ _) | (with_reducible refine Kd.C_drew ?_) | exact HR345_0.out)) hb); replace HB := Aside0.mk (below_step (bt) hb); (try clear hb); (try clear hb2); (try clear hk); (try clear hi)))
            go_meet
            case rel => exact ⟨_, ((t346 != t338)), (by first | rfl | (simp; done) | (simp [*]; done)), H', ⟨by have := HJ5.out; have := HK2.out; first | omega | exact Nat.le_refl _⟩, ⟨by (with_reducible repeat (first | apply Kd.N_alloc | apply Kd.N_drewN | apply Kd.N_drew)); exact Kd.N_mono HO_4.out (fun _ hk => hk.2)⟩, ⟨mv HO342.out⟩, ⟨bt⟩⟩
           ·replace c21 := Bool.eq_false_iff.mpr c21
            subst c21
            rw [if_neg (show ¬ (false = true) by decide)] at H
            have H' := Aside0.mk H
            clear H
            have p343 : 0 ≤ (x6_2 : Int) := of_decide_eq_true asm
            have q343 : x6_2 < (t335.length : Int) := of_decide_eq_true asm
            obtain ⟨ad343, A343_0, c343_0, e343, hx343_0, hl343_0, hi343_0⟩ := at_L1 (Kd.N_reads' HO_4.out).2.2 x6_2 p343 q343
            cases e343
            obtain ⟨ce343, hce343, hMe343, hcc343⟩ := Kd.N_get HO_4.out [] x6_2 p343 (by first | exact q343 | exact of_decide_eq_true asm | (have e_ := (Kd.N_reads' HO_4.out).1; omega))
            obtain ⟨ua343_0, uc343_0, rfl, ul343_0, ge343_0⟩ := Kd.FK_slice_open hMe343
            have hv343_0 := hcc343 0 _ rfl
            rw [Nat.add_zero, show ((Kd.slice 5 (Kd.int .u8))).sz = 1 from rfl, Nat.mul_one] at hv343_0
            replace hv343_0 := Option.some.inj (hv343_0.symm.trans hx343_0)
            injection hv343_0 with hva_ hvn_ hvc_
            rw [hva_] at ge343_0
            rw [hvc_] at ul343_0
            have HL343_0 := Aside0.mk (show Kd.V (Kd.int .u8) 5 _ w.heap.size _ _ (rd_L1 t335 x6_2) from Kd.V_mk ul343_0 ge343_0)
            clear hva_ hvn_ hvc_ ge343_0 ul343_0
            clear hcc343 hce343
            have HR343_0 := Aside0.mk hi343_0
            have HC343_0 := Aside0.mk hl343_0
            clear hi343_0 hl343_0
            replace p343 := eq_true p343
            replace q343 := eq_true q343
            obtain ⟨Ao26, co26, eo26⟩ := Kd.R_slice HO342.out
            subst eo26
            go_wp2_with (first | (go_at_call 17; (with_reducible refine (impl_Proven.calls k2 t334 t338 (t335.length : Int) x6_2 _ _ (rd_L1 t335 x6_2) _ _ t339 false _ ?side1 ?side2 ?side3 ?side4 A20.out).mono ?_); (case side1 => repeat (first | exact (by repeat (first | (with_reducible exact HR343_0.out) | (with_reducible refine Kd.C_alloc ?_ _) | (with_reducible refine Kd.C_drewN ?_ _) | (with_reducible refine Kd.C_drew ?_) | exact HR343_0.out)) | (with_reducible refine Kd.C_alloc ?_ _) | (with_reducible refine Kd.C_drewN ?_ _) | (with_reducible refine Kd.C_drew ?_))); (case side2 => exact HC343_0.out); (case side3 => exact cv ((Kd.R_reads' HO342.out).2.2)); (case side4 => exact (Kd.R_reads' HO342.out).2.1); rintro e w27 ⟨rfl, hb⟩; replace HO_4 := Aside0.mk (Kd.N_below (mv HO_4.out) hb); replace HO342 := Aside0.mk (Kd.R_below (mv HO342.out) hb); replace HL343_0 := Aside0.mk (Kd.V_below (mv HL343_0.out) hb); replace HR343_0 := Aside0.mk (Kd.C_below (by repeat (first | (with_reducible exact HR343_0.out) | (with_reducible refine Kd.C_alloc ?_ _) | (with_reducible refine Kd.C_drewN ?_ _) | (with_reducible refine Kd.C_drew ?_) | exact HR343_0.out)) hb); replace HB := Aside0.mk (below_step (bt) hb); (try clear hb); (try clear hb2); (try clear hk); (try clear hi)))
            go_meet
            case rel => exact ⟨_, (true), (by first | rfl | (simp; done) | (simp [*]; done)), H', ⟨by have := HJ5.out; have := HK2.out; first | omega | exact Nat.le_refl _⟩, ⟨by (with_reducible repeat (first | apply Kd.N_alloc | apply Kd.N_drewN | apply Kd.N_drew)); exact Kd.N_mono HO_4.out (fun _ hk => hk.2)⟩, ⟨mv HO342.out⟩, ⟨bt⟩⟩
          ·rw [if_neg c19] at H
           exact absurd H (by simp)
         ·replace c18 := Bool.eq_false_iff.mpr c18
          subst c18
          rw [if_neg (show ¬ (false = true) by decide)] at H
          have H' := Aside0.mk H
          clear H
          go_wp2
          go_meet
          case rel => exact ⟨_, (true), (by first | rfl | (simp; done) | (simp [*]; done)), H', ⟨by have := HJ5.out; have := HK2.out; first | omega | exact Nat.le_refl _⟩, ⟨by (with_reducible repeat (first | apply Kd.N_alloc | apply Kd.N_drewN | apply Kd.N_drew)); exact Kd.N_mono HO_4.out (fun _ hk => hk.2)⟩, ⟨mv HO342.out⟩, ⟨bt⟩⟩
        case rest =>
         clear HC16
         try clear c1
         try clear c2
         try clear p2
         try clear c3
         try clear p3
         try clear q3
         try clear hx3
         try clear c4
         try clear p6
         try clear c10
         try clear c10b0
         try clear c11
         try clear c11b0
         try clear c11b1
         try clear c13
         try clear c14
         try clear c14b0
         try clear c18
         try clear c19
         try clear c19b0
         try clear c20
         try clear c21
         try clear c22
         try clear c23
         try clear hx343_0
         try clear hx345_0
         try clear p2
         try clear p343
         try clear p345
         try clear p6
         try clear q343
         try clear q345
         obtain ⟨kq, x73_15, rfl, HA, HJ15, HO_4, HO_7, HB⟩ := hcut
         cases kq with
         | zero => exact absurd HA.out (by simp [laws_FnProven.j2])
         | succ kj15 =>
          have H := HA.out
          clear HA
          simp only [laws_FnProven.j2] at H
          by_cases c28 : x73_15 = true
          ·subst c28
           rw [if_pos rfl] at H
           exact absurd ((Option.some.inj H).trans hT.out) (by decide)
          ·replace c28 := Bool.eq_false_iff.mpr c28
           subst c28
           rw [if_neg (show ¬ (false = true) by decide)] at H
           replace H := Option.bind_eq_some_iff.mp H
           obtain ⟨t347, A290, H⟩ := H
           (try dsimp -simprocs only at H)
           have A29 := Aside0.mk A290
           clear A290
           obtain ⟨y348, hy348⟩ : ∃ y_ : List Int, y_ = (([(t347) % 256, 9, 9, 9, 9, 9, 9] : List Int)) := ⟨_, rfl⟩
           replace H : ((impl_Changed.f kj15 t334 t335 x6_2 y348).bind fun bt351 => (if bt351.2 = true then ((impl_Proven.f kj15 t334 bt351.1 (t335.length : Int) x6_2 y348 t339).bind fun t353 => (laws_FnProven.j3 kj15 l0 t334 t335 t338 x6_2 t339 (!t353))) else (laws_FnProven.j3 kj15 l0 t334 t335 t338 x6_2 t339 true))) = some r := by first | (rw [hy348]; exact H) | exact H
           have Ny348 := Aside0.mk hy348
           clear hy348
           replace H := Option.bind_eq_some_iff.mp H
           obtain ⟨⟨t351, t352⟩, A300, H⟩ := H
           (try dsimp -simprocs only at H)
           have A30 := Aside0.mk A300
           clear A300
           have HC31 := Aside0.mk H
           clear H
           go_upto_region 15 with (first | ((with_reducible refine gate_callee (f := 25) rfl ?_); refine goesL_ (some 76) rfl rfl Try.func25 (by kernel_rfl) rfl #[.slice A0 l0.length c0, .int .i64 x6_2] rfl av ?_; (with_reducible refine (laws_at.calls _ _ l0 x6_2 t347 _ ?side1 ?side2 A29.out).mono ?_); (case side1 => exact cv ((Kd.C_below HR0.out HB.out))); (case side2 => exact HC0.out); rintro e w' ⟨rfl, ⟨nd, rfl⟩⟩; refine ⟨_, rfl, ?_⟩) | ((with_reducible refine gate_dst (N := 78) rfl ?_); (try (refine gate_guard (by rfl) ?_; dsimp only)); refine Kd.R_lit (Kd.int .u8) _ 5 ?hg (N := 78) ?hd (xs := ([(t347) % 256, 9, 9, 9, 9, 9, 9] : List Int)) (inner := [.int .u8 ((t347) % 256), .int .u8 9, .int .u8 9, .int .u8 9, .int .u8 9, .int .u8 9, .int .u8 9]) (ok := fun _ => True) (okp := fun _ => True) ?hr ?hp (fun _ hk => hk) trivial (Below.refl _ _) (Nat.le_refl _) (by simp) ?_; (case hd => rfl); (case hg => rfl); (case hr => first | (go_simp; done) | (go_simp; rfl)); (case hp => exact (Reps.one (show Kd.M (Kd.int .u8) _ _ _ ((t347) % 256) [.int .u8 ((t347) % 256)] from rfl) (Reps.one (show Kd.M (Kd.int .u8) _ _ _ 9 [.int .u8 9] from rfl) (Reps.one (show Kd.M (Kd.int .u8) _ _ _ 9 [.int .u8 9] from rfl) (Reps.one (show Kd.M (Kd.int .u8) _ _ _ 9 [.int .u8 9] from rfl) (Reps.one (show Kd.M (Kd.int .u8) _ _ _ 9 [.int .u8 9] from rfl) (Reps.one (show Kd.M (Kd.int .u8) _ _ _ 9 [.int .u8 9] from rfl) (Reps.one (show Kd.M (Kd.int .u8) _ _ _ 9 [.int .u8 9] from rfl) (Reps.none _ _))))))))); intro v349 w32 ho33 hb hg_ hnew_; clear hg_ hnew_; (first | rw [← Ny348.out] at ho33 | (simp only [Int.reduceToNat] at ho33; rw [← Ny348.out] at ho33)); replace HO_4 := Aside0.mk (Kd.N_elder' (mv HO_4.out) (Kd.R_base ho33) hb); replace HO_7 := Aside0.mk (Kd.R_below (mv HO_7.out) hb); have HO350 := Aside0.mk (Kd.R_lower ho33 (below_size (bt))); replace HB := Aside0.mk (below_step (bt) hb); clear hb ho33; obtain ⟨Ao34, co34, eo34⟩ := Kd.R_slice HO350.out; subst eo34) | ((with_reducible refine gate_callee (f := 26) rfl ?_); refine goesL_ (some 84) rfl rfl Try.func26 (by kernel_rfl) rfl #[.int .i64 t334, .slice Ao8 t335.length co8, .int .i64 x6_2, .slice Ao34 y348.length co34] rfl av ?_; (with_reducible refine (impl_Changed.calls kj15 t334 _ _ t335 x6_2 _ _ y348 t351 t352 _ ?side1 ?side2 ?side3 ?side4 A30.out).mono ?_); (case side1 => exact cv ((Kd.N_reads' HO_4.out).2.2)); (case side2 => exact (Kd.N_reads' HO_4.out).2.1); (case side3 => exact cv ((Kd.R_reads' HO350.out).2.2)); (case side4 => exact (Kd.R_reads' HO350.out).2.1); rintro e w35 ⟨rfl, hb⟩; refine ⟨_, rfl, ?_⟩; replace HO_4 := Aside0.mk (Kd.N_below (mv HO_4.out) hb); replace HO_7 := Aside0.mk (Kd.R_below (mv HO_7.out) hb); replace HO350 := Aside0.mk (Kd.R_below (mv HO350.out) hb); replace HB := Aside0.mk (below_step (bt) hb); (try clear hb); (try clear hb2); (try clear hk); (try clear hi)))
           (try simp only [Act.put, List.setIfInBounds_toArray, List.set_cons_zero, List.set_cons_succ])
           go_cut [99] (fun v99 wc => ∃ (kq : Nat) (x99_30 : Bool), v99 = .bool x99_30 ∧ Aside0 (laws_FnProven.j3 kq l0 t334 t335 t338 x6_2 t339 x99_30 = some r) ∧ Aside0 (kq ≤ kj15) ∧ Aside0 (Kd.N (Kd.slice 5 (Kd.int .u8)) 22 wc w.heap.size (fun k_ => some k_ ≠ (v341 : Value).ownBlock) (.slice Ao8 t335.length co8) t335) ∧ Aside0 (Kd.R (Kd.int .i64) 3 wc w.heap.size (fun _ => True) v341 t339) ∧ Aside0 (Below w.heap.size w wc))
           case first =>
            have H := HC31.out
            clear HC31
            by_cases c36 : t352 = true
            ·subst c36
             rw [if_pos rfl] at H
             replace H := Option.bind_eq_some_iff.mp H
             obtain ⟨t353, A370, H⟩ := H
             (try dsimp -simprocs only at H)
             have A37 := Aside0.mk A370
             clear A370
             have H' := Aside0.mk H
             clear H
             obtain ⟨Ao38, co38, eo38⟩ := Kd.R_slice HO_7.out
             subst eo38
             go_wp2_with (first | (go_at_call 17; (with_reducible refine (impl_Proven.calls kj15 t334 t351 (t335.length : Int) x6_2 _ _ y348 _ _ t339 t353 _ ?side1 ?side2 ?side3 ?side4 A37.out).mono ?_); (case side1 => exact cv ((Kd.R_reads' HO350.out).2.2)); (case side2 => exact (Kd.R_reads' HO350.out).2.1); (case side3 => exact cv ((Kd.R_reads' HO_7.out).2.2)); (case side4 => exact (Kd.R_reads' HO_7.out).2.1); rintro e w39 ⟨rfl, hb⟩; replace HO_4 := Aside0.mk (Kd.N_below (mv HO_4.out) hb); replace HO_7 := Aside0.mk (Kd.R_below (mv HO_7.out) hb); replace HO350 := Aside0.mk (Kd.R_below (mv HO350.out) hb); replace HB := Aside0.mk (below_step (bt) hb); (try clear hb); (try clear hb2); (try clear hk); (try clear hi)))
             go_meet
             case rel => exact ⟨_, (!t353), (by first | rfl | (simp; done) | (simp [*]; done)), H', ⟨by have := HJ5.out; have := HK2.out; have := HJ15.out; first | omega | exact Nat.le_refl _⟩, ⟨by (with_reducible repeat (first | apply Kd.N_alloc | apply Kd.N_drewN | apply Kd.N_drew)); exact Kd.N_mono HO_4.out (fun _ hk => hk.1)⟩, ⟨mv HO_7.out⟩, ⟨bt⟩⟩
            ·replace c36 := Bool.eq_false_iff.mpr c36
             subst c36
             rw [if_neg (show ¬ (false = true) by decide)] at H
             have H' := Aside0.mk H
             clear H
             go_wp2
             go_meet
             case rel => exact ⟨_, (true), (by first | rfl | (simp; done) | (simp [*]; done)), H', ⟨by have := HJ5.out; have := HK2.out; have := HJ15.out; first | omega | exact Nat.le_refl _⟩, ⟨by (with_reducible repeat (first | apply Kd.N_alloc | apply Kd.N_drewN | apply Kd.N_drew)); exact Kd.N_mono HO_4.out (fun _ hk => hk.1)⟩, ⟨mv HO_7.out⟩, ⟨bt⟩⟩
           case rest =>
            clear HC31
            try clear c1
            try clear c2
            try clear p2
            try clear c3
            try clear p3
            try clear q3
            try clear hx3
            try clear c4
            try clear p6
            try clear c10
            try clear c10b0
            try clear c11
            try clear c11b0
            try clear c11b1
            try clear c13
            try clear c14
            try clear c14b0
            try clear c18
            try clear c19
            try clear c19b0
            try clear c20
            try clear c21
            try clear c22
            try clear c23
            try clear c25
            try clear c26
            try clear c28
            try clear c34
            try clear p34
            try clear q34
            try clear hx34
            try clear c36
            try clear hx343_0
            try clear hx345_0
            try clear p2
            try clear p3
            try clear p343
            try clear p345
            try clear p6
            try clear q3
            try clear q343
            try clear q345
            obtain ⟨kq, x99_30, rfl, HA, HJ30, HO_4, HO_7, HB⟩ := hcut
            cases kq with
            | zero => exact absurd HA.out (by simp [laws_FnProven.j3])
            | succ kj30 =>
             have H := HA.out
             clear HA
             simp only [laws_FnProven.j3] at H
             by_cases c40 : x99_30 = true
             ·subst c40
              rw [if_pos rfl] at H
              exact absurd ((Option.some.inj H).trans hT.out) (by decide)
             ·replace c40 := Bool.eq_false_iff.mpr c40
              subst c40
              rw [if_neg (show ¬ (false = true) by decide)] at H
              by_cases c41 : (t339.length : Int) > 0
              ·rw [if_pos c41] at H
               have c41b0 : decide (0 < (t339.length : Int)) = true := decide_eq_true c41
               have c41b1 : decide (0 < t339.length) = true := decide_eq_true (by omega)
               clear c41
               by_cases c42 : 0 ≤ x6_2
               ·rw [if_pos c42] at H
                have c42b0 : decide (0 ≤ x6_2) = true := decide_eq_true c42
                clear c42
                by_cases c43 : x6_2 < (t335.length : Int)
                ·rw [if_pos c43] at H
                 have c43b0 : decide (x6_2 < (t335.length : Int)) = true := decide_eq_true c43
                 clear c43
                 by_cases c44 : 1 ≤ (t339.length : Int)
                 ·rw [if_pos c44] at H
                  have c44b0 := eq_true c44
                  have c44b1 : decide (1 ≤ (t339.length : Int)) = true := decide_eq_true c44
                  clear c44
                  obtain ⟨y355, hy355⟩ : ∃ y_ : List Int, y_ = (t339.drop 1) := ⟨_, rfl⟩
                  replace H : ((impl_Proven.f kj30 t334 t338 (t335.length : Int) x6_2 (rd_L1 t335 x6_2) y355).bind fun t360 => (if t360 = true then (some false) else (laws_FnProven.l0 kj30 l0 t334 t335 t338 (wrap64 (x6_2 + 1))))) = some r := by first | (rw [hy355]; exact H) | exact H
                  have Ny355 := Aside0.mk hy355
                  clear hy355
                  replace H := Option.bind_eq_some_iff.mp H
                  obtain ⟨t360, A450, H⟩ := H
                  (try dsimp -simprocs only at H)
                  have A45 := Aside0.mk A450
                  clear A450
                  by_cases c46 : t360 = true
                  ·subst c46
                   rw [if_pos rfl] at H
                   exact absurd ((Option.some.inj H).trans hT.out) (by decide)
                  ·replace c46 := Bool.eq_false_iff.mpr c46
                   subst c46
                   rw [if_neg (show ¬ (false = true) by decide)] at H
                   have H' := Aside0.mk H
                   clear H
                   try go_wp2
                   have n0_ := Aside0.mk (Kd.N_drew HO_4.out)
                   have n1_ := Aside0.mk (Kd.R_drew HO_7.out)
                   have n2_ := Aside0.mk (below_drew1 HB.out)
                   clear HO_4
                   clear HO_7
                   clear HB
                   have HO_4 := n0_
                   have HO_7 := n1_
                   have HB := n2_
                   clear n0_ n1_ n2_
                   obtain ⟨Ao48, co48, eo48⟩ := Kd.R_slice HO_7.out
                   (first | subst eo48 | (injection eo48 with f1_ f2_ f3_; have f4_ := f1_.symm; have f5_ := f3_.symm; clear f1_ f2_ f3_; subst f4_; subst f5_))
                   have p354 : 0 ≤ (x6_2 : Int) := of_decide_eq_true asm
                   have q354 : x6_2 < (t335.length : Int) := of_decide_eq_true asm
                   obtain ⟨ad354, A354_0, c354_0, e354, hx354_0, hl354_0, hi354_0⟩ := at_L1 (Kd.N_reads' HO_4.out).2.2 x6_2 p354 q354
                   cases e354
                   obtain ⟨ce354, hce354, hMe354, hcc354⟩ := Kd.N_get HO_4.out [] x6_2 p354 (by first | exact q354 | exact of_decide_eq_true asm | (have e_ := (Kd.N_reads' HO_4.out).1; omega))
                   obtain ⟨ua354_0, uc354_0, rfl, ul354_0, ge354_0⟩ := Kd.FK_slice_open hMe354
                   have hv354_0 := hcc354 0 _ rfl
                   rw [Nat.add_zero, show ((Kd.slice 5 (Kd.int .u8))).sz = 1 from rfl, Nat.mul_one] at hv354_0
                   replace hv354_0 := Option.some.inj (hv354_0.symm.trans hx354_0)
                   injection hv354_0 with hva_ hvn_ hvc_
                   rw [hva_] at ge354_0
                   rw [hvc_] at ul354_0
                   have HL354_0 := Aside0.mk (show Kd.V (Kd.int .u8) 5 _ w.heap.size _ _ (rd_L1 t335 x6_2) from Kd.V_mk ul354_0 ge354_0)
                   clear hva_ hvn_ hvc_ ge354_0 ul354_0
                   clear hcc354 hce354
                   have HR354_0 := Aside0.mk hi354_0
                   have HC354_0 := Aside0.mk hl354_0
                   clear hi354_0 hl354_0
                   replace p354 := eq_true p354
                   replace q354 := eq_true q354
                   have q49 : (1 : Int) ≤ ((t339.length : Int) : Int) := of_decide_eq_true asm
                   obtain ⟨i049, hi049, _, hsz49, _⟩ := info_parts info3
                   have hroom49 : t339.length ≤ co48 := (Kd.R_reads' HO_7.out).2.1
                   have hC49 : Kd.F (Kd.int .i64) _ _ Ao48 t339.length t339 := (Kd.V_at (base := w.heap.size) (Kd.R_V (Kd.R_apart' (HO_7.out) (Kd.N_typed HO_4.out) (by decide)))).2.2
                   have hcut49 := cut_from (P := Try.prog) 23 3 .i64 Try.underlying23 hi049 1 hsz49 Ao48 t339.length co48 1 (by omega) q49
                   have hr49 := Kd.F_cut (m := (1 : Int).toNat) (c := co48) hC49 (by omega) hroom49
                   obtain ⟨A49, hA49⟩ : ∃ A1, A1 = (if co48 = (1 : Int).toNat then Ao48 else (Ao48 : Option Addr).map (·.add ((1 : Int).toNat * 1))) := ⟨_, rfl⟩
                   obtain ⟨c49, hc49⟩ : ∃ c1, c1 = co48 - (1 : Int).toNat := ⟨_, rfl⟩
                   have hy49 : y355.length = t339.length - (1 : Int).toNat := (by rw [Ny355.out, List.length_drop] <;> omega)
                   rw [show (t339).drop (1 : Int).toNat = y355 from Ny355.out.symm] at hr49
                   replace hr49 : Kd.F (Kd.int .i64) _ _ A49 y355.length y355 := (by rw [hA49]; exact hr49)
                   rw [← hy49, ← hA49, ← hc49] at hcut49
                   have HO359 := Aside0.mk (show Kd.V (Kd.int .i64) 3 _ w.heap.size _ (.slice A49 y355.length c49) y355 from Kd.V_mk (by rw [hy49, hc49]; exact Nat.sub_le_sub_right hroom49 _) hr49)
                   have HC359 := Aside0.mk (show y355.length ≤ c49 from by rw [hy49, hc49]; exact Nat.sub_le_sub_right hroom49 _)
                   clear hr49 hC49 hroom49 hi049 hsz49 hc49
                   have KY49 := Aside0.mk hy49
                   have KA49 := Aside0.mk hA49
                   clear hy49 hA49
                   replace q49 := eq_true q49
                   refine start_ (n := 17) (S := fun w' => w'.cell? (ad354.add (x6_2).toNat) = some (.slice A354_0 (rd_L1 t335 x6_2).length c354_0)) (ds := []) #[false, false, false, false, false, false, false, false, false, false, false, false, false, false, false, false, false] (by kernel_rfl) rfl rfl (hx354_0) (fun hHeld => ?_); refine with_tabW laws_FnProven.tab17 laws_FnProven.bits17 (fun HT_ HW_ => ?_)
                   generalize wc.drew = w47 at HO_4 HO_7 HB HL354_0 HO359 HR354_0 hx354_0 hHeld ⊢
                   refine pz (i := 0) (N := some 100) #[true, false, false, false, false, false, false, false, false, false, false, false, false, false, false, false, false] rfl rfl HT_.out ?_
                   refine pz (i := 1) (N := some 101) #[true, true, false, false, false, false, false, false, false, false, false, false, false, false, false, false, false] rfl rfl HT_.out ?_
                   refine pz (i := 2) (N := some 102) #[true, true, true, false, false, false, false, false, false, false, false, false, false, false, false, false, false] rfl rfl HT_.out ?_
                   refine pz (i := 3) (N := some 103) #[true, true, true, true, false, false, false, false, false, false, false, false, false, false, false, false, false] rfl rfl HT_.out ?_
                   refine pz (i := 4) (N := some 104) #[true, true, true, true, true, false, false, false, false, false, false, false, false, false, false, false, false] rfl rfl HT_.out ?_
                   refine pz (i := 5) (N := some 105) #[true, true, true, true, true, true, false, false, false, false, false, false, false, false, false, false, false] rfl rfl HT_.out ?_
                   refine pz (i := 6) (N := some 106) #[true, true, true, true, true, true, true, false, false, false, false, false, false, false, false, false, false] rfl rfl HT_.out ?_
                   refine pz (i := 7) (N := some 107) #[true, true, true, true, true, true, true, true, false, false, false, false, false, false, false, false, false] rfl rfl HT_.out ?_
                   refine pz (i := 8) (N := some 108) #[true, true, true, true, true, true, true, true, true, false, false, false, false, false, false, false, false] rfl rfl HT_.out ?_
                   refine pz (i := 9) (N := some 109) #[true, true, true, true, true, true, true, true, true, true, false, false, false, false, false, false, false] rfl rfl HT_.out ?_
                   refine pz (i := 10) (N := some 110) #[true, true, true, true, true, true, true, true, true, true, true, false, false, false, false, false, false] rfl rfl HT_.out ?_
                   refine pz (i := 11) (N := some 111) #[true, true, true, true, true, true, true, true, true, true, true, true, false, false, false, false, false] rfl rfl HT_.out ?_
                   refine pz (i := 13) (N := some 113) #[true, true, true, true, true, true, true, true, true, true, true, true, false, true, false, false, false] rfl rfl HT_.out ?_
                   refine pz (i := 14) (N := some 114) #[true, true, true, true, true, true, true, true, true, true, true, true, false, true, true, false, false] rfl rfl HT_.out ?_
                   refine take_ (i := 12) (N := some 112) (v := ?_) (a' := ?_) #[true, true, true, true, true, true, true, true, true, true, true, true, true, true, true, false, false] rfl rfl (take_ofW HT_.out HW_.out (by kernel_rfl)) (fun _ _ _ h => h) (Or.inl ⟨by rfl, ?_⟩) hHeld ?_ ?_
                   rotate_left
                   ·intro w' s0
                    go_simp
                    with_reducible rfl
                   rotate_left
                   ·simp only [Act.put, List.setIfInBounds_toArray, List.set_cons_zero, List.set_cons_succ, i64_w, i32_w]
                    rfl
                   refine one_ (i := 15) (N := some 115) #[true, true, true, true, true, true, true, true, true, true, true, true, true, true, true, true, false] rfl rfl (one_of HT_.out (by kernel_rfl)) (by decide) (fun K hK => ?_)
                   refine goes_ Try.func17 (by kernel_rfl) rfl #[.int .i64 t334, .int .i64 t338, .int .i64 (t335.length : Int), .int .i64 x6_2, .slice A354_0 (rd_L1 t335 x6_2).length c354_0, .slice A49 y355.length c49] (by rfl) rfl rfl av ?_
                   with_reducible refine (impl_Proven.calls kj30 t334 t338 (t335.length : Int) x6_2 _ _ (rd_L1 t335 x6_2) _ _ y355 false _ ?side1 ?side2 ?side3 ?side4 A45.out).mono ?_
                   (case side1 => repeat (first | exact (by repeat (first | (with_reducible exact HR354_0.out) | (with_reducible refine Kd.C_alloc ?_ _) | (with_reducible refine Kd.C_drewN ?_ _) | (with_reducible refine Kd.C_drew ?_) | exact HR354_0.out)) | (with_reducible refine Kd.C_alloc ?_ _) | (with_reducible refine Kd.C_drewN ?_ _) | (with_reducible refine Kd.C_drew ?_)))
                   (case side2 => exact HC354_0.out)
                   (case side3 => exact cv ((Kd.V_reads' HO359.out).2.2))
                   (case side4 => exact (Kd.V_reads' HO359.out).2.1)
                   rintro e w50 ⟨rfl, hb⟩
                   have HS0_ := (hb.cell (World.block_lt_of_cell? _ _ (hHeld))).trans (hHeld)
                   refine ⟨_, rfl, ?_⟩
                   have n0_ := Aside0.mk (Kd.N_below (mv HO_4.out) hb)
                   have n1_ := Aside0.mk (Kd.R_below (mv HO_7.out) hb)
                   have n2_ := Aside0.mk (Kd.V_below (mv HL354_0.out) hb)
                   have n3_ := Aside0.mk (Kd.V_below (mv HO359.out) hb)
                   have n4_ := Aside0.mk (Kd.C_below (by repeat (first | (with_reducible exact HR354_0.out) | (with_reducible refine Kd.C_alloc ?_ _) | (with_reducible refine Kd.C_drewN ?_ _) | (with_reducible refine Kd.C_drew ?_) | exact HR354_0.out)) hb)
                   have n5_ := Aside0.mk (below_step (bt) hb)
                   clear HO_4
                   clear HO_7
                   clear HL354_0
                   clear HO359
                   clear HR354_0
                   clear HB
                   have HO_4 := n0_
                   have HO_7 := n1_
                   have HL354_0 := n2_
                   have HO359 := n3_
                   have HR354_0 := n4_
                   have HB := n5_
                   clear n0_ n1_ n2_ n3_ n4_ n5_
                   (try clear hb)
                   (try clear hb2)
                   (try clear hk)
                   (try clear hi)
                   refine hK.out _ _ (HS0_) (fun hHeld => ?_)
                   clear hK K
                   refine nz (N := some 115) ?_
                   refine pz (i := 16) (N := some 116) #[true, true, true, true, true, true, true, true, true, true, true, true, true, true, true, true, true] rfl rfl HT_.out ?_
                   refine done_ (done_of HT_.out (by kernel_rfl)) ?_
                   (try simp only [Dig.setCell_drewN])
                   try go_wp2
                   go_roundg kj30
                   case measure => have := HJ5.out; have := HK2.out; have := HJ15.out; have := HJ30.out; omega
                   case rel => exact ⟨(wrap64 (x6_2 + 1)), (by first | rfl | (simp; done) | (simp [*]; done)), H', ⟨by have := HJ5.out; have := HK2.out; have := HJ15.out; have := HJ30.out; omega⟩, ⟨by (with_reducible repeat (first | apply Kd.N_alloc | apply Kd.N_drewN | apply Kd.N_drew)); exact Kd.N_mono HO_4.out (fun _ hk => trivial)⟩, ⟨bt⟩⟩
                 ·rw [if_neg c44] at H
                  exact absurd H (by simp)
                ·rw [if_neg c43] at H
                 exact absurd H (by simp)
               ·rw [if_neg c42] at H
                exact absurd H (by simp)
              ·rw [if_neg c41] at H
               have c41b0 : decide (0 < (t339.length : Int)) = false := decide_eq_false c41
               have c41b1 : decide (0 < t339.length) = false := decide_eq_false (by omega)
               clear c41
               have H' := Aside0.mk H
               clear H
               try go_wp2
               have n0_ := Aside0.mk (Kd.N_drew HO_4.out)
               have n1_ := Aside0.mk (Kd.R_drew HO_7.out)
               have n2_ := Aside0.mk (below_drew1 HB.out)
               clear HO_4
               clear HO_7
               clear HB
               have HO_4 := n0_
               have HO_7 := n1_
               have HB := n2_
               clear n0_ n1_ n2_
               obtain ⟨Ao52, co52, eo52⟩ := Kd.R_slice HO_7.out
               (first | subst eo52 | (injection eo52 with f1_ f2_ f3_; have f4_ := f1_.symm; have f5_ := f3_.symm; clear f1_ f2_ f3_; subst f4_; subst f5_))
               refine start_ (n := 17) (S := fun w' => True) (ds := []) #[false, false, false, false, false, false, false, false, false, false, false, false, false, false, false, false, false] (by kernel_rfl) rfl rfl trivial (fun hHeld => ?_); refine with_tabW laws_FnProven.tab17 laws_FnProven.bits17 (fun HT_ HW_ => ?_)
               generalize wc.drew = w51 at HO_4 HO_7 HB hHeld ⊢
               refine pz (i := 0) (N := some 100) #[true, false, false, false, false, false, false, false, false, false, false, false, false, false, false, false, false] rfl rfl HT_.out ?_
               refine pz (i := 1) (N := some 101) #[true, true, false, false, false, false, false, false, false, false, false, false, false, false, false, false, false] rfl rfl HT_.out ?_
               refine pz (i := 2) (N := some 102) #[true, true, true, false, false, false, false, false, false, false, false, false, false, false, false, false, false] rfl rfl HT_.out ?_
               refine pz (i := 3) (N := some 103) #[true, true, true, true, false, false, false, false, false, false, false, false, false, false, false, false, false] rfl rfl HT_.out ?_
               refine pure_ (i := 4) (N := some 104) (v := undef) (a' := ?_) #[true, true, true, true, true, false, false, false, false, false, false, false, false, false, false, false, false] rfl rfl (any_of HT_.out (by kernel_rfl)) (fun _ _ _ h => h) (Or.inr ⟨by rfl, rfl⟩) ?_ ?_
               rotate_left
               ·simp only [Act.put, List.setIfInBounds_toArray, List.set_cons_zero, List.set_cons_succ, i64_w, i32_w]
                rfl
               refine pure_ (i := 5) (N := some 105) (v := undef) (a' := ?_) #[true, true, true, true, true, true, false, false, false, false, false, false, false, false, false, false, false] rfl rfl (any_of HT_.out (by kernel_rfl)) (fun _ _ _ h => h) (Or.inr ⟨by rfl, rfl⟩) ?_ ?_
               rotate_left
               ·simp only [Act.put, List.setIfInBounds_toArray, List.set_cons_zero, List.set_cons_succ, i64_w, i32_w]
                rfl
               refine pure_ (i := 6) (N := some 106) (v := undef) (a' := ?_) #[true, true, true, true, true, true, true, false, false, false, false, false, false, false, false, false, false] rfl rfl (any_of HT_.out (by kernel_rfl)) (fun _ _ _ h => h) (Or.inr ⟨by rfl, rfl⟩) ?_ ?_
               rotate_left
               ·simp only [Act.put, List.setIfInBounds_toArray, List.set_cons_zero, List.set_cons_succ, i64_w, i32_w]
                rfl
               refine pure_ (i := 7) (N := some 107) (v := undef) (a' := ?_) #[true, true, true, true, true, true, true, true, false, false, false, false, false, false, false, false, false] rfl rfl (any_of HT_.out (by kernel_rfl)) (fun _ _ _ h => h) (Or.inr ⟨by rfl, rfl⟩) ?_ ?_
               rotate_left
               ·simp only [Act.put, List.setIfInBounds_toArray, List.set_cons_zero, List.set_cons_succ, i64_w, i32_w]
                rfl
               refine pure_ (i := 8) (N := some 108) (v := undef) (a' := ?_) #[true, true, true, true, true, true, true, true, true, false, false, false, false, false, false, false, false] rfl rfl (any_of HT_.out (by kernel_rfl)) (fun _ _ _ h => h) (Or.inr ⟨by rfl, rfl⟩) ?_ ?_
               rotate_left
               ·simp only [Act.put, List.setIfInBounds_toArray, List.set_cons_zero, List.set_cons_succ, i64_w, i32_w]
                rfl
               refine pure_ (i := 9) (N := some 109) (v := undef) (a' := ?_) #[true, true, true, true, true, true, true, true, true, true, false, false, false, false, false, false, false] rfl rfl (any_of HT_.out (by kernel_rfl)) (fun _ _ _ h => h) (Or.inr ⟨by rfl, rfl⟩) ?_ ?_
               rotate_left
               ·simp only [Act.put, List.setIfInBounds_toArray, List.set_cons_zero, List.set_cons_succ, i64_w, i32_w]
                rfl
               refine pure_ (i := 10) (N := some 110) (v := undef) (a' := ?_) #[true, true, true, true, true, true, true, true, true, true, true, false, false, false, false, false, false] rfl rfl (any_of HT_.out (by kernel_rfl)) (fun _ _ _ h => h) (Or.inr ⟨by rfl, rfl⟩) ?_ ?_
               rotate_left
               ·simp only [Act.put, List.setIfInBounds_toArray, List.set_cons_zero, List.set_cons_succ, i64_w, i32_w]
                rfl
               refine pure_ (i := 11) (N := some 111) (v := undef) (a' := ?_) #[true, true, true, true, true, true, true, true, true, true, true, true, false, false, false, false, false] rfl rfl (any_of HT_.out (by kernel_rfl)) (fun _ _ _ h => h) (Or.inr ⟨by rfl, rfl⟩) ?_ ?_
               rotate_left
               ·simp only [Act.put, List.setIfInBounds_toArray, List.set_cons_zero, List.set_cons_succ, i64_w, i32_w]
                rfl
               refine pure_ (i := 12) (N := some 112) (v := undef) (a' := ?_) #[true, true, true, true, true, true, true, true, true, true, true, true, true, false, false, false, false] rfl rfl (any_of HT_.out (by kernel_rfl)) (fun _ _ _ h => h) (Or.inr ⟨by rfl, rfl⟩) ?_ ?_
               rotate_left
               ·simp only [Act.put, List.setIfInBounds_toArray, List.set_cons_zero, List.set_cons_succ, i64_w, i32_w]
                rfl
               refine pure_ (i := 13) (N := some 113) (v := undef) (a' := ?_) #[true, true, true, true, true, true, true, true, true, true, true, true, true, true, false, false, false] rfl rfl (any_of HT_.out (by kernel_rfl)) (fun _ _ _ h => h) (Or.inr ⟨by rfl, rfl⟩) ?_ ?_
               rotate_left
               ·simp only [Act.put, List.setIfInBounds_toArray, List.set_cons_zero, List.set_cons_succ, i64_w, i32_w]
                rfl
               refine pure_ (i := 14) (N := some 114) (v := undef) (a' := ?_) #[true, true, true, true, true, true, true, true, true, true, true, true, true, true, true, false, false] rfl rfl (any_of HT_.out (by kernel_rfl)) (fun _ _ _ h => h) (Or.inr ⟨by rfl, rfl⟩) ?_ ?_
               rotate_left
               ·simp only [Act.put, List.setIfInBounds_toArray, List.set_cons_zero, List.set_cons_succ, i64_w, i32_w]
                rfl
               refine pure_ (i := 15) (N := some 115) (v := undef) (a' := ?_) #[true, true, true, true, true, true, true, true, true, true, true, true, true, true, true, true, false] rfl rfl (any_of HT_.out (by kernel_rfl)) (fun _ _ _ h => h) (Or.inr ⟨by rfl, rfl⟩) ?_ ?_
               rotate_left
               ·simp only [Act.put, List.setIfInBounds_toArray, List.set_cons_zero, List.set_cons_succ, i64_w, i32_w]
                rfl
               refine pz (i := 16) (N := some 116) #[true, true, true, true, true, true, true, true, true, true, true, true, true, true, true, true, true] rfl rfl HT_.out ?_
               refine done_ (done_of HT_.out (by kernel_rfl)) ?_
               (try simp only [Dig.setCell_drewN])
               try go_wp2
               go_roundg kj30
               case measure => have := HJ5.out; have := HK2.out; have := HJ15.out; have := HJ30.out; omega
               case rel => exact ⟨(wrap64 (x6_2 + 1)), (by first | rfl | (simp; done) | (simp [*]; done)), H', ⟨by have := HJ5.out; have := HK2.out; have := HJ15.out; have := HJ30.out; omega⟩, ⟨by (with_reducible repeat (first | apply Kd.N_alloc | apply Kd.N_drewN | apply Kd.N_drew)); exact Kd.N_mono HO_4.out (fun _ hk => trivial)⟩, ⟨bt⟩⟩
       ·rw [if_neg c14] at H
        have c14b0 : decide (x6_2 < (t335.length : Int)) = false := decide_eq_false c14
        clear c14
        by_cases c53 : 0 < (t335.length : Int)
        ·rw [if_pos c53] at H
         have c53b0 : decide (0 < (t335.length : Int)) = true := decide_eq_true c53
         have c53b1 : decide (0 < t335.length) = true := decide_eq_true (by omega)
         clear c53
         replace H := Option.bind_eq_some_iff.mp H
         obtain ⟨t362, A540, H⟩ := H
         (try dsimp -simprocs only at H)
         have A54 := Aside0.mk A540
         clear A540
         replace H := Option.bind_eq_some_iff.mp H
         obtain ⟨t363, A550, H⟩ := H
         (try dsimp -simprocs only at H)
         have A55 := Aside0.mk A550
         clear A550
         by_cases c56 : t363 ≥ 0
         ·rw [if_pos c56] at H
          have c56b0 : decide (0 ≤ t363) = true := decide_eq_true c56
          clear c56
          replace H := Option.bind_eq_some_iff.mp H
          obtain ⟨t364, A570, H⟩ := H
          (try dsimp -simprocs only at H)
          have A57 := Aside0.mk A570
          clear A570
          by_cases c58 : t364 = (-1)
          ·rw [if_pos c58] at H
           have c58b0 : (t364 == (-1)) = true := beq_iff_eq.mpr c58
           have c58b1 : (t364 != (-1)) = false := bne_eq_false_iff_eq.mpr c58
           clear c58
           obtain ⟨y365, hy365⟩ : ∃ y_ : List Int, y_ = (([0] : List Int)) := ⟨_, rfl⟩
           replace H : (if y365.length + (rd_L1 t335 0).length < 140737488355328 then ((impl_Digest.f t334 (y365 ++ (rd_L1 t335 0))).bind fun t372 => (some (t362 == t372))) else (none)) = some r := by first | (rw [hy365]; exact H) | exact H
           have Ny365 := Aside0.mk hy365
           clear hy365
           by_cases c59 : y365.length + (rd_L1 t335 0).length < 140737488355328
           ·rw [if_pos c59] at H
            have LMc59 := Aside0.mk c59
            clear c59
            obtain ⟨y369, hy369⟩ : ∃ y_ : List Int, y_ = (y365 ++ (rd_L1 t335 0)) := ⟨_, rfl⟩
            replace H : ((impl_Digest.f t334 y369).bind fun t372 => (some (t362 == t372))) = some r := by first | (rw [hy369]; exact H) | exact H
            have Ny369 := Aside0.mk hy369
            clear hy369
            replace H := Option.bind_eq_some_iff.mp H
            obtain ⟨t372, A600, H⟩ := H
            (try dsimp -simprocs only at H)
            have A60 := Aside0.mk A600
            clear A600
            obtain rfl := Option.some.inj H
            have p361 : 0 ≤ (0 : Int) := (by omega)
            have q361 : 0 < (t335.length : Int) := of_decide_eq_true asm
            obtain ⟨ad361, A361_0, c361_0, e361, hx361_0, hl361_0, hi361_0⟩ := at_L1 (Kd.N_reads' HO_4.out).2.2 0 p361 q361
            cases e361
            obtain ⟨ce361, hce361, hMe361, hcc361⟩ := Kd.N_get HO_4.out [] 0 p361 (by first | exact q361 | exact of_decide_eq_true asm | (have e_ := (Kd.N_reads' HO_4.out).1; omega))
            obtain ⟨ua361_0, uc361_0, rfl, ul361_0, ge361_0⟩ := Kd.FK_slice_open hMe361
            have hv361_0 := hcc361 0 _ rfl
            rw [Nat.add_zero, show ((Kd.slice 5 (Kd.int .u8))).sz = 1 from rfl, Nat.mul_one] at hv361_0
            replace hv361_0 := Option.some.inj (hv361_0.symm.trans hx361_0)
            injection hv361_0 with hva_ hvn_ hvc_
            rw [hva_] at ge361_0
            rw [hvc_] at ul361_0
            have HL361_0 := Aside0.mk (show Kd.V (Kd.int .u8) 5 _ w.heap.size _ _ (rd_L1 t335 0) from Kd.V_mk ul361_0 ge361_0)
            clear hva_ hvn_ hvc_ ge361_0 ul361_0
            clear hcc361 hce361
            have qi361 : (0 < t335.length) = True := eq_true (by omega)
            (try rw [show ((0 : Int)).toNat = 0 from rfl] at hx361_0)
            (try rw [Addr.add_zero'] at hx361_0)
            have HR361_0 := Aside0.mk hi361_0
            have HC361_0 := Aside0.mk hl361_0
            clear hi361_0 hl361_0
            replace p361 := eq_true p361
            replace q361 := eq_true q361
            go_wp2_with (first | ((with_reducible refine gate_callee (f := 27) rfl ?_); refine goesL_ (some 121) rfl rfl Try.func27 (by kernel_rfl) rfl #[.int .i64 t334, .slice A361_0 (rd_L1 t335 0).length c361_0] rfl av ?_; (with_reducible refine (impl_LeafOf.calls t334 _ _ (rd_L1 t335 0) t362 _ ?side1 ?side2 A54.out).mono ?_); (case side1 => repeat (first | exact (by repeat (first | (with_reducible exact HR361_0.out) | (with_reducible refine Kd.C_alloc ?_ _) | (with_reducible refine Kd.C_drewN ?_ _) | (with_reducible refine Kd.C_drew ?_) | exact HR361_0.out)) | (with_reducible refine Kd.C_alloc ?_ _) | (with_reducible refine Kd.C_drewN ?_ _) | (with_reducible refine Kd.C_drew ?_))); (case side2 => exact HC361_0.out); rintro e w61 ⟨rfl, hb⟩; refine ⟨_, rfl, ?_⟩; replace HO_4 := Aside0.mk (Kd.N_below (mv HO_4.out) hb); replace HL361_0 := Aside0.mk (Kd.V_below (mv HL361_0.out) hb); replace HR361_0 := Aside0.mk (Kd.C_below (by repeat (first | (with_reducible exact HR361_0.out) | (with_reducible refine Kd.C_alloc ?_ _) | (with_reducible refine Kd.C_drewN ?_ _) | (with_reducible refine Kd.C_drew ?_) | exact HR361_0.out)) hb); replace HB := Aside0.mk (below_step (bt) hb); (try clear hb); (try clear hb2); (try clear hk); (try clear hi)) | ((with_reducible refine gate_callee (f := 28) rfl ?_); refine goesL_ (some 125) rfl rfl Try.func28 (by kernel_rfl) rfl #[.int .i64 t334, .int .i64 t362, .int .i64 t362] rfl av ?_; (with_reducible refine (impl_NodeOf.calls k2 t334 t362 t362 t363 _ A55.out).mono ?_); rintro e w62 ⟨rfl, hb⟩; refine ⟨_, rfl, ?_⟩; replace HO_4 := Aside0.mk (Kd.N_below (mv HO_4.out) hb); replace HL361_0 := Aside0.mk (Kd.V_below (mv HL361_0.out) hb); replace HR361_0 := Aside0.mk (Kd.C_below (by repeat (first | (with_reducible exact HR361_0.out) | (with_reducible refine Kd.C_alloc ?_ _) | (with_reducible refine Kd.C_drewN ?_ _) | (with_reducible refine Kd.C_drew ?_) | exact HR361_0.out)) hb); replace HB := Aside0.mk (below_step (bt) hb); (try clear hb); (try clear hb2); (try clear hk); (try clear hi)) | (go_at_call 28; (with_reducible refine (impl_NodeOf.calls k2 t334 (-1) 0 t364 _ A57.out).mono ?_); rintro e w63 ⟨rfl, hb⟩; replace HO_4 := Aside0.mk (Kd.N_below (mv HO_4.out) hb); replace HL361_0 := Aside0.mk (Kd.V_below (mv HL361_0.out) hb); replace HR361_0 := Aside0.mk (Kd.C_below (by repeat (first | (with_reducible exact HR361_0.out) | (with_reducible refine Kd.C_alloc ?_ _) | (with_reducible refine Kd.C_drewN ?_ _) | (with_reducible refine Kd.C_drew ?_) | exact HR361_0.out)) hb); replace HB := Aside0.mk (below_step (bt) hb); (try clear hb); (try clear hb2); (try clear hk); (try clear hi)) | ((with_reducible refine gate_dst (N := 135) rfl ?_); (try (refine gate_guard (by rfl) ?_; dsimp only)); refine Kd.R_lit (Kd.int .u8) _ 5 ?hg (N := 135) ?hd (xs := ([0] : List Int)) (inner := [.int .u8 0]) (ok := fun _ => True) (okp := fun _ => True) ?hr ?hp (fun _ hk => hk) trivial (Below.refl _ _) (Nat.le_refl _) (by simp) ?_; (case hd => rfl); (case hg => rfl); (case hr => first | (go_simp; done) | (go_simp; rfl)); (case hp => exact (Reps.one (show Kd.M (Kd.int .u8) _ _ _ 0 [.int .u8 0] from rfl) (Reps.none _ _))); intro v366 w64 ho65 hb hg_ hnew_; clear hg_ hnew_; (first | rw [← Ny365.out] at ho65 | (simp only [Int.reduceToNat] at ho65; rw [← Ny365.out] at ho65)); replace HO_4 := Aside0.mk (Kd.N_elder' (mv HO_4.out) (Kd.R_base ho65) hb); replace HL361_0 := Aside0.mk (Kd.V_elder' (mv HL361_0.out) (Kd.R_base ho65) hb); have HO367 := Aside0.mk (Kd.R_lower ho65 (below_size (bt))); replace HR361_0 := Aside0.mk (Kd.C_below (by repeat (first | (with_reducible exact HR361_0.out) | (with_reducible refine Kd.C_alloc ?_ _) | (with_reducible refine Kd.C_drewN ?_ _) | (with_reducible refine Kd.C_drew ?_) | exact HR361_0.out)) hb); replace HB := Aside0.mk (below_step (bt) hb); clear hb ho65; have p368 : 0 ≤ (0 : Int) := (by omega); have q368 : 0 < (t335.length : Int) := of_decide_eq_true asm; obtain ⟨ad368, A368_0, c368_0, e368, hx368_0, hl368_0, hi368_0⟩ := at_L1 (Kd.N_reads' HO_4.out).2.2 0 p368 q368; obtain rfl : ad361 = ad368 := (by injection e368); obtain ⟨ce368, hce368, hMe368, hcc368⟩ := Kd.N_get HO_4.out [] 0 p368 (by first | exact q368 | exact of_decide_eq_true asm | (have e_ := (Kd.N_reads' HO_4.out).1; omega)); obtain ⟨ua368_0, uc368_0, rfl, ul368_0, ge368_0⟩ := Kd.FK_slice_open hMe368; have hv368_0 := hcc368 0 _ rfl; rw [Nat.add_zero, show ((Kd.slice 5 (Kd.int .u8))).sz = 1 from rfl, Nat.mul_one] at hv368_0; replace hv368_0 := Option.some.inj (hv368_0.symm.trans hx368_0); injection hv368_0 with hva_ hvn_ hvc_; rw [hva_] at ge368_0; rw [hvc_] at ul368_0; have HL368_0 := Aside0.mk (show Kd.V (Kd.int .u8) 5 _ w.heap.size _ _ (rd_L1 t335 0) from Kd.V_mk ul368_0 ge368_0); clear hva_ hvn_ hvc_ ge368_0 ul368_0; clear hcc368 hce368; have qi368 : (0 < t335.length) = True := eq_true (by omega); (try rw [show ((0 : Int)).toNat = 0 from rfl] at hx368_0); (try rw [Addr.add_zero'] at hx368_0); have HR368_0 := Aside0.mk hi368_0; have HC368_0 := Aside0.mk hl368_0; clear hi368_0 hl368_0; replace p368 := eq_true p368; replace q368 := eq_true q368) | ((with_reducible refine gate_builtin (b := .append) (xs := #[.tmp 135, .tmp 138]) rfl ?_); (try (refine gate_guard (by rfl) ?_; dsimp only)); at_builtin; refine Kd.R_append_rows (Kd.int .u8) (w0 := w) w.heap.size rfl (.tmp 135) (.tmp 138) 22 5 (.int .u8 0) 1 rfl Try.underlying22 info5 rfl (by decide) (by omega) v366 y365 (rd_L1 t335 0) _ _ _ (fun _ => True) (fun _ => False) rfl rfl ?aO ?aR (fun _ _ h => h) (fun _ h => h.elim) ?aF ?aB ?aS ?aL ?_; (case aR => repeat (first | exact (by repeat (first | (with_reducible exact HR368_0.out) | (with_reducible refine Kd.C_alloc ?_ _) | (with_reducible refine Kd.C_drewN ?_ _) | (with_reducible refine Kd.C_drew ?_) | exact HR368_0.out)) | (with_reducible refine Kd.C_alloc ?_ _) | (with_reducible refine Kd.C_drewN ?_ _) | (with_reducible refine Kd.C_drew ?_))); (case aB => exact (bt)); (case aF => exact (fun _ _ => trivial)); (case aO => exact (mv HO367.out)); (case aS => exact (below_size (bt))); (case aL => have := LMc59.out; omega); intro v370 w66 ho hb hg hat; rw [← Ny369.out] at ho; replace HO_4 := Aside0.mk (Kd.N_afterv (ok := (fun _ => True)) (mv HO_4.out) hg hat); replace HL361_0 := Aside0.mk (Kd.V_afterv (ok := (fun k_ => some k_ ≠ (.slice (some ad361) t335.length co8 : Value).ownBlock)) (by (with_reducible repeat (first | apply Kd.V_alloc | apply Kd.V_drewN | apply Kd.V_drew)); exact Kd.V_mono HL361_0.out (fun _ hk => ⟨hk.1.2, hk.2⟩)) hg hat); replace HL368_0 := Aside0.mk (Kd.V_afterv (ok := (fun k_ => some k_ ≠ (.slice (some ad361) t335.length co8 : Value).ownBlock)) (by (with_reducible repeat (first | apply Kd.V_alloc | apply Kd.V_drewN | apply Kd.V_drew)); exact Kd.V_mono HL368_0.out (fun _ hk => ⟨hk.2, hk.1.2⟩)) hg hat); replace HB := Aside0.mk (hb); have HO371 := Aside0.mk (ho); clear HO367; clear ho hb hg hat; obtain ⟨Ao67, co67, eo67⟩ := Kd.R_slice HO371.out; subst eo67) | (go_at_call 29; (with_reducible refine (impl_Digest.calls t334 _ _ y369 t372 _ ?side1 ?side2 A60.out).mono ?_); (case side1 => exact cv ((Kd.R_reads' HO371.out).2.2)); (case side2 => exact (Kd.R_reads' HO371.out).2.1); rintro e w68 ⟨rfl, hb⟩; replace HO_4 := Aside0.mk (Kd.N_below (mv HO_4.out) hb); replace HL361_0 := Aside0.mk (Kd.V_below (mv HL361_0.out) hb); replace HL368_0 := Aside0.mk (Kd.V_below (mv HL368_0.out) hb); replace HO371 := Aside0.mk (Kd.R_below (mv HO371.out) hb); replace HB := Aside0.mk (below_step (bt) hb); (try clear hb); (try clear hb2); (try clear hk); (try clear hi)))
            go_ret
            exact ⟨by first | rfl | (simp [errW_none, errW_some] <;> rfl) | (simp [*, errW_none, errW_some] <;> rfl), bt⟩
           ·rw [if_neg c59] at H
            exact absurd H (by simp)
          ·rw [if_neg c58] at H
           have c58b0 : (t364 == (-1)) = false := beq_eq_false_iff_ne.mpr c58
           have c58b1 : (t364 != (-1)) = true := bne_iff_ne.mpr c58
           exact absurd ((Option.some.inj H).trans hT.out) (by decide)
         ·rw [if_neg c56] at H
          have c56b0 : decide (0 ≤ t363) = false := decide_eq_false c56
          clear c56
          exact absurd ((Option.some.inj H).trans hT.out) (by decide)
        ·rw [if_neg c53] at H
         exact absurd H (by simp)

/-- THE ONE PURE STATEMENT of laws_FnProven: yours. -/
def laws_FnProven.Pure : Prop := ∀ (l0 : List Int), l0.length ≤ maxLen → l0.length * 1 ≤ 140737488351232 → (∀ x ∈ l0, (Lit.int .u8 x).wf = true) → ∃ k, laws_FnProven.f k l0 = some true
theorem laws_FnProven.walk (P : laws_FnProven.Pure) (a0 : Option Addr) (len0 cap0 : Nat) (z0 : List Int) (w : World) (w0 : (a0 = none ∧ len0 = 0 ∧ cap0 = 0 ∧ z0 = []) ∨ ∃ x, a0 = some x ∧ len0 ≤ cap0 ∧ cap0 ≤ maxLen ∧ z0.length = cap0 ∧ (∀ i, i < z0.length → w.cell? (x.add i) = some (.int .u8 (z0.getD i 0))) ∧ ∀ n ∈ z0, (Lit.int .u8 n).wf = true) (y0 : len0 * 1 ≤ 140737488351232) :
  Calls Try.prog 4 #[.slice a0 len0 cap0] w fun e w' => e = .returned (.bool true) ∧ Below w.heap.size w w' := by
 obtain ⟨l0, rfl, hr0, hm0, hw0, hc0⟩ := ReadsInt.ofRowC w0
 obtain ⟨k, h⟩ := P l0 hm0 y0 hw0
 refine (laws_FnProven.calls k _ _ l0 true w ⟨rfl⟩ (Kd.C_of_reads (d := (0 : Int)) (h1 := fun _ => rfl) hr0) hc0 h).mono ?_
 rintro e w' ⟨rfl, hd⟩
 exact ⟨rfl, hd⟩

end Go.Proofs.Ytaacidhgnappdaa.PFnProven
