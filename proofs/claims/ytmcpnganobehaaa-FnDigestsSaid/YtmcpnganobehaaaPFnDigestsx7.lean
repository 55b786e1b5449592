-- Written by a program of this workplace (wip/mp.py) out of the translation.
import Derived.Test.YtmcpnganobehaaaPFnDigestsx0
import Derived.Test.YtmcpnganobehaaaPFnDigestsx1
import Derived.Test.YtmcpnganobehaaaPFnDigestsx2
import Derived.Test.YtmcpnganobehaaaPFnDigestsx3
import Derived.Test.YtmcpnganobehaaaPFnDigestsx4
import Derived.Test.YtmcpnganobehaaaPFnDigestsx5
import Derived.Test.YtmcpnganobehaaaPFnDigestsx6
namespace Go.Proofs.Ytmcpnganobehaaa.PFnDigests
open Go.RowKit Go.Proofs.YtmcpnganobehaaaW.PrintWords Go.Proofs.YtmcpnganobehaaaW.PrintLast Go.Proofs.YtmcpnganobehaaaW.PrintMore Go.Proofs.Ytmcpnganobehaaa.Slim
attribute [local go_sem] max2_int min2_int max_two min_two max_three min_three max_four min_four   -- for this text's walks alone
set_option linter.unusedVariables false
set_option linter.unusedSimpArgs false

attribute [local go_sem high] eqA22
/-! ### laws_FnDigests: function 13 -/
mutual
def laws_FnDigests.l0 : Nat → List Int → List Int → Int → Int → Option (Bool)
 | 0, _, _, _, _ => none
 | k + 1, x0, x4, x5, x6 => if x6 ≤ 60 then ((impl_Digest.f x6 x4).bind fun t357 => (if 0 ≤ x6 then (if (shl .i64 1 x6) = 0 then (none) else (if t357 = (Int.tmod x5 (shl .i64 1 x6)) then (laws_FnDigests.l0 k x0 x4 x5 (wrap64 (x6 + 1))) else (some false))) else (none))) else ((spec_DrawRounds.f k x0).bind fun bt358 => ((laws_at.f x0 1).bind fun t363 => ((impl_Rounds.f bt358.1 bt358.2.1 bt358.2.2.1 (Int.tmod t363 30)).bind fun bt364 => ((laws_at.f x0 2).bind fun t369 => ((impl_Rounds.f bt364.1 bt364.2.1 bt364.2.2.1 (Int.tmod t369 30)).bind fun bt370 => ((laws_at.f x0 1).bind fun t375 => ((laws_at.f x0 2).bind fun t376 => ((impl_Rounds.f bt358.1 bt358.2.1 bt358.2.2.1 (wrap64 ((Int.tmod t375 30) + (Int.tmod t376 30)))).bind fun bt377 => ((spec_DrawParts.f k x0).bind fun t382 => ((impl_Parts.f k t382).bind fun bt385 => ((impl_Unparts.f k bt385.1).bind fun bt389 => ((spec_Parts.f k t382).bind fun bt393 => (if (bt385.2 != bt393.2) = true then (laws_FnDigests.j1 k x4 x5 bt364.2.2.2 bt370.2.2.2 bt377.2.2.2 true bt370.1 bt370.2.1 bt370.2.2.1 bt377.1 bt377.2.1 bt377.2.2.1) else (if bt385.2 = true then (if bt389.2 = true then ((laws_sameLists.f t382 bt389.1).bind fun t397 => (laws_FnDigests.j1 k x4 x5 bt364.2.2.2 bt370.2.2.2 bt377.2.2.2 (!t397) bt370.1 bt370.2.1 bt370.2.2.1 bt377.1 bt377.2.1 bt377.2.2.1)) else (laws_FnDigests.j1 k x4 x5 bt364.2.2.2 bt370.2.2.2 bt377.2.2.2 true bt370.1 bt370.2.1 bt370.2.2.1 bt377.1 bt377.2.1 bt377.2.2.1)) else (laws_FnDigests.j1 k x4 x5 bt364.2.2.2 bt370.2.2.2 bt377.2.2.2 false bt370.1 bt370.2.1 bt370.2.2.1 bt377.1 bt377.2.1 bt377.2.2.1)))))))))))))))
def laws_FnDigests.j1 : Nat → List Int → Int → Bool → Bool → Bool → Bool → Int → Int → Int → Int → Int → Int → Option (Bool)
 | 0, _, _, _, _, _, _, _, _, _, _, _, _ => none
 | k + 1, x4, x5, x10, x12, x14, x114, x375000, x375001, x375002, x382000, x382001, x382002 => if x114 = true then (some false) else (if x10 = true then (if x12 = true then (if x14 = true then (if (x375000 == x382000 && (x375001 == x382001 && (x375002 == x382002))) = true then (if x5 ≥ 0 then ((impl_Digest.f 1 x4).bind fun t398 => (if t398 = (-1) then ((impl_Eight.f k 7).bind fun t399 => (some ((t399.length : Int) == 8))) else (some false))) else (some false)) else (some false)) else (some false)) else (some false)) else (some false))
end
def laws_FnDigests.f (k : Nat) (l0 : List Int) : Option (Bool) := (laws_big.f l0).bind fun t350 => (if t350 = true then (some true) else ((spec_DrawDigest.f k l0).bind fun bt351 => (if (bt351.2.length : Int) > 4000 then ((impl_Digest.f 8 bt351.2).bind fun t355 => (some (t355 == (-1)))) else ((impl_Digest.f 60 bt351.2).bind fun t356 => (laws_FnDigests.l0 k l0 bt351.2 t356 2)))))
def laws_FnDigests.T10 : Bool × List (List Nat × List Nat) := (true, [([], []), ([], []), ([0, 1], [0, 1]), ([], []), ([], []), ([4], [4]), ([3, 5], [3, 5]), ([2, 6], [2, 6])])
def laws_FnDigests.B10 : List Nat := [0, 0, 3, 0, 0, 16, 56, 127]
theorem laws_FnDigests.tab10 : rtab .any (opsOf Try.f13 10) = laws_FnDigests.T10 := by kernel_rfl
theorem laws_FnDigests.bits10 : waitsOk laws_FnDigests.T10.2 laws_FnDigests.B10 = true := by kernel_rfl
def laws_FnDigests.T13 : Bool × List (List Nat × List Nat) := (true, [([], []), ([], []), ([1], [1]), ([2], [2]), ([0, 3, 2], [0, 3]), ([4], [4]), ([5], [5]), ([5], [5]), ([], []), ([8, 6, 4, 0, 1, 2, 3, 4, 5, 6, 8], [6, 8]), ([7, 9, 0, 1, 2, 3, 4, 5, 6, 7, 8, 9], [7])])
def laws_FnDigests.B13 : List Nat := [0, 0, 2, 6, 15, 31, 63, 63, 0, 383, 1023]
theorem laws_FnDigests.tab13 : rtab .any (opsOf Try.f13 13) = laws_FnDigests.T13 := by kernel_rfl
theorem laws_FnDigests.bits13 : waitsOk laws_FnDigests.T13.2 laws_FnDigests.B13 = true := by kernel_rfl
def laws_FnDigests.T14 : Bool × List (List Nat × List Nat) := (true, [([], []), ([], []), ([1], [1]), ([2], [2]), ([0, 3, 2], [0, 3]), ([4], [4]), ([5], [5]), ([5], [5]), ([], []), ([8, 6, 4, 0, 1, 2, 3, 4, 5, 6, 8], [6, 8]), ([7, 9, 0, 1, 2, 3, 4, 5, 6, 7, 8, 9], [7])])
def laws_FnDigests.B14 : List Nat := [0, 0, 2, 6, 15, 31, 63, 63, 0, 383, 1023]
theorem laws_FnDigests.tab14 : rtab .any (opsOf Try.f13 14) = laws_FnDigests.T14 := by kernel_rfl
theorem laws_FnDigests.bits14 : waitsOk laws_FnDigests.T14.2 laws_FnDigests.B14 = true := by kernel_rfl
def laws_FnDigests.T15 : Bool × List (List Nat × List Nat) := (true, [([], []), ([], []), ([1], [1]), ([2], [2]), ([], []), ([4, 2], [4]), ([5], [5]), ([3, 6], [3, 6]), ([0, 7, 5], [0, 7]), ([8], [8]), ([9], [9]), ([9], [9]), ([], []), ([12, 10, 8, 0, 1, 2, 3, 4, 5, 6, 7, 8, 9, 10, 12], [10, 12]), ([11, 13, 0, 1, 2, 3, 4, 5, 6, 7, 8, 9, 10, 11, 12, 13], [11])])
def laws_FnDigests.B15 : List Nat := [0, 0, 2, 6, 0, 22, 54, 126, 255, 511, 1023, 1023, 0, 6143, 16383]
theorem laws_FnDigests.tab15 : rtab .any (opsOf Try.f13 15) = laws_FnDigests.T15 := by kernel_rfl
theorem laws_FnDigests.bits15 : waitsOk laws_FnDigests.T15.2 laws_FnDigests.B15 = true := by kernel_rfl
set_option maxHeartbeats 8000000 in
set_option maxRecDepth 100000 in
theorem laws_FnDigests.calls (k : Nat) (A0 : Option Addr) (c0 : Nat) (l0 : List Int) (r : Bool) (w : World) (hT : Aside0 (r = true)) (hr0 : Kd.C (Kd.int .u8) w A0 l0.length l0) (hc0 : l0.length ≤ c0) (h : laws_FnDigests.f k l0 = some r) :
  Calls Try.prog 13 #[.slice A0 l0.length c0] w fun e w' => e = .returned (.bool r) ∧ Below w.heap.size w w' := by
 have hu22 := Try.underlying22
 have HR0 := Aside0.mk hr0
 have HC0 := Aside0.mk hc0
 clear hr0 hc0
 have HB := Aside0.mk (Below.refl w.heap.size w)
 have H : ((laws_big.f l0).bind fun t350 => (if t350 = true then (some true) else ((spec_DrawDigest.f k l0).bind fun bt351 => (if (bt351.2.length : Int) > 4000 then ((impl_Digest.f 8 bt351.2).bind fun t355 => (some (t355 == (-1)))) else ((impl_Digest.f 60 bt351.2).bind fun t356 => (laws_FnDigests.l0 k l0 bt351.2 t356 2)))))) = some r := h
 clear h
 replace H := Option.bind_eq_some_iff.mp H
 obtain ⟨t350, A20, H⟩ := H
 (try dsimp -simprocs only at H)
 have A2 := Aside0.mk A20
 clear A20
 by_cases c3 : t350 = true
 ·subst c3
  rw [if_pos rfl] at H
  obtain rfl := Option.some.inj H
  go_enter Try.func13, Try.ntmps13
  go_wp2_with (first | ((with_reducible refine gate_callee (f := 36) rfl ?_); refine goesL_ (some 23) rfl rfl Try.func36 (by kernel_rfl) rfl #[.slice A0 l0.length c0] rfl av ?_; (with_reducible refine (laws_big.calls _ _ l0 true _ ?side1 ?side2 A2.out).mono ?_); (case side1 => exact cv (HR0.out)); (case side2 => exact HC0.out); rintro e w' ⟨rfl, ⟨nd, rfl⟩⟩; refine ⟨_, rfl, ?_⟩))
  go_ret
  exact ⟨by first | rfl | (simp [errW_none, errW_some] <;> rfl) | (simp [*, errW_none, errW_some] <;> rfl), bt⟩
 ·replace c3 := Bool.eq_false_iff.mpr c3
  subst c3
  rw [if_neg (show ¬ (false = true) by decide)] at H
  replace H := Option.bind_eq_some_iff.mp H
  obtain ⟨⟨t351, t352⟩, A40, H⟩ := H
  (try dsimp -simprocs only at H)
  have A4 := Aside0.mk A40
  clear A40
  by_cases c5 : (t352.length : Int) > 4000
  ·rw [if_pos c5] at H
   have c5b0 : decide (4000 < (t352.length : Int)) = true := decide_eq_true c5
   have c5b1 : decide (4000 < t352.length) = true := decide_eq_true (by omega)
   clear c5
   replace H := Option.bind_eq_some_iff.mp H
   obtain ⟨t355, A60, H⟩ := H
   (try dsimp -simprocs only at H)
   have A6 := Aside0.mk A60
   clear A60
   obtain rfl := Option.some.inj H
   go_enter Try.func13, Try.ntmps13
   go_wp2_with (first | ((with_reducible refine gate_callee (f := 36) rfl ?_); refine goesL_ (some 23) rfl rfl Try.func36 (by kernel_rfl) rfl #[.slice A0 l0.length c0] rfl av ?_; (with_reducible refine (laws_big.calls _ _ l0 false _ ?side1 ?side2 A2.out).mono ?_); (case side1 => exact cv (HR0.out)); (case side2 => exact HC0.out); rintro e w' ⟨rfl, ⟨nd, rfl⟩⟩; refine ⟨_, rfl, ?_⟩) | ((with_reducible refine gate_callee (f := 51) rfl ?_); refine goesL_ (some 26) rfl rfl Try.func51 (by kernel_rfl) rfl #[.slice A0 l0.length c0] rfl av ?_; (with_reducible refine (spec_DrawDigest.calls k _ _ l0 t351 t352 _ ?side1 ?side2 A4.out).mono ?_); (case side1 => exact cv (HR0.out)); (case side2 => exact HC0.out); rintro e w7 ⟨v353, rfl, ho0, hb⟩; refine ⟨_, rfl, ?_⟩; have HO354 := Aside0.mk (Kd.R_lower ho0 (below_size (bt))); replace HB := Aside0.mk (below_step (bt) hb); (try clear hb); (try clear hb2); (try clear hk); (try clear hi); (try clear ho0); obtain ⟨Ao8, co8, eo8⟩ := Kd.R_slice HO354.out; subst eo8) | ((with_reducible refine gate_callee (f := 21) rfl ?_); refine goesL_ (some 33) rfl rfl Try.func21 (by kernel_rfl) rfl #[.int .i64 8, .slice Ao8 t352.length co8] rfl av ?_; (with_reducible refine (impl_Digest.calls 8 _ _ t352 t355 _ ?side1 ?side2 A6.out).mono ?_); (case side1 => exact cv ((Kd.R_reads' HO354.out).2.2)); (case side2 => exact (Kd.R_reads' HO354.out).2.1); rintro e w9 ⟨rfl, hb⟩; refine ⟨_, rfl, ?_⟩; replace HO354 := Aside0.mk (Kd.R_below (mv HO354.out) hb); replace HB := Aside0.mk (below_step (bt) hb); (try clear hb); (try clear hb2); (try clear hk); (try clear hi)))
   go_ret
   exact ⟨by first | rfl | (simp [errW_none, errW_some] <;> rfl) | (simp [*, errW_none, errW_some] <;> rfl), bt⟩
  ·rw [if_neg c5] at H
   have c5b0 : decide (4000 < (t352.length : Int)) = false := decide_eq_false c5
   have c5b1 : decide (4000 < t352.length) = false := decide_eq_false (by omega)
   clear c5
   replace H := Option.bind_eq_some_iff.mp H
   obtain ⟨t356, A100, H⟩ := H
   (try dsimp -simprocs only at H)
   have A10 := Aside0.mk A100
   clear A100
   have H' := Aside0.mk H
   clear H
   go_enter Try.func13, Try.ntmps13
   go_wp2_with (first | ((with_reducible refine gate_callee (f := 36) rfl ?_); refine goesL_ (some 23) rfl rfl Try.func36 (by kernel_rfl) rfl #[.slice A0 l0.length c0] rfl av ?_; (with_reducible refine (laws_big.calls _ _ l0 false _ ?side1 ?side2 A2.out).mono ?_); (case side1 => exact cv (HR0.out)); (case side2 => exact HC0.out); rintro e w' ⟨rfl, ⟨nd, rfl⟩⟩; refine ⟨_, rfl, ?_⟩) | ((with_reducible refine gate_callee (f := 51) rfl ?_); refine goesL_ (some 26) rfl rfl Try.func51 (by kernel_rfl) rfl #[.slice A0 l0.length c0] rfl av ?_; (with_reducible refine (spec_DrawDigest.calls k _ _ l0 t351 t352 _ ?side1 ?side2 A4.out).mono ?_); (case side1 => exact cv (HR0.out)); (case side2 => exact HC0.out); rintro e w11 ⟨v353, rfl, ho0, hb⟩; refine ⟨_, rfl, ?_⟩; have HO354 := Aside0.mk (Kd.R_lower ho0 (below_size (bt))); replace HB := Aside0.mk (below_step (bt) hb); (try clear hb); (try clear hb2); (try clear hk); (try clear hi); (try clear ho0); obtain ⟨Ao12, co12, eo12⟩ := Kd.R_slice HO354.out; subst eo12) | ((with_reducible refine gate_callee (f := 21) rfl ?_); refine goesL_ (some 36) rfl rfl Try.func21 (by kernel_rfl) rfl #[.int .i64 60, .slice Ao12 t352.length co12] rfl av ?_; (with_reducible refine (impl_Digest.calls 60 _ _ t352 t356 _ ?side1 ?side2 A10.out).mono ?_); (case side1 => exact cv ((Kd.R_reads' HO354.out).2.2)); (case side2 => exact (Kd.R_reads' HO354.out).2.1); rintro e w13 ⟨rfl, hb⟩; refine ⟨_, rfl, ?_⟩; replace HO354 := Aside0.mk (Kd.R_below (mv HO354.out) hb); replace HB := Aside0.mk (below_step (bt) hb); (try clear hb); (try clear hb2); (try clear hk); (try clear hi)))
   go_loopg [6] k (fun kq v6 w' => ∃ (x6_1 : Int), v6 = .int .i64 x6_1 ∧ Aside0 (laws_FnDigests.l0 kq l0 t352 t356 x6_1 = some r) ∧ Aside0 (kq ≤ k) ∧ Aside0 (Kd.R (Kd.int .u8) 5 w' w.heap.size (fun _ => True) (.slice Ao12 t352.length co12) t352) ∧ Aside0 (Below w.heap.size w w'))
   case atStart => exact ⟨(2), (by first | rfl | (simp; done) | (simp [*]; done)), H', ⟨Nat.le_refl _⟩, ⟨mv HO354.out⟩, ⟨bt⟩⟩
   case round =>
    clear H'
    try clear c1
    try clear c2
    try clear p2
    try clear c3
    try clear c5
    try clear c5b0
    try clear c5b1
    try clear c13
    obtain ⟨x6_1, rfl, HA, HK1, HO_4, HB⟩ := hrel
    cases gk with
    | zero => exact absurd HA.out (by simp [laws_FnDigests.l0])
    | succ k1 =>
     have H := HA.out
     clear HA
     simp only [laws_FnDigests.l0] at H
     by_cases c14 : x6_1 ≤ 60
     ·rw [if_pos c14] at H
      have c14b0 : decide (x6_1 ≤ 60) = true := decide_eq_true c14
      clear c14
      replace H := Option.bind_eq_some_iff.mp H
      obtain ⟨t357, A150, H⟩ := H
      (try dsimp -simprocs only at H)
      have A15 := Aside0.mk A150
      clear A150
      by_cases c16 : 0 ≤ x6_1
      ·rw [if_pos c16] at H
       have c16b0 := eq_true c16
       have c16b1 : decide (0 ≤ x6_1) = true := decide_eq_true c16
       clear c16
       obtain ⟨ji17, hji17⟩ : ∃ j_ : Int, (shl .i64 1 x6_1) = j_ := ⟨_, rfl⟩
       replace H : (if (ji17) = 0 then (none) else (if t357 = (Int.tmod t356 (ji17)) then (laws_FnDigests.l0 k1 l0 t352 t356 (wrap64 (x6_1 + 1))) else (some false))) = some r := by first | (rw [hji17] at H; exact H) | (simp only [hji17] at H ⊢; exact H)
       (try rw [hji17] at A15)
       have hji17_ : (IntKind.i64.wrap (1 * 2 ^ min x6_1.toNat 64)) = ji17 := hji17
       have hji17z : x6_1 ≤ 64 → (IntKind.i64.wrap (1 * 2 ^ x6_1.toNat)) = ji17 := shl_small hji17
       have hji17u : (IntKind.i64.wrap (2 ^ min x6_1.toNat 64)) = ji17 := by have h_ := hji17_; rw [Int.one_mul] at h_; exact h_
       have hji17v : x6_1 ≤ 64 → (IntKind.i64.wrap (2 ^ x6_1.toNat)) = ji17 := fun hle_ => by have h_ := hji17z hle_; rw [Int.one_mul] at h_; exact h_
       have hji17y : (wrap64 (1 * 2 ^ min x6_1.toNat 64)) = ji17 := (i64_w _).symm.trans hji17_
       have hji17x : x6_1 ≤ 64 → (wrap64 (1 * 2 ^ x6_1.toNat)) = ji17 := fun h_ => (i64_w _).symm.trans (hji17z h_)
       by_cases c18 : (ji17) = 0
       ·rw [if_pos c18] at H
        exact absurd H (by simp)
       ·rw [if_neg c18] at H
        have c18b0 : ((ji17) == 0) = false := beq_eq_false_iff_ne.mpr c18
        have c18b1 : ((ji17) != 0) = true := bne_iff_ne.mpr c18
        by_cases c19 : t357 = (Int.tmod t356 (ji17))
        ·rw [if_pos c19] at H
         have c19b0 : (t357 == (Int.tmod t356 (ji17))) = true := beq_iff_eq.mpr c19
         have c19b1 : (t357 != (Int.tmod t356 (ji17))) = false := bne_eq_false_iff_eq.mpr c19
         clear c19
         have H' := Aside0.mk H
         clear H
         try go_wp2
         have n0_ := Aside0.mk (Kd.R_drew HO_4.out)
         have n1_ := Aside0.mk (below_drew1 HB.out)
         clear HO_4
         clear HB
         have HO_4 := n0_
         have HB := n1_
         clear n0_ n1_
         refine start_ (n := 8) (S := fun w' => True) (ds := []) #[false, false, false, false, false, false, false, false] (by kernel_rfl) rfl rfl trivial (fun hHeld => ?_); refine with_tabW laws_FnDigests.tab10 laws_FnDigests.bits10 (fun HT_ HW_ => ?_)
         generalize wr.drew = w20 at HO_4 HB hHeld ⊢
         refine pz (i := 0) (N := some 41) #[true, false, false, false, false, false, false, false] rfl rfl HT_.out ?_
         refine pz (i := 1) (N := some 42) #[true, true, false, false, false, false, false, false] rfl rfl HT_.out ?_
         refine pz (i := 3) (N := some 44) #[true, true, false, true, false, false, false, false] rfl rfl HT_.out ?_
         refine pz (i := 4) (N := some 45) #[true, true, false, true, true, false, false, false] rfl rfl HT_.out ?_
         refine pz (i := 5) (N := some 46) #[true, true, false, true, true, true, false, false] rfl rfl HT_.out ?_
         refine pz (i := 6) (N := some 47) #[true, true, false, true, true, true, true, false] rfl rfl HT_.out ?_
         refine one_ (i := 2) (N := some 43) #[true, true, true, true, true, true, true, false] rfl rfl (one_of HT_.out (by kernel_rfl)) (by decide) (fun K hK => ?_)
         refine goes_ Try.func21 (by kernel_rfl) rfl #[.int .i64 x6_1, .slice Ao12 t352.length co12] (by rfl) rfl rfl av ?_
         with_reducible refine (impl_Digest.calls x6_1 _ _ t352 t357 _ ?side1 ?side2 A15.out).mono ?_
         (case side1 => exact cv ((Kd.R_reads' HO_4.out).2.2))
         (case side2 => exact (Kd.R_reads' HO_4.out).2.1)
         rintro e w21 ⟨rfl, hb⟩
         refine ⟨_, rfl, ?_⟩
         have n0_ := Aside0.mk (Kd.R_below (mv HO_4.out) hb)
         have n1_ := Aside0.mk (below_step (bt) hb)
         clear HO_4
         clear HB
         have HO_4 := n0_
         have HB := n1_
         clear n0_ n1_
         (try clear hb)
         (try clear hb2)
         (try clear hk)
         (try clear hi)
         refine hK.out _ _ trivial (fun hHeld => ?_)
         clear hK K
         refine nz (N := some 43) ?_
         refine pz (i := 7) (N := some 48) #[true, true, true, true, true, true, true, true] rfl rfl HT_.out ?_
         refine done_ (done_of HT_.out (by kernel_rfl)) ?_
         (try simp only [Dig.setCell_drewN])
         try go_wp2
         go_roundg k1
         case measure => have := HK1.out; omega
         case rel => exact ⟨(wrap64 (x6_1 + 1)), (by first | rfl | (simp; done) | (simp [*]; done)), H', ⟨by have := HK1.out; omega⟩, ⟨mv HO_4.out⟩, ⟨bt⟩⟩
        ·rw [if_neg c19] at H
         have c19b0 : (t357 == (Int.tmod t356 (ji17))) = false := beq_eq_false_iff_ne.mpr c19
         have c19b1 : (t357 != (Int.tmod t356 (ji17))) = true := bne_iff_ne.mpr c19
         exact absurd ((Option.some.inj H).trans hT.out) (by decide)
      ·rw [if_neg c16] at H
       exact absurd H (by simp)
     ·rw [if_neg c14] at H
      have c14b0 : decide (x6_1 ≤ 60) = false := decide_eq_false c14
      clear c14
      replace H := Option.bind_eq_some_iff.mp H
      obtain ⟨⟨t358, t359, t360, t361⟩, A220, H⟩ := H
      (try dsimp -simprocs only at H)
      have A22 := Aside0.mk A220
      clear A220
      replace H := Option.bind_eq_some_iff.mp H
      obtain ⟨t363, A230, H⟩ := H
      (try dsimp -simprocs only at H)
      have A23 := Aside0.mk A230
      clear A230
      replace H := Option.bind_eq_some_iff.mp H
      obtain ⟨⟨t364, t365, t366, t367⟩, A240, H⟩ := H
      (try dsimp -simprocs only at H)
      have A24 := Aside0.mk A240
      clear A240
      replace H := Option.bind_eq_some_iff.mp H
      obtain ⟨t369, A250, H⟩ := H
      (try dsimp -simprocs only at H)
      have A25 := Aside0.mk A250
      clear A250
      replace H := Option.bind_eq_some_iff.mp H
      obtain ⟨⟨t370, t371, t372, t373⟩, A260, H⟩ := H
      (try dsimp -simprocs only at H)
      have A26 := Aside0.mk A260
      clear A260
      replace H := Option.bind_eq_some_iff.mp H
      obtain ⟨t375, A270, H⟩ := H
      (try dsimp -simprocs only at H)
      have A27 := Aside0.mk A270
      clear A270
      replace H := Option.bind_eq_some_iff.mp H
      obtain ⟨t376, A280, H⟩ := H
      (try dsimp -simprocs only at H)
      have A28 := Aside0.mk A280
      clear A280
      replace H := Option.bind_eq_some_iff.mp H
      obtain ⟨⟨t377, t378, t379, t380⟩, A290, H⟩ := H
      (try dsimp -simprocs only at H)
      have A29 := Aside0.mk A290
      clear A290
      replace H := Option.bind_eq_some_iff.mp H
      obtain ⟨t382, A300, H⟩ := H
      (try dsimp -simprocs only at H)
      have A30 := Aside0.mk A300
      clear A300
      replace H := Option.bind_eq_some_iff.mp H
      obtain ⟨⟨t385, t386⟩, A310, H⟩ := H
      (try dsimp -simprocs only at H)
      have A31 := Aside0.mk A310
      clear A310
      replace H := Option.bind_eq_some_iff.mp H
      obtain ⟨⟨t389, t392⟩, A320, H⟩ := H
      (try dsimp -simprocs only at H)
      have A32 := Aside0.mk A320
      clear A320
      replace H := Option.bind_eq_some_iff.mp H
      obtain ⟨⟨t393, t394⟩, A330, H⟩ := H
      (try dsimp -simprocs only at H)
      have A33 := Aside0.mk A330
      clear A330
      have HC34 := Aside0.mk H
      clear H
      try go_wp2_with (first | ((with_reducible refine gate_callee (f := 52) rfl ?_); refine goesL_ (some 51) rfl rfl Try.func52 (by kernel_rfl) rfl #[.slice A0 l0.length c0] rfl av ?_; (with_reducible refine (spec_DrawRounds.calls k1 _ _ l0 t358 t359 t360 t361 _ ?side1 ?side2 A22.out).mono ?_); (case side1 => exact cv ((Kd.C_below HR0.out HB.out))); (case side2 => exact HC0.out); rintro e w35 ⟨rfl, hb⟩; refine ⟨_, rfl, ?_⟩; replace HO_4 := Aside0.mk (Kd.R_below (mv HO_4.out) hb); replace HB := Aside0.mk (below_step (bt) hb); (try clear hb); (try clear hb2); (try clear hk); (try clear hi)) | ((with_reducible refine gate_dst (N := 7) rfl ?_); (try (refine gate_guard (by rfl) ?_; dsimp only)); refine box_event ?hg (N := 7) ?hd (cs := #[.int .i64 0, .int .i64 0, .int .i64 0]) (t := 22) ?hr ?_; (case hd => rfl); (case hg => rfl); (case hr => first | (go_simp; done) | (go_simp; rfl)); intro gb362 hg w36 hbox hb; replace HO_4 := Aside0.mk (Kd.R_below (mv HO_4.out) hb); have BK362 := Aside0.mk (hbox); have GW362 := Aside0.mk ((by rw [hg]; exact (below_size (bt)) : w.heap.size ≤ gb362)); have GE362 := Aside0.mk ((by rw [hg]; exact (below_size (bt)) : w.heap.size ≤ gb362)); replace HB := Aside0.mk (below_step (bt) hb); clear hb hbox hg; have hcz37_0 : w36.cell? ⟨gb362, 0, none⟩ = some (.int .i64 0) := (blk_cell BK362.out 0).trans rfl; have hcz37_1 : w36.cell? ⟨gb362, 1, none⟩ = some (.int .i64 0) := (blk_cell BK362.out 1).trans rfl; have hcz37_2 : w36.cell? ⟨gb362, 2, none⟩ = some (.int .i64 0) := (blk_cell BK362.out 2).trans rfl; have hfz37_0 := blk_frozen BK362.out 0; have hfz37_1 := blk_frozen BK362.out 1; have hfz37_2 := blk_frozen BK362.out 2))
      have n0_ : Aside0 (Kd.R (Kd.int .u8) 5 (((w36.setCell ⟨gb362, 0, none⟩ (.int .i64 t358)).setCell ⟨gb362, 1, none⟩ (.int .i64 t359)).setCell ⟨gb362, 2, none⟩ (.int .i64 t360)) w.heap.size (fun _ => True) (.slice Ao12 t352.length co12) t352) := ⟨by (with_reducible repeat (first | apply Kd.R_alloc | apply Kd.R_drewN | apply Kd.R_drew)); exact Kd.R_mono (Kd.R_far (p := ⟨gb362, 2, none⟩) (Kd.R_far (p := ⟨gb362, 1, none⟩) (Kd.R_far (p := ⟨gb362, 0, none⟩) (Kd.R_types HO_4.out BK362.out (by decide)) (fun _ hk => hk.2) (.int .i64 t358)) (fun _ hk => hk.2) (.int .i64 t359)) (fun _ hk => hk.2) (.int .i64 t360)) (fun _ hk => trivial)⟩
      have n1_ : Aside0 ((((w36.setCell ⟨gb362, 0, none⟩ (.int .i64 t358)).setCell ⟨gb362, 1, none⟩ (.int .i64 t359)).setCell ⟨gb362, 2, none⟩ (.int .i64 t360)).heap[gb362]? = some (.cells #[.int .i64 t358, .int .i64 t359, .int .i64 t360] 22 (0, 0))) := ⟨by (with_reducible repeat (first | refine blk_drewN ?_ _ | refine blk_drew ?_ | refine blk_alloc ?_ _)); refine blk_put (cs := #[.int .i64 t358, .int .i64 t359, .int .i64 0]) ?_ 2 _ rfl; (with_reducible repeat (first | refine blk_drewN ?_ _ | refine blk_drew ?_ | refine blk_alloc ?_ _)); refine blk_put (cs := #[.int .i64 t358, .int .i64 0, .int .i64 0]) ?_ 1 _ rfl; (with_reducible repeat (first | refine blk_drewN ?_ _ | refine blk_drew ?_ | refine blk_alloc ?_ _)); refine blk_put (cs := #[.int .i64 0, .int .i64 0, .int .i64 0]) ?_ 0 _ rfl; (with_reducible repeat (first | refine blk_drewN ?_ _ | refine blk_drew ?_ | refine blk_alloc ?_ _)); exact BK362.out⟩
      have n2_ : Aside0 (Below w.heap.size w (((w36.setCell ⟨gb362, 0, none⟩ (.int .i64 t358)).setCell ⟨gb362, 1, none⟩ (.int .i64 t359)).setCell ⟨gb362, 2, none⟩ (.int .i64 t360))) := ⟨b1 GE362.out⟩
      (try clear HO_4)
      (try clear BK362)
      (try clear HB)
      generalize (((w36.setCell ⟨gb362, 0, none⟩ (.int .i64 t358)).setCell ⟨gb362, 1, none⟩ (.int .i64 t359)).setCell ⟨gb362, 2, none⟩ (.int .i64 t360)) = w38 at n0_ n1_ n2_ ⊢
      have HO_4 := n0_
      have BK362 := n1_
      have HB := n2_
      clear n0_ n1_ n2_
      have n0_ := Aside0.mk (Kd.R_drew HO_4.out)
      have n1_ := Aside0.mk (blk_drew BK362.out)
      have n2_ := Aside0.mk (below_drew1 HB.out)
      clear HO_4
      clear BK362
      clear HB
      have HO_4 := n0_
      have BK362 := n1_
      have HB := n2_
      clear n0_ n1_ n2_
      refine start_ (n := 11) (S := fun w' => w'.cell? ⟨gb362, 0, none⟩ = some (.int .i64 t358) ∧ w'.cell? ⟨gb362, 1, none⟩ = some (.int .i64 t359) ∧ w'.cell? ⟨gb362, 2, none⟩ = some (.int .i64 t360)) (ds := []) #[false, false, false, false, false, false, false, false, false, false, false] (by kernel_rfl) rfl rfl ⟨(blk_cell BK362.out 0).trans rfl, (blk_cell BK362.out 1).trans rfl, (blk_cell BK362.out 2).trans rfl⟩ (fun hHeld => ?_); refine with_tabW laws_FnDigests.tab13 laws_FnDigests.bits13 (fun HT_ HW_ => ?_)
      generalize w38.drew = w39 at HO_4 BK362 HB hHeld ⊢
      refine pz (i := 1) (N := some 56) #[false, true, false, false, false, false, false, false, false, false, false] rfl rfl HT_.out ?_
      refine tz (i := 0) (N := some 55) #[true, true, false, false, false, false, false, false, false, false, false] rfl rfl HT_.out HW_.out hHeld (Or.inl ⟨by rfl, by rintro w' ⟨s0, s1, s2⟩; go_simp; with_reducible rfl⟩) ?_
      refine join_ (σ := Nat) 2 #[true, true, true, true, true, true, true, true, true, false, false] (fun s_ => [(57, .int .i64 t363), (59, .tuple #[.agg #[.int .i64 t364, .int .i64 t365, .int .i64 t366], .bool t367]), (9, .pointer (some ⟨s_, 0, none⟩)), (58, .int .i64 (Int.tmod t363 30)), (54, .tuple #[.agg #[.int .i64 t364, .int .i64 t365, .int .i64 t366], .bool t367]), (60, .agg #[.int .i64 t364, .int .i64 t365, .int .i64 t366]), (61, .bool t367)]) (fun s_ w' => (w'.cell? ⟨gb362, 0, none⟩ = some (.int .i64 t358) ∧ w'.cell? ⟨gb362, 1, none⟩ = some (.int .i64 t359) ∧ w'.cell? ⟨gb362, 2, none⟩ = some (.int .i64 t360)) ∧ (Kd.R (Kd.int .u8) 5 w' w.heap.size (fun _ => True) (.slice Ao12 t352.length co12) t352) ∧ (w'.heap[gb362]? = some (.cells #[.int .i64 t358, .int .i64 t359, .int .i64 t360] 22 (0, 0))) ∧ (w'.heap[s_]? = some (.cells #[.int .i64 0, .int .i64 0, .int .i64 0] 22 (0, 0))) ∧ (w.heap.size ≤ s_) ∧ (w.heap.size ≤ s_) ∧ (gb362 ≠ s_) ∧ (s_ ≠ gb362) ∧ (Below w.heap.size w w')) ?_ ?_
      rotate_left
      ·intro hCont
       refine two_ (i := 2) (j := 8) (Ni := some 57) (Nj := some 9) #[true, true, true, false, false, false, false, false, false, false, false] #[true, true, false, false, false, false, false, false, true, false, false] rfl rfl rfl rfl (two_of HT_.out (by kernel_rfl)) (by decide) (by decide) (fun K hK => ?_) (fun K hK => ?_)
       ·skip
        refine goes_ Try.func53 (by kernel_rfl) rfl #[.slice A0 l0.length c0, .int .i64 1] (by rfl) rfl rfl av ?_
        with_reducible refine (laws_at.calls _ _ l0 1 t363 _ ?side1 ?side2 A23.out).mono ?_
        (case side1 => exact cv ((Kd.C_below HR0.out HB.out)))
        (case side2 => exact HC0.out)
        rintro e w' ⟨rfl, ⟨nd, rfl⟩⟩
        refine ⟨_, rfl, ?_⟩
        refine hK.out _ _ ⟨(blk_cell BK362.out 0).trans rfl, (blk_cell BK362.out 1).trans rfl, (blk_cell BK362.out 2).trans rfl⟩ (fun hHeld => ?_)
        clear hK K
        refine nz (N := some 57) ?_
        refine pz (i := 3) (N := some 58) #[true, true, true, true, false, false, false, false, false, false, false] rfl rfl HT_.out ?_
        refine two_ (i := 4) (j := 8) (Ni := some 59) (Nj := some 9) #[true, true, true, true, true, false, false, false, false, false, false] #[true, true, true, true, false, false, false, false, true, false, false] rfl rfl rfl rfl (two_of HT_.out (by kernel_rfl)) (by decide) (by decide) (fun K hK => ?_) (fun K hK => ?_)
        ·skip
         refine goes_ Try.func17 (by kernel_rfl) rfl #[.agg #[.int .i64 t358, .int .i64 t359, .int .i64 t360], .int .i64 (Int.tmod t363 30)] (by rfl) rfl rfl av ?_
         with_reducible refine (impl_Rounds.calls t358 t359 t360 (Int.tmod t363 30) t364 t365 t366 t367 _ A24.out).mono ?_
         rintro e w40 ⟨rfl, hb⟩
         refine ⟨_, rfl, ?_⟩
         have n0_ := Aside0.mk (Kd.R_below (mv HO_4.out) hb)
         have n1_ := Aside0.mk (blk_below (g := gb362) (o := .cells #[.int .i64 t358, .int .i64 t359, .int .i64 t360] 22 (0, 0)) (mb BK362.out) hb)
         have n2_ := Aside0.mk (below_step (b1 GE362.out) hb)
         clear HO_4
         clear BK362
         clear HB
         have HO_4 := n0_
         have BK362 := n1_
         have HB := n2_
         clear n0_ n1_ n2_
         (try clear hb)
         (try clear hb2)
         (try clear hk)
         (try clear hi)
         refine hK.out _ _ ⟨(blk_cell BK362.out 0).trans rfl, (blk_cell BK362.out 1).trans rfl, (blk_cell BK362.out 2).trans rfl⟩ (fun hHeld => ?_)
         clear hK K
         refine nz (N := some 59) ?_
         refine pz (i := 5) (N := some 54) #[true, true, true, true, true, true, false, false, false, false, false] rfl rfl HT_.out ?_
         refine pz (i := 6) (N := some 60) #[true, true, true, true, true, true, true, false, false, false, false] rfl rfl HT_.out ?_
         refine pz (i := 7) (N := some 61) #[true, true, true, true, true, true, true, true, false, false, false] rfl rfl HT_.out ?_
         refine one_ (i := 8) (N := some 9) #[true, true, true, true, true, true, true, true, true, false, false] rfl rfl (one_of HT_.out (by kernel_rfl)) (by decide) (fun K hK => ?_)
         refine box_step ?hg (N := 9) ?hd (cs := #[.int .i64 0, .int .i64 0, .int .i64 0]) (t := 22) ?hr ?_; (case hd => rfl); (case hg => rfl); (case hr => first | (go_simp; done) | (go_simp; rfl))
         intro gb368 hg w41 hbox hb
         have n0_ := Aside0.mk (Kd.R_below (mv HO_4.out) hb)
         have n1_ := Aside0.mk (blk_below (g := gb362) (o := .cells #[.int .i64 t358, .int .i64 t359, .int .i64 t360] 22 (0, 0)) (mb BK362.out) hb)
         have n2_ := Aside0.mk (below_step (b1 GE362.out) hb)
         have n3_ := Aside0.mk (hbox)
         have n4_ := Aside0.mk ((by rw [hg]; exact (below_size (b1 GE362.out)) : w.heap.size ≤ gb368))
         have n5_ := Aside0.mk ((by rw [hg]; exact (below_size (b1 GE362.out)) : w.heap.size ≤ gb368))
         have n6_ := Aside0.mk ((by rw [hg]; exact Nat.ne_of_lt (blk_lt (g := gb362) (o := .cells #[.int .i64 t358, .int .i64 t359, .int .i64 t360] 22 (0, 0)) (mb BK362.out)) : gb362 ≠ gb368))
         have n7_ := Aside0.mk ((by rw [hg]; exact Nat.ne_of_gt (blk_lt (g := gb362) (o := .cells #[.int .i64 t358, .int .i64 t359, .int .i64 t360] 22 (0, 0)) (mb BK362.out)) : gb368 ≠ gb362))
         clear HO_4
         clear BK362
         clear HB
         have HO_4 := n0_
         have BK362 := n1_
         have HB := n2_
         have BK368 := n3_
         have GW368 := n4_
         have GE368 := n5_
         have NB362_368 := n6_
         have NB368_362 := n7_
         clear n0_ n1_ n2_ n3_ n4_ n5_ n6_ n7_
         clear hb hbox hg
         refine hK.out _ _ ⟨(blk_cell BK362.out 0).trans rfl, (blk_cell BK362.out 1).trans rfl, (blk_cell BK362.out 2).trans rfl⟩ (fun hHeld => ?_)
         clear hK K
         refine nz (N := some 9) ?_
         exact norm_ (by simp only [putAll, Act.put, List.setIfInBounds_toArray, List.set_cons_zero, List.set_cons_succ]) (hCont (gb368) _ ⟨hHeld, (mv HO_4.out), (mb BK362.out), (mb BK368.out), GW368.out, GE368.out, NB362_368.out, NB368_362.out, (by repeat (first | (with_reducible first | exact HB.out | apply below_alloc | apply pw_below_drewN | apply below_drew1 | refine below_set ?_ GE362.out | refine below_set ?_ GE368.out) | exact HB.out))⟩)
        ·skip
         refine box_step ?hg (N := 9) ?hd (cs := #[.int .i64 0, .int .i64 0, .int .i64 0]) (t := 22) ?hr ?_; (case hd => rfl); (case hg => rfl); (case hr => first | (go_simp; done) | (go_simp; rfl))
         intro gb368 hg w40 hbox hb
         have n0_ := Aside0.mk (Kd.R_below (mv HO_4.out) hb)
         have n1_ := Aside0.mk (blk_below (g := gb362) (o := .cells #[.int .i64 t358, .int .i64 t359, .int .i64 t360] 22 (0, 0)) (mb BK362.out) hb)
         have n2_ := Aside0.mk (below_step (b1 GE362.out) hb)
         have n3_ := Aside0.mk (hbox)
         have n4_ := Aside0.mk ((by rw [hg]; exact (below_size (b1 GE362.out)) : w.heap.size ≤ gb368))
         have n5_ := Aside0.mk ((by rw [hg]; exact (below_size (b1 GE362.out)) : w.heap.size ≤ gb368))
         have n6_ := Aside0.mk ((by rw [hg]; exact Nat.ne_of_lt (blk_lt (g := gb362) (o := .cells #[.int .i64 t358, .int .i64 t359, .int .i64 t360] 22 (0, 0)) (mb BK362.out)) : gb362 ≠ gb368))
         have n7_ := Aside0.mk ((by rw [hg]; exact Nat.ne_of_gt (blk_lt (g := gb362) (o := .cells #[.int .i64 t358, .int .i64 t359, .int .i64 t360] 22 (0, 0)) (mb BK362.out)) : gb368 ≠ gb362))
         clear HO_4
         clear BK362
         clear HB
         have HO_4 := n0_
         have BK362 := n1_
         have HB := n2_
         have BK368 := n3_
         have GW368 := n4_
         have GE368 := n5_
         have NB362_368 := n6_
         have NB368_362 := n7_
         clear n0_ n1_ n2_ n3_ n4_ n5_ n6_ n7_
         clear hb hbox hg
         refine hK.out _ _ ⟨(blk_cell BK362.out 0).trans rfl, (blk_cell BK362.out 1).trans rfl, (blk_cell BK362.out 2).trans rfl⟩ (fun hHeld => ?_)
         clear hK K
         refine nz (N := some 9) ?_
         refine one_ (i := 4) (N := some 59) #[true, true, true, true, true, false, false, false, true, false, false] rfl rfl (one_of HT_.out (by kernel_rfl)) (by decide) (fun K hK => ?_)
         refine goes_ Try.func17 (by kernel_rfl) rfl #[.agg #[.int .i64 t358, .int .i64 t359, .int .i64 t360], .int .i64 (Int.tmod t363 30)] (by rfl) rfl rfl av ?_
         with_reducible refine (impl_Rounds.calls t358 t359 t360 (Int.tmod t363 30) t364 t365 t366 t367 _ A24.out).mono ?_
         rintro e w41 ⟨rfl, hb⟩
         refine ⟨_, rfl, ?_⟩
         have n0_ := Aside0.mk (Kd.R_below (mv HO_4.out) hb)
         have n1_ := Aside0.mk (blk_below (g := gb362) (o := .cells #[.int .i64 t358, .int .i64 t359, .int .i64 t360] 22 (0, 0)) (mb BK362.out) hb)
         have n2_ := Aside0.mk (blk_below (g := gb368) (o := .cells #[.int .i64 0, .int .i64 0, .int .i64 0] 22 (0, 0)) (mb BK368.out) hb)
         have n3_ := Aside0.mk (below_step (by repeat (first | (with_reducible first | exact HB.out | apply below_alloc | apply pw_below_drewN | apply below_drew1 | refine below_set ?_ GE362.out | refine below_set ?_ GE368.out) | exact HB.out)) hb)
         clear HO_4
         clear BK362
         clear BK368
         clear HB
         have HO_4 := n0_
         have BK362 := n1_
         have BK368 := n2_
         have HB := n3_
         clear n0_ n1_ n2_ n3_
         (try clear hb)
         (try clear hb2)
         (try clear hk)
         (try clear hi)
         refine hK.out _ _ ⟨(blk_cell BK362.out 0).trans rfl, (blk_cell BK362.out 1).trans rfl, (blk_cell BK362.out 2).trans rfl⟩ (fun hHeld => ?_)
         clear hK K
         refine nz (N := some 59) ?_
         refine pz (i := 5) (N := some 54) #[true, true, true, true, true, true, false, false, true, false, false] rfl rfl HT_.out ?_
         refine pz (i := 6) (N := some 60) #[true, true, true, true, true, true, true, false, true, false, false] rfl rfl HT_.out ?_
         refine pz (i := 7) (N := some 61) #[true, true, true, true, true, true, true, true, true, false, false] rfl rfl HT_.out ?_
         exact norm_ (by simp only [putAll, Act.put, List.setIfInBounds_toArray, List.set_cons_zero, List.set_cons_succ]) (hCont (gb368) _ ⟨hHeld, (mv HO_4.out), (mb BK362.out), (mb BK368.out), GW368.out, GE368.out, NB362_368.out, NB368_362.out, (by repeat (first | (with_reducible first | exact HB.out | apply below_alloc | apply pw_below_drewN | apply below_drew1 | refine below_set ?_ GE362.out | refine below_set ?_ GE368.out) | exact HB.out))⟩)
       ·skip
        refine box_step ?hg (N := 9) ?hd (cs := #[.int .i64 0, .int .i64 0, .int .i64 0]) (t := 22) ?hr ?_; (case hd => rfl); (case hg => rfl); (case hr => first | (go_simp; done) | (go_simp; rfl))
        intro gb368 hg w40 hbox hb
        have n0_ := Aside0.mk (Kd.R_below (mv HO_4.out) hb)
        have n1_ := Aside0.mk (blk_below (g := gb362) (o := .cells #[.int .i64 t358, .int .i64 t359, .int .i64 t360] 22 (0, 0)) (mb BK362.out) hb)
        have n2_ := Aside0.mk (below_step (b1 GE362.out) hb)
        have n3_ := Aside0.mk (hbox)
        have n4_ := Aside0.mk ((by rw [hg]; exact (below_size (b1 GE362.out)) : w.heap.size ≤ gb368))
        have n5_ := Aside0.mk ((by rw [hg]; exact (below_size (b1 GE362.out)) : w.heap.size ≤ gb368))
        have n6_ := Aside0.mk ((by rw [hg]; exact Nat.ne_of_lt (blk_lt (g := gb362) (o := .cells #[.int .i64 t358, .int .i64 t359, .int .i64 t360] 22 (0, 0)) (mb BK362.out)) : gb362 ≠ gb368))
        have n7_ := Aside0.mk ((by rw [hg]; exact Nat.ne_of_gt (blk_lt (g := gb362) (o := .cells #[.int .i64 t358, .int .i64 t359, .int .i64 t360] 22 (0, 0)) (mb BK362.out)) : gb368 ≠ gb362))
        clear HO_4
        clear BK362
        clear HB
        have HO_4 := n0_
        have BK362 := n1_
        have HB := n2_
        have BK368 := n3_
        have GW368 := n4_
        have GE368 := n5_
        have NB362_368 := n6_
        have NB368_362 := n7_
        clear n0_ n1_ n2_ n3_ n4_ n5_ n6_ n7_
        clear hb hbox hg
        refine hK.out _ _ ⟨(blk_cell BK362.out 0).trans rfl, (blk_cell BK362.out 1).trans rfl, (blk_cell BK362.out 2).trans rfl⟩ (fun hHeld => ?_)
        clear hK K
        refine nz (N := some 9) ?_
        refine one_ (i := 2) (N := some 57) #[true, true, true, false, false, false, false, false, true, false, false] rfl rfl (one_of HT_.out (by kernel_rfl)) (by decide) (fun K hK => ?_)
        refine goes_ Try.func53 (by kernel_rfl) rfl #[.slice A0 l0.length c0, .int .i64 1] (by rfl) rfl rfl av ?_
        with_reducible refine (laws_at.calls _ _ l0 1 t363 _ ?side1 ?side2 A23.out).mono ?_
        (case side1 => exact cv ((Kd.C_below HR0.out HB.out)))
        (case side2 => exact HC0.out)
        rintro e w' ⟨rfl, ⟨nd, rfl⟩⟩
        refine ⟨_, rfl, ?_⟩
        refine hK.out _ _ ⟨(blk_cell BK362.out 0).trans rfl, (blk_cell BK362.out 1).trans rfl, (blk_cell BK362.out 2).trans rfl⟩ (fun hHeld => ?_)
        clear hK K
        refine nz (N := some 57) ?_
        refine pz (i := 3) (N := some 58) #[true, true, true, true, false, false, false, false, true, false, false] rfl rfl HT_.out ?_
        refine one_ (i := 4) (N := some 59) #[true, true, true, true, true, false, false, false, true, false, false] rfl rfl (one_of HT_.out (by kernel_rfl)) (by decide) (fun K hK => ?_)
        refine goes_ Try.func17 (by kernel_rfl) rfl #[.agg #[.int .i64 t358, .int .i64 t359, .int .i64 t360], .int .i64 (Int.tmod t363 30)] (by rfl) rfl rfl av ?_
        with_reducible refine (impl_Rounds.calls t358 t359 t360 (Int.tmod t363 30) t364 t365 t366 t367 _ A24.out).mono ?_
        rintro e w41 ⟨rfl, hb⟩
        refine ⟨_, rfl, ?_⟩
        have n0_ := Aside0.mk (Kd.R_below (mv HO_4.out) hb)
        have n1_ := Aside0.mk (blk_below (g := gb362) (o := .cells #[.int .i64 t358, .int .i64 t359, .int .i64 t360] 22 (0, 0)) (mb BK362.out) hb)
        have n2_ := Aside0.mk (blk_below (g := gb368) (o := .cells #[.int .i64 0, .int .i64 0, .int .i64 0] 22 (0, 0)) (mb BK368.out) hb)
        have n3_ := Aside0.mk (below_step (by repeat (first | (with_reducible first | exact HB.out | apply below_alloc | apply pw_below_drewN | apply below_drew1 | refine below_set ?_ GE362.out | refine below_set ?_ GE368.out) | exact HB.out)) hb)
        clear HO_4
        clear BK362
        clear BK368
        clear HB
        have HO_4 := n0_
        have BK362 := n1_
        have BK368 := n2_
        have HB := n3_
        clear n0_ n1_ n2_ n3_
        (try clear hb)
        (try clear hb2)
        (try clear hk)
        (try clear hi)
        refine hK.out _ _ ⟨(blk_cell BK362.out 0).trans rfl, (blk_cell BK362.out 1).trans rfl, (blk_cell BK362.out 2).trans rfl⟩ (fun hHeld => ?_)
        clear hK K
        refine nz (N := some 59) ?_
        refine pz (i := 5) (N := some 54) #[true, true, true, true, true, true, false, false, true, false, false] rfl rfl HT_.out ?_
        refine pz (i := 6) (N := some 60) #[true, true, true, true, true, true, true, false, true, false, false] rfl rfl HT_.out ?_
        refine pz (i := 7) (N := some 61) #[true, true, true, true, true, true, true, true, true, false, false] rfl rfl HT_.out ?_
        exact norm_ (by simp only [putAll, Act.put, List.setIfInBounds_toArray, List.set_cons_zero, List.set_cons_succ]) (hCont (gb368) _ ⟨hHeld, (mv HO_4.out), (mb BK362.out), (mb BK368.out), GW368.out, GE368.out, NB362_368.out, NB368_362.out, (by repeat (first | (with_reducible first | exact HB.out | apply below_alloc | apply pw_below_drewN | apply below_drew1 | refine below_set ?_ GE362.out | refine below_set ?_ GE368.out) | exact HB.out))⟩)
      rintro gb368 w42 ⟨hS_, h0_, h1_, h2_, h3_, h4_, h5_, h6_, h7_⟩
      have n0_ : Aside0 (Kd.R (Kd.int .u8) 5 w42 w.heap.size (fun _ => True) (.slice Ao12 t352.length co12) t352) := ⟨h0_⟩
      have n1_ : Aside0 (w42.heap[gb362]? = some (.cells #[.int .i64 t358, .int .i64 t359, .int .i64 t360] 22 (0, 0))) := ⟨h1_⟩
      have n2_ : Aside0 (w42.heap[gb368]? = some (.cells #[.int .i64 0, .int .i64 0, .int .i64 0] 22 (0, 0))) := ⟨h2_⟩
      have n3_ : Aside0 (w.heap.size ≤ gb368) := ⟨h3_⟩
      have n4_ : Aside0 (w.heap.size ≤ gb368) := ⟨h4_⟩
      have n5_ : Aside0 (gb362 ≠ gb368) := ⟨h5_⟩
      have n6_ : Aside0 (gb368 ≠ gb362) := ⟨h6_⟩
      have n7_ : Aside0 (Below w.heap.size w w42) := ⟨h7_⟩
      clear HO_4
      clear BK362
      clear HB
      clear h0_ h1_ h2_ h3_ h4_ h5_ h6_ h7_
      have HO_4 := n0_
      have BK362 := n1_
      have BK368 := n2_
      have GW368 := n3_
      have GE368 := n4_
      have NB362_368 := n5_
      have NB368_362 := n6_
      have HB := n7_
      clear n0_ n1_ n2_ n3_ n4_ n5_ n6_ n7_
      have hHeld : w42.cell? ⟨gb362, 0, none⟩ = some (.int .i64 t358) ∧ w42.cell? ⟨gb362, 1, none⟩ = some (.int .i64 t359) ∧ w42.cell? ⟨gb362, 2, none⟩ = some (.int .i64 t360) := hS_
      refine norm_ (a' := ?_) ?_ ?_
      rotate_left
      ·simp only [putAll, Act.put, List.setIfInBounds_toArray, List.set_cons_zero, List.set_cons_succ]
       rfl
      refine one_ (i := 9) (N := none) #[true, true, true, true, true, true, true, true, true, true, false] rfl rfl (one_of HT_.out (by kernel_rfl)) (by decide) (fun K hK => ?_)
      have hs43 : w42.cell? ⟨gb368, 0, none⟩ = some (.int .i64 0) := (blk_cell BK368.out 0).trans rfl
      have hfs43 := blk_frozen BK368.out 0
      have hns43_0 := NB362_368.out
      have hms43_0 := NB368_362.out
      have hs44 : w42.cell? ⟨gb368, 1, none⟩ = some (.int .i64 0) := (blk_cell BK368.out 1).trans rfl
      have hfs44 := blk_frozen BK368.out 1
      have hns44_0 := NB362_368.out
      have hms44_0 := NB368_362.out
      have hs45 : w42.cell? ⟨gb368, 2, none⟩ = some (.int .i64 0) := (blk_cell BK368.out 2).trans rfl
      have hfs45 := blk_frozen BK368.out 2
      have hns45_0 := NB362_368.out
      have hms45_0 := NB368_362.out
      refine skip_ (w1 := ?_) (by rfl) rfl ?_ ?_
      rotate_left
      ·go_simp
       rfl
      refine hK.out _ _ ⟨((cell_far (p := ⟨gb368, _, none⟩) NB362_368.out _).trans (((cell_far (p := ⟨gb368, _, none⟩) NB362_368.out _).trans (((cell_far (p := ⟨gb368, _, none⟩) NB362_368.out _).trans (hHeld.1)))))), ((cell_far (p := ⟨gb368, _, none⟩) NB362_368.out _).trans (((cell_far (p := ⟨gb368, _, none⟩) NB362_368.out _).trans (((cell_far (p := ⟨gb368, _, none⟩) NB362_368.out _).trans (hHeld.2.1)))))), ((cell_far (p := ⟨gb368, _, none⟩) NB362_368.out _).trans (((cell_far (p := ⟨gb368, _, none⟩) NB362_368.out _).trans (((cell_far (p := ⟨gb368, _, none⟩) NB362_368.out _).trans (hHeld.2.2))))))⟩ (fun hHeld => ?_)
      clear hK K
      refine pz (i := 10) (N := some 10) #[true, true, true, true, true, true, true, true, true, true, true] rfl rfl HT_.out ?_
      refine done_ (done_of HT_.out (by kernel_rfl)) ?_
      (try simp only [Dig.setCell_drewN])
      try go_wp2
      have n0_ : Aside0 (Kd.R (Kd.int .u8) 5 (((w42.setCell ⟨gb368, 0, none⟩ (.int .i64 t364)).setCell ⟨gb368, 1, none⟩ (.int .i64 t365)).setCell ⟨gb368, 2, none⟩ (.int .i64 t366)) w.heap.size (fun _ => True) (.slice Ao12 t352.length co12) t352) := ⟨by (with_reducible repeat (first | apply Kd.R_alloc | apply Kd.R_drewN | apply Kd.R_drew)); exact Kd.R_mono (Kd.R_far (p := ⟨gb368, 2, none⟩) (Kd.R_far (p := ⟨gb368, 1, none⟩) (Kd.R_far (p := ⟨gb368, 0, none⟩) (Kd.R_types HO_4.out BK368.out (by decide)) (fun _ hk => hk.2) (.int .i64 t364)) (fun _ hk => hk.2) (.int .i64 t365)) (fun _ hk => hk.2) (.int .i64 t366)) (fun _ hk => trivial)⟩
      have n1_ : Aside0 ((((w42.setCell ⟨gb368, 0, none⟩ (.int .i64 t364)).setCell ⟨gb368, 1, none⟩ (.int .i64 t365)).setCell ⟨gb368, 2, none⟩ (.int .i64 t366)).heap[gb362]? = some (.cells #[.int .i64 t358, .int .i64 t359, .int .i64 t360] 22 (0, 0))) := ⟨by (with_reducible repeat (first | refine blk_drewN ?_ _ | refine blk_drew ?_ | refine blk_alloc ?_ _)); refine blk_far ?_ NB362_368.out _; (with_reducible repeat (first | refine blk_drewN ?_ _ | refine blk_drew ?_ | refine blk_alloc ?_ _)); refine blk_far ?_ NB362_368.out _; (with_reducible repeat (first | refine blk_drewN ?_ _ | refine blk_drew ?_ | refine blk_alloc ?_ _)); refine blk_far ?_ NB362_368.out _; (with_reducible repeat (first | refine blk_drewN ?_ _ | refine blk_drew ?_ | refine blk_alloc ?_ _)); exact BK362.out⟩
      have n2_ : Aside0 ((((w42.setCell ⟨gb368, 0, none⟩ (.int .i64 t364)).setCell ⟨gb368, 1, none⟩ (.int .i64 t365)).setCell ⟨gb368, 2, none⟩ (.int .i64 t366)).heap[gb368]? = some (.cells #[.int .i64 t364, .int .i64 t365, .int .i64 t366] 22 (0, 0))) := ⟨by (with_reducible repeat (first | refine blk_drewN ?_ _ | refine blk_drew ?_ | refine blk_alloc ?_ _)); refine blk_put (cs := #[.int .i64 t364, .int .i64 t365, .int .i64 0]) ?_ 2 _ rfl; (with_reducible repeat (first | refine blk_drewN ?_ _ | refine blk_drew ?_ | refine blk_alloc ?_ _)); refine blk_put (cs := #[.int .i64 t364, .int .i64 0, .int .i64 0]) ?_ 1 _ rfl; (with_reducible repeat (first | refine blk_drewN ?_ _ | refine blk_drew ?_ | refine blk_alloc ?_ _)); refine blk_put (cs := #[.int .i64 0, .int .i64 0, .int .i64 0]) ?_ 0 _ rfl; (with_reducible repeat (first | refine blk_drewN ?_ _ | refine blk_drew ?_ | refine blk_alloc ?_ _)); exact BK368.out⟩
      have n3_ : Aside0 (Below w.heap.size w (((w42.setCell ⟨gb368, 0, none⟩ (.int .i64 t364)).setCell ⟨gb368, 1, none⟩ (.int .i64 t365)).setCell ⟨gb368, 2, none⟩ (.int .i64 t366))) := ⟨by repeat (first | (with_reducible first | exact HB.out | apply below_alloc | apply pw_below_drewN | apply below_drew1 | refine below_set ?_ GE362.out | refine below_set ?_ GE368.out) | exact HB.out)⟩
      (try clear HO_4)
      (try clear BK362)
      (try clear BK368)
      (try clear HB)
      generalize (((w42.setCell ⟨gb368, 0, none⟩ (.int .i64 t364)).setCell ⟨gb368, 1, none⟩ (.int .i64 t365)).setCell ⟨gb368, 2, none⟩ (.int .i64 t366)) = w46 at n0_ n1_ n2_ n3_ ⊢
      have HO_4 := n0_
      have BK362 := n1_
      have BK368 := n2_
      have HB := n3_
      clear n0_ n1_ n2_ n3_
      have n0_ := Aside0.mk (Kd.R_drew HO_4.out)
      have n1_ := Aside0.mk (blk_drew BK362.out)
      have n2_ := Aside0.mk (blk_drew BK368.out)
      have n3_ := Aside0.mk (below_drew1 HB.out)
      clear HO_4
      clear BK362
      clear BK368
      clear HB
      have HO_4 := n0_
      have BK362 := n1_
      have BK368 := n2_
      have HB := n3_
      clear n0_ n1_ n2_ n3_
      refine start_ (n := 11) (S := fun w' => w'.cell? ⟨gb368, 0, none⟩ = some (.int .i64 t364) ∧ w'.cell? ⟨gb368, 1, none⟩ = some (.int .i64 t365) ∧ w'.cell? ⟨gb368, 2, none⟩ = some (.int .i64 t366)) (ds := []) #[false, false, false, false, false, false, false, false, false, false, false] (by kernel_rfl) rfl rfl ⟨(blk_cell BK368.out 0).trans rfl, (blk_cell BK368.out 1).trans rfl, (blk_cell BK368.out 2).trans rfl⟩ (fun hHeld => ?_); refine with_tabW laws_FnDigests.tab14 laws_FnDigests.bits14 (fun HT_ HW_ => ?_)
      generalize w46.drew = w47 at HO_4 BK362 BK368 HB hHeld ⊢
      refine pz (i := 1) (N := some 64) #[false, true, false, false, false, false, false, false, false, false, false] rfl rfl HT_.out ?_
      refine tz (i := 0) (N := some 63) #[true, true, false, false, false, false, false, false, false, false, false] rfl rfl HT_.out HW_.out hHeld (Or.inl ⟨by rfl, by rintro w' ⟨s0, s1, s2⟩; go_simp; with_reducible rfl⟩) ?_
      refine join_ (σ := Nat) 2 #[true, true, true, true, true, true, true, true, true, false, false] (fun s_ => [(65, .int .i64 t369), (67, .tuple #[.agg #[.int .i64 t370, .int .i64 t371, .int .i64 t372], .bool t373]), (11, .pointer (some ⟨s_, 0, none⟩)), (66, .int .i64 (Int.tmod t369 30)), (62, .tuple #[.agg #[.int .i64 t370, .int .i64 t371, .int .i64 t372], .bool t373]), (68, .agg #[.int .i64 t370, .int .i64 t371, .int .i64 t372]), (69, .bool t373)]) (fun s_ w' => (w'.cell? ⟨gb368, 0, none⟩ = some (.int .i64 t364) ∧ w'.cell? ⟨gb368, 1, none⟩ = some (.int .i64 t365) ∧ w'.cell? ⟨gb368, 2, none⟩ = some (.int .i64 t366)) ∧ (Kd.R (Kd.int .u8) 5 w' w.heap.size (fun _ => True) (.slice Ao12 t352.length co12) t352) ∧ (w'.heap[gb362]? = some (.cells #[.int .i64 t358, .int .i64 t359, .int .i64 t360] 22 (0, 0))) ∧ (w'.heap[gb368]? = some (.cells #[.int .i64 t364, .int .i64 t365, .int .i64 t366] 22 (0, 0))) ∧ (w'.heap[s_]? = some (.cells #[.int .i64 0, .int .i64 0, .int .i64 0] 22 (0, 0))) ∧ (w.heap.size ≤ s_) ∧ (w.heap.size ≤ s_) ∧ (gb362 ≠ s_) ∧ (s_ ≠ gb362) ∧ (gb368 ≠ s_) ∧ (s_ ≠ gb368) ∧ (Below w.heap.size w w')) ?_ ?_
      rotate_left
      ·intro hCont
       refine two_ (i := 2) (j := 8) (Ni := some 65) (Nj := some 11) #[true, true, true, false, false, false, false, false, false, false, false] #[true, true, false, false, false, false, false, false, true, false, false] rfl rfl rfl rfl (two_of HT_.out (by kernel_rfl)) (by decide) (by decide) (fun K hK => ?_) (fun K hK => ?_)
       ·skip
        refine goes_ Try.func53 (by kernel_rfl) rfl #[.slice A0 l0.length c0, .int .i64 2] (by rfl) rfl rfl av ?_
        with_reducible refine (laws_at.calls _ _ l0 2 t369 _ ?side1 ?side2 A25.out).mono ?_
        (case side1 => exact cv ((Kd.C_below HR0.out HB.out)))
        (case side2 => exact HC0.out)
        rintro e w' ⟨rfl, ⟨nd, rfl⟩⟩
        refine ⟨_, rfl, ?_⟩
        refine hK.out _ _ ⟨(blk_cell BK368.out 0).trans rfl, (blk_cell BK368.out 1).trans rfl, (blk_cell BK368.out 2).trans rfl⟩ (fun hHeld => ?_)
        clear hK K
        refine nz (N := some 65) ?_
        refine pz (i := 3) (N := some 66) #[true, true, true, true, false, false, false, false, false, false, false] rfl rfl HT_.out ?_
        refine two_ (i := 4) (j := 8) (Ni := some 67) (Nj := some 11) #[true, true, true, true, true, false, false, false, false, false, false] #[true, true, true, true, false, false, false, false, true, false, false] rfl rfl rfl rfl (two_of HT_.out (by kernel_rfl)) (by decide) (by decide) (fun K hK => ?_) (fun K hK => ?_)
        ·skip
         refine goes_ Try.func17 (by kernel_rfl) rfl #[.agg #[.int .i64 t364, .int .i64 t365, .int .i64 t366], .int .i64 (Int.tmod t369 30)] (by rfl) rfl rfl av ?_
         with_reducible refine (impl_Rounds.calls t364 t365 t366 (Int.tmod t369 30) t370 t371 t372 t373 _ A26.out).mono ?_
         rintro e w48 ⟨rfl, hb⟩
         refine ⟨_, rfl, ?_⟩
         have n0_ := Aside0.mk (Kd.R_below (mv HO_4.out) hb)
         have n1_ := Aside0.mk (blk_below (g := gb362) (o := .cells #[.int .i64 t358, .int .i64 t359, .int .i64 t360] 22 (0, 0)) (mb BK362.out) hb)
         have n2_ := Aside0.mk (blk_below (g := gb368) (o := .cells #[.int .i64 t364, .int .i64 t365, .int .i64 t366] 22 (0, 0)) (mb BK368.out) hb)
         have n3_ := Aside0.mk (below_step (by repeat (first | (with_reducible first | exact HB.out | apply below_alloc | apply pw_below_drewN | apply below_drew1 | refine below_set ?_ GE362.out | refine below_set ?_ GE368.out) | exact HB.out)) hb)
         clear HO_4
         clear BK362
         clear BK368
         clear HB
         have HO_4 := n0_
         have BK362 := n1_
         have BK368 := n2_
         have HB := n3_
         clear n0_ n1_ n2_ n3_
         (try clear hb)
         (try clear hb2)
         (try clear hk)
         (try clear hi)
         refine hK.out _ _ ⟨(blk_cell BK368.out 0).trans rfl, (blk_cell BK368.out 1).trans rfl, (blk_cell BK368.out 2).trans rfl⟩ (fun hHeld => ?_)
         clear hK K
         refine nz (N := some 67) ?_
         refine pz (i := 5) (N := some 62) #[true, true, true, true, true, true, false, false, false, false, false] rfl rfl HT_.out ?_
         refine pz (i := 6) (N := some 68) #[true, true, true, true, true, true, true, false, false, false, false] rfl rfl HT_.out ?_
         refine pz (i := 7) (N := some 69) #[true, true, true, true, true, true, true, true, false, false, false] rfl rfl HT_.out ?_
         refine one_ (i := 8) (N := some 11) #[true, true, true, true, true, true, true, true, true, false, false] rfl rfl (one_of HT_.out (by kernel_rfl)) (by decide) (fun K hK => ?_)
         refine box_step ?hg (N := 11) ?hd (cs := #[.int .i64 0, .int .i64 0, .int .i64 0]) (t := 22) ?hr ?_; (case hd => rfl); (case hg => rfl); (case hr => first | (go_simp; done) | (go_simp; rfl))
         intro gb374 hg w49 hbox hb
         have n0_ := Aside0.mk (Kd.R_below (mv HO_4.out) hb)
         have n1_ := Aside0.mk (blk_below (g := gb362) (o := .cells #[.int .i64 t358, .int .i64 t359, .int .i64 t360] 22 (0, 0)) (mb BK362.out) hb)
         have n2_ := Aside0.mk (blk_below (g := gb368) (o := .cells #[.int .i64 t364, .int .i64 t365, .int .i64 t366] 22 (0, 0)) (mb BK368.out) hb)
         have n3_ := Aside0.mk (below_step (by repeat (first | (with_reducible first | exact HB.out | apply below_alloc | apply pw_below_drewN | apply below_drew1 | refine below_set ?_ GE362.out | refine below_set ?_ GE368.out) | exact HB.out)) hb)
         have n4_ := Aside0.mk (hbox)
         have n5_ := Aside0.mk ((by rw [hg]; exact (below_size (by repeat (first | (with_reducible first | exact HB.out | apply below_alloc | apply pw_below_drewN | apply below_drew1 | refine below_set ?_ GE362.out | refine below_set ?_ GE368.out) | exact HB.out))) : w.heap.size ≤ gb374))
         have n6_ := Aside0.mk ((by rw [hg]; exact (below_size (by repeat (first | (with_reducible first | exact HB.out | apply below_alloc | apply pw_below_drewN | apply below_drew1 | refine below_set ?_ GE362.out | refine below_set ?_ GE368.out) | exact HB.out))) : w.heap.size ≤ gb374))
         have n7_ := Aside0.mk ((by rw [hg]; exact Nat.ne_of_lt (blk_lt (g := gb362) (o := .cells #[.int .i64 t358, .int .i64 t359, .int .i64 t360] 22 (0, 0)) (mb BK362.out)) : gb362 ≠ gb374))
         have n8_ := Aside0.mk ((by rw [hg]; exact Nat.ne_of_gt (blk_lt (g := gb362) (o := .cells #[.int .i64 t358, .int .i64 t359, .int .i64 t360] 22 (0, 0)) (mb BK362.out)) : gb374 ≠ gb362))
         have n9_ := Aside0.mk ((by rw [hg]; exact Nat.ne_of_lt (blk_lt (g := gb368) (o := .cells #[.int .i64 t364, .int .i64 t365, .int .i64 t366] 22 (0, 0)) (mb BK368.out)) : gb368 ≠ gb374))
         have n10_ := Aside0.mk ((by rw [hg]; exact Nat.ne_of_gt (blk_lt (g := gb368) (o := .cells #[.int .i64 t364, .int .i64 t365, .int .i64 t366] 22 (0, 0)) (mb BK368.out)) : gb374 ≠ gb368))
         clear HO_4
         clear BK362
         clear BK368
         clear HB
         have HO_4 := n0_
         have BK362 := n1_
         have BK368 := n2_
         have HB := n3_
         have BK374 := n4_
         have GW374 := n5_
         have GE374 := n6_
         have NB362_374 := n7_
         have NB374_362 := n8_
         have NB368_374 := n9_
         have NB374_368 := n10_
         clear n0_ n1_ n2_ n3_ n4_ n5_ n6_ n7_ n8_ n9_ n10_
         clear hb hbox hg
         refine hK.out _ _ ⟨(blk_cell BK368.out 0).trans rfl, (blk_cell BK368.out 1).trans rfl, (blk_cell BK368.out 2).trans rfl⟩ (fun hHeld => ?_)
         clear hK K
         refine nz (N := some 11) ?_
         exact norm_ (by simp only [putAll, Act.put, List.setIfInBounds_toArray, List.set_cons_zero, List.set_cons_succ]) (hCont (gb374) _ ⟨hHeld, (mv HO_4.out), (mb BK362.out), (mb BK368.out), (mb BK374.out), GW374.out, GE374.out, NB362_374.out, NB374_362.out, NB368_374.out, NB374_368.out, (by repeat (first | (with_reducible first | exact HB.out | apply below_alloc | apply pw_below_drewN | apply below_drew1 | refine below_set ?_ GE362.out | refine below_set ?_ GE368.out | refine below_set ?_ GE374.out) | exact HB.out))⟩)
        ·skip
         refine box_step ?hg (N := 11) ?hd (cs := #[.int .i64 0, .int .i64 0, .int .i64 0]) (t := 22) ?hr ?_; (case hd => rfl); (case hg => rfl); (case hr => first | (go_simp; done) | (go_simp; rfl))
         intro gb374 hg w48 hbox hb
         have n0_ := Aside0.mk (Kd.R_below (mv HO_4.out) hb)
         have n1_ := Aside0.mk (blk_below (g := gb362) (o := .cells #[.int .i64 t358, .int .i64 t359, .int .i64 t360] 22 (0, 0)) (mb BK362.out) hb)
         have n2_ := Aside0.mk (blk_below (g := gb368) (o := .cells #[.int .i64 t364, .int .i64 t365, .int .i64 t366] 22 (0, 0)) (mb BK368.out) hb)
         have n3_ := Aside0.mk (below_step (by repeat (first | (with_reducible first | exact HB.out | apply below_alloc | apply pw_below_drewN | apply below_drew1 | refine below_set ?_ GE362.out | refine below_set ?_ GE368.out) | exact HB.out)) hb)
         have n4_ := Aside0.mk (hbox)
         have n5_ := Aside0.mk ((by rw [hg]; exact (below_size (by repeat (first | (with_reducible first | exact HB.out | apply below_alloc | apply pw_below_drewN | apply below_drew1 | refine below_set ?_ GE362.out | refine below_set ?_ GE368.out) | exact HB.out))) : w.heap.size ≤ gb374))
         have n6_ := Aside0.mk ((by rw [hg]; exact (below_size (by repeat (first | (with_reducible first | exact HB.out | apply below_alloc | apply pw_below_drewN | apply below_drew1 | refine below_set ?_ GE362.out | refine below_set ?_ GE368.out) | exact HB.out))) : w.heap.size ≤ gb374))
         have n7_ := Aside0.mk ((by rw [hg]; exact Nat.ne_of_lt (blk_lt (g := gb362) (o := .cells #[.int .i64 t358, .int .i64 t359, .int .i64 t360] 22 (0, 0)) (mb BK362.out)) : gb362 ≠ gb374))
         have n8_ := Aside0.mk ((by rw [hg]; exact Nat.ne_of_gt (blk_lt (g := gb362) (o := .cells #[.int .i64 t358, .int .i64 t359, .int .i64 t360] 22 (0, 0)) (mb BK362.out)) : gb374 ≠ gb362))
         have n9_ := Aside0.mk ((by rw [hg]; exact Nat.ne_of_lt (blk_lt (g := gb368) (o := .cells #[.int .i64 t364, .int .i64 t365, .int .i64 t366] 22 (0, 0)) (mb BK368.out)) : gb368 ≠ gb374))
         have n10_ := Aside0.mk ((by rw [hg]; exact Nat.ne_of_gt (blk_lt (g := gb368) (o := .cells #[.int .i64 t364, .int .i64 t365, .int .i64 t366] 22 (0, 0)) (mb BK368.out)) : gb374 ≠ gb368))
         clear HO_4
         clear BK362
         clear BK368
         clear HB
         have HO_4 := n0_
         have BK362 := n1_
         have BK368 := n2_
         have HB := n3_
         have BK374 := n4_
         have GW374 := n5_
         have GE374 := n6_
         have NB362_374 := n7_
         have NB374_362 := n8_
         have NB368_374 := n9_
         have NB374_368 := n10_
         clear n0_ n1_ n2_ n3_ n4_ n5_ n6_ n7_ n8_ n9_ n10_
         clear hb hbox hg
         refine hK.out _ _ ⟨(blk_cell BK368.out 0).trans rfl, (blk_cell BK368.out 1).trans rfl, (blk_cell BK368.out 2).trans rfl⟩ (fun hHeld => ?_)
         clear hK K
         refine nz (N := some 11) ?_
         refine one_ (i := 4) (N := some 67) #[true, true, true, true, true, false, false, false, true, false, false] rfl rfl (one_of HT_.out (by kernel_rfl)) (by decide) (fun K hK => ?_)
         refine goes_ Try.func17 (by kernel_rfl) rfl #[.agg #[.int .i64 t364, .int .i64 t365, .int .i64 t366], .int .i64 (Int.tmod t369 30)] (by rfl) rfl rfl av ?_
         with_reducible refine (impl_Rounds.calls t364 t365 t366 (Int.tmod t369 30) t370 t371 t372 t373 _ A26.out).mono ?_
         rintro e w49 ⟨rfl, hb⟩
         refine ⟨_, rfl, ?_⟩
         have n0_ := Aside0.mk (Kd.R_below (mv HO_4.out) hb)
         have n1_ := Aside0.mk (blk_below (g := gb362) (o := .cells #[.int .i64 t358, .int .i64 t359, .int .i64 t360] 22 (0, 0)) (mb BK362.out) hb)
         have n2_ := Aside0.mk (blk_below (g := gb368) (o := .cells #[.int .i64 t364, .int .i64 t365, .int .i64 t366] 22 (0, 0)) (mb BK368.out) hb)
         have n3_ := Aside0.mk (blk_below (g := gb374) (o := .cells #[.int .i64 0, .int .i64 0, .int .i64 0] 22 (0, 0)) (mb BK374.out) hb)
         have n4_ := Aside0.mk (below_step (by repeat (first | (with_reducible first | exact HB.out | apply below_alloc | apply pw_below_drewN | apply below_drew1 | refine below_set ?_ GE362.out | refine below_set ?_ GE368.out | refine below_set ?_ GE374.out) | exact HB.out)) hb)
         clear HO_4
         clear BK362
         clear BK368
         clear BK374
         clear HB
         have HO_4 := n0_
         have BK362 := n1_
         have BK368 := n2_
         have BK374 := n3_
         have HB := n4_
         clear n0_ n1_ n2_ n3_ n4_
         (try clear hb)
         (try clear hb2)
         (try clear hk)
         (try clear hi)
         refine hK.out _ _ ⟨(blk_cell BK368.out 0).trans rfl, (blk_cell BK368.out 1).trans rfl, (blk_cell BK368.out 2).trans rfl⟩ (fun hHeld => ?_)
         clear hK K
         refine nz (N := some 67) ?_
         refine pz (i := 5) (N := some 62) #[true, true, true, true, true, true, false, false, true, false, false] rfl rfl HT_.out ?_
         refine pz (i := 6) (N := some 68) #[true, true, true, true, true, true, true, false, true, false, false] rfl rfl HT_.out ?_
         refine pz (i := 7) (N := some 69) #[true, true, true, true, true, true, true, true, true, false, false] rfl rfl HT_.out ?_
         exact norm_ (by simp only [putAll, Act.put, List.setIfInBounds_toArray, List.set_cons_zero, List.set_cons_succ]) (hCont (gb374) _ ⟨hHeld, (mv HO_4.out), (mb BK362.out), (mb BK368.out), (mb BK374.out), GW374.out, GE374.out, NB362_374.out, NB374_362.out, NB368_374.out, NB374_368.out, (by repeat (first | (with_reducible first | exact HB.out | apply below_alloc | apply pw_below_drewN | apply below_drew1 | refine below_set ?_ GE362.out | refine below_set ?_ GE368.out | refine below_set ?_ GE374.out) | exact HB.out))⟩)
       ·skip
        refine box_step ?hg (N := 11) ?hd (cs := #[.int .i64 0, .int .i64 0, .int .i64 0]) (t := 22) ?hr ?_; (case hd => rfl); (case hg => rfl); (case hr => first | (go_simp; done) | (go_simp; rfl))
        intro gb374 hg w48 hbox hb
        have n0_ := Aside0.mk (Kd.R_below (mv HO_4.out) hb)
        have n1_ := Aside0.mk (blk_below (g := gb362) (o := .cells #[.int .i64 t358, .int .i64 t359, .int .i64 t360] 22 (0, 0)) (mb BK362.out) hb)
        have n2_ := Aside0.mk (blk_below (g := gb368) (o := .cells #[.int .i64 t364, .int .i64 t365, .int .i64 t366] 22 (0, 0)) (mb BK368.out) hb)
        have n3_ := Aside0.mk (below_step (by repeat (first | (with_reducible first | exact HB.out | apply below_alloc | apply pw_below_drewN | apply below_drew1 | refine below_set ?_ GE362.out | refine below_set ?_ GE368.out) | exact HB.out)) hb)
        have n4_ := Aside0.mk (hbox)
        have n5_ := Aside0.mk ((by rw [hg]; exact (below_size (by repeat (first | (with_reducible first | exact HB.out | apply below_alloc | apply pw_below_drewN | apply below_drew1 | refine below_set ?_ GE362.out | refine below_set ?_ GE368.out) | exact HB.out))) : w.heap.size ≤ gb374))
        have n6_ := Aside0.mk ((by rw [hg]; exact (below_size (by repeat (first | (with_reducible first | exact HB.out | apply below_alloc | apply pw_below_drewN | apply below_drew1 | refine below_set ?_ GE362.out | refine below_set ?_ GE368.out) | exact HB.out))) : w.heap.size ≤ gb374))
        have n7_ := Aside0.mk ((by rw [hg]; exact Nat.ne_of_lt (blk_lt (g := gb362) (o := .cells #[.int .i64 t358, .int .i64 t359, .int .i64 t360] 22 (0, 0)) (mb BK362.out)) : gb362 ≠ gb374))
        have n8_ := Aside0.mk ((by rw [hg]; exact Nat.ne_of_gt (blk_lt (g := gb362) (o := .cells #[.int .i64 t358, .int .i64 t359, .int .i64 t360] 22 (0, 0)) (mb BK362.out)) : gb374 ≠ gb362))
        have n9_ := Aside0.mk ((by rw [hg]; exact Nat.ne_of_lt (blk_lt (g := gb368) (o := .cells #[.int .i64 t364, .int .i64 t365, .int .i64 t366] 22 (0, 0)) (mb BK368.out)) : gb368 ≠ gb374))
        have n10_ := Aside0.mk ((by rw [hg]; exact Nat.ne_of_gt (blk_lt (g := gb368) (o := .cells #[.int .i64 t364, .int .i64 t365, .int .i64 t366] 22 (0, 0)) (mb BK368.out)) : gb374 ≠ gb368))
        clear HO_4
        clear BK362
        clear BK368
        clear HB
        have HO_4 := n0_
        have BK362 := n1_
        have BK368 := n2_
        have HB := n3_
        have BK374 := n4_
        have GW374 := n5_
        have GE374 := n6_
        have NB362_374 := n7_
        have NB374_362 := n8_
        have NB368_374 := n9_
        have NB374_368 := n10_
        clear n0_ n1_ n2_ n3_ n4_ n5_ n6_ n7_ n8_ n9_ n10_
        clear hb hbox hg
        refine hK.out _ _ ⟨(blk_cell BK368.out 0).trans rfl, (blk_cell BK368.out 1).trans rfl, (blk_cell BK368.out 2).trans rfl⟩ (fun hHeld => ?_)
        clear hK K
        refine nz (N := some 11) ?_
        refine one_ (i := 2) (N := some 65) #[true, true, true, false, false, false, false, false, true, false, false] rfl rfl (one_of HT_.out (by kernel_rfl)) (by decide) (fun K hK => ?_)
        refine goes_ Try.func53 (by kernel_rfl) rfl #[.slice A0 l0.length c0, .int .i64 2] (by rfl) rfl rfl av ?_
        with_reducible refine (laws_at.calls _ _ l0 2 t369 _ ?side1 ?side2 A25.out).mono ?_
        (case side1 => exact cv ((Kd.C_below HR0.out HB.out)))
        (case side2 => exact HC0.out)
        rintro e w' ⟨rfl, ⟨nd, rfl⟩⟩
        refine ⟨_, rfl, ?_⟩
        refine hK.out _ _ ⟨(blk_cell BK368.out 0).trans rfl, (blk_cell BK368.out 1).trans rfl, (blk_cell BK368.out 2).trans rfl⟩ (fun hHeld => ?_)
        clear hK K
        refine nz (N := some 65) ?_
        refine pz (i := 3) (N := some 66) #[true, true, true, true, false, false, false, false, true, false, false] rfl rfl HT_.out ?_
        refine one_ (i := 4) (N := some 67) #[true, true, true, true, true, false, false, false, true, false, false] rfl rfl (one_of HT_.out (by kernel_rfl)) (by decide) (fun K hK => ?_)
        refine goes_ Try.func17 (by kernel_rfl) rfl #[.agg #[.int .i64 t364, .int .i64 t365, .int .i64 t366], .int .i64 (Int.tmod t369 30)] (by rfl) rfl rfl av ?_
        with_reducible refine (impl_Rounds.calls t364 t365 t366 (Int.tmod t369 30) t370 t371 t372 t373 _ A26.out).mono ?_
        rintro e w49 ⟨rfl, hb⟩
        refine ⟨_, rfl, ?_⟩
        have n0_ := Aside0.mk (Kd.R_below (mv HO_4.out) hb)
        have n1_ := Aside0.mk (blk_below (g := gb362) (o := .cells #[.int .i64 t358, .int .i64 t359, .int .i64 t360] 22 (0, 0)) (mb BK362.out) hb)
        have n2_ := Aside0.mk (blk_below (g := gb368) (o := .cells #[.int .i64 t364, .int .i64 t365, .int .i64 t366] 22 (0, 0)) (mb BK368.out) hb)
        have n3_ := Aside0.mk (blk_below (g := gb374) (o := .cells #[.int .i64 0, .int .i64 0, .int .i64 0] 22 (0, 0)) (mb BK374.out) hb)
        have n4_ := Aside0.mk (below_step (by repeat (first | (with_reducible first | exact HB.out | apply below_alloc | apply pw_below_drewN | apply below_drew1 | refine below_set ?_ GE362.out | refine below_set ?_ GE368.out | refine below_set ?_ GE374.out) | exact HB.out)) hb)
        clear HO_4
        clear BK362
        clear BK368
        clear BK374
        clear HB
        have HO_4 := n0_
        have BK362 := n1_
        have BK368 := n2_
        have BK374 := n3_
        have HB := n4_
        clear n0_ n1_ n2_ n3_ n4_
        (try clear hb)
        (try clear hb2)
        (try clear hk)
        (try clear hi)
        refine hK.out _ _ ⟨(blk_cell BK368.out 0).trans rfl, (blk_cell BK368.out 1).trans rfl, (blk_cell BK368.out 2).trans rfl⟩ (fun hHeld => ?_)
        clear hK K
        refine nz (N := some 67) ?_
        refine pz (i := 5) (N := some 62) #[true, true, true, true, true, true, false, false, true, false, false] rfl rfl HT_.out ?_
        refine pz (i := 6) (N := some 68) #[true, true, true, true, true, true, true, false, true, false, false] rfl rfl HT_.out ?_
        refine pz (i := 7) (N := some 69) #[true, true, true, true, true, true, true, true, true, false, false] rfl rfl HT_.out ?_
        exact norm_ (by simp only [putAll, Act.put, List.setIfInBounds_toArray, List.set_cons_zero, List.set_cons_succ]) (hCont (gb374) _ ⟨hHeld, (mv HO_4.out), (mb BK362.out), (mb BK368.out), (mb BK374.out), GW374.out, GE374.out, NB362_374.out, NB374_362.out, NB368_374.out, NB374_368.out, (by repeat (first | (with_reducible first | exact HB.out | apply below_alloc | apply pw_below_drewN | apply below_drew1 | refine below_set ?_ GE362.out | refine below_set ?_ GE368.out | refine below_set ?_ GE374.out) | exact HB.out))⟩)
      rintro gb374 w50 ⟨hS_, h0_, h1_, h2_, h3_, h4_, h5_, h6_, h7_, h8_, h9_, h10_⟩
      have n0_ : Aside0 (Kd.R (Kd.int .u8) 5 w50 w.heap.size (fun _ => True) (.slice Ao12 t352.length co12) t352) := ⟨h0_⟩
      have n1_ : Aside0 (w50.heap[gb362]? = some (.cells #[.int .i64 t358, .int .i64 t359, .int .i64 t360] 22 (0, 0))) := ⟨h1_⟩
      have n2_ : Aside0 (w50.heap[gb368]? = some (.cells #[.int .i64 t364, .int .i64 t365, .int .i64 t366] 22 (0, 0))) := ⟨h2_⟩
      have n3_ : Aside0 (w50.heap[gb374]? = some (.cells #[.int .i64 0, .int .i64 0, .int .i64 0] 22 (0, 0))) := ⟨h3_⟩
      have n4_ : Aside0 (w.heap.size ≤ gb374) := ⟨h4_⟩
      have n5_ : Aside0 (w.heap.size ≤ gb374) := ⟨h5_⟩
      have n6_ : Aside0 (gb362 ≠ gb374) := ⟨h6_⟩
      have n7_ : Aside0 (gb374 ≠ gb362) := ⟨h7_⟩
      have n8_ : Aside0 (gb368 ≠ gb374) := ⟨h8_⟩
      have n9_ : Aside0 (gb374 ≠ gb368) := ⟨h9_⟩
      have n10_ : Aside0 (Below w.heap.size w w50) := ⟨h10_⟩
      clear HO_4
      clear BK362
      clear BK368
      clear HB
      clear h0_ h1_ h2_ h3_ h4_ h5_ h6_ h7_ h8_ h9_ h10_
      have HO_4 := n0_
      have BK362 := n1_
      have BK368 := n2_
      have BK374 := n3_
      have GW374 := n4_
      have GE374 := n5_
      have NB362_374 := n6_
      have NB374_362 := n7_
      have NB368_374 := n8_
      have NB374_368 := n9_
      have HB := n10_
      clear n0_ n1_ n2_ n3_ n4_ n5_ n6_ n7_ n8_ n9_ n10_
      have hHeld : w50.cell? ⟨gb368, 0, none⟩ = some (.int .i64 t364) ∧ w50.cell? ⟨gb368, 1, none⟩ = some (.int .i64 t365) ∧ w50.cell? ⟨gb368, 2, none⟩ = some (.int .i64 t366) := hS_
      refine norm_ (a' := ?_) ?_ ?_
      rotate_left
      ·simp only [putAll, Act.put, List.setIfInBounds_toArray, List.set_cons_zero, List.set_cons_succ]
       rfl
      refine one_ (i := 9) (N := none) #[true, true, true, true, true, true, true, true, true, true, false] rfl rfl (one_of HT_.out (by kernel_rfl)) (by decide) (fun K hK => ?_)
      have hs51 : w50.cell? ⟨gb374, 0, none⟩ = some (.int .i64 0) := (blk_cell BK374.out 0).trans rfl
      have hfs51 := blk_frozen BK374.out 0
      have hns51_0 := NB362_374.out
      have hns51_1 := NB368_374.out
      have hms51_0 := NB374_362.out
      have hms51_1 := NB374_368.out
      have hs52 : w50.cell? ⟨gb374, 1, none⟩ = some (.int .i64 0) := (blk_cell BK374.out 1).trans rfl
      have hfs52 := blk_frozen BK374.out 1
      have hns52_0 := NB362_374.out
      have hns52_1 := NB368_374.out
      have hms52_0 := NB374_362.out
      have hms52_1 := NB374_368.out
      have hs53 : w50.cell? ⟨gb374, 2, none⟩ = some (.int .i64 0) := (blk_cell BK374.out 2).trans rfl
      have hfs53 := blk_frozen BK374.out 2
      have hns53_0 := NB362_374.out
      have hns53_1 := NB368_374.out
      have hms53_0 := NB374_362.out
      have hms53_1 := NB374_368.out
      refine skip_ (w1 := ?_) (by rfl) rfl ?_ ?_
      rotate_left
      ·go_simp
       rfl
      refine hK.out _ _ ⟨((cell_far (p := ⟨gb374, _, none⟩) NB368_374.out _).trans (((cell_far (p := ⟨gb374, _, none⟩) NB368_374.out _).trans (((cell_far (p := ⟨gb374, _, none⟩) NB368_374.out _).trans (hHeld.1)))))), ((cell_far (p := ⟨gb374, _, none⟩) NB368_374.out _).trans (((cell_far (p := ⟨gb374, _, none⟩) NB368_374.out _).trans (((cell_far (p := ⟨gb374, _, none⟩) NB368_374.out _).trans (hHeld.2.1)))))), ((cell_far (p := ⟨gb374, _, none⟩) NB368_374.out _).trans (((cell_far (p := ⟨gb374, _, none⟩) NB368_374.out _).trans (((cell_far (p := ⟨gb374, _, none⟩) NB368_374.out _).trans (hHeld.2.2))))))⟩ (fun hHeld => ?_)
      clear hK K
      refine pz (i := 10) (N := some 12) #[true, true, true, true, true, true, true, true, true, true, true] rfl rfl HT_.out ?_
      refine done_ (done_of HT_.out (by kernel_rfl)) ?_
      (try simp only [Dig.setCell_drewN])
      try go_wp2
      have n0_ : Aside0 (Kd.R (Kd.int .u8) 5 (((w50.setCell ⟨gb374, 0, none⟩ (.int .i64 t370)).setCell ⟨gb374, 1, none⟩ (.int .i64 t371)).setCell ⟨gb374, 2, none⟩ (.int .i64 t372)) w.heap.size (fun _ => True) (.slice Ao12 t352.length co12) t352) := ⟨by (with_reducible repeat (first | apply Kd.R_alloc | apply Kd.R_drewN | apply Kd.R_drew)); exact Kd.R_mono (Kd.R_far (p := ⟨gb374, 2, none⟩) (Kd.R_far (p := ⟨gb374, 1, none⟩) (Kd.R_far (p := ⟨gb374, 0, none⟩) (Kd.R_types HO_4.out BK374.out (by decide)) (fun _ hk => hk.2) (.int .i64 t370)) (fun _ hk => hk.2) (.int .i64 t371)) (fun _ hk => hk.2) (.int .i64 t372)) (fun _ hk => trivial)⟩
      have n1_ : Aside0 ((((w50.setCell ⟨gb374, 0, none⟩ (.int .i64 t370)).setCell ⟨gb374, 1, none⟩ (.int .i64 t371)).setCell ⟨gb374, 2, none⟩ (.int .i64 t372)).heap[gb362]? = some (.cells #[.int .i64 t358, .int .i64 t359, .int .i64 t360] 22 (0, 0))) := ⟨by (with_reducible repeat (first | refine blk_drewN ?_ _ | refine blk_drew ?_ | refine blk_alloc ?_ _)); refine blk_far ?_ NB362_374.out _; (with_reducible repeat (first | refine blk_drewN ?_ _ | refine blk_drew ?_ | refine blk_alloc ?_ _)); refine blk_far ?_ NB362_374.out _; (with_reducible repeat (first | refine blk_drewN ?_ _ | refine blk_drew ?_ | refine blk_alloc ?_ _)); refine blk_far ?_ NB362_374.out _; (with_reducible repeat (first | refine blk_drewN ?_ _ | refine blk_drew ?_ | refine blk_alloc ?_ _)); exact BK362.out⟩
      have n2_ : Aside0 ((((w50.setCell ⟨gb374, 0, none⟩ (.int .i64 t370)).setCell ⟨gb374, 1, none⟩ (.int .i64 t371)).setCell ⟨gb374, 2, none⟩ (.int .i64 t372)).heap[gb368]? = some (.cells #[.int .i64 t364, .int .i64 t365, .int .i64 t366] 22 (0, 0))) := ⟨by (with_reducible repeat (first | refine blk_drewN ?_ _ | refine blk_drew ?_ | refine blk_alloc ?_ _)); refine blk_far ?_ NB368_374.out _; (with_reducible repeat (first | refine blk_drewN ?_ _ | refine blk_drew ?_ | refine blk_alloc ?_ _)); refine blk_far ?_ NB368_374.out _; (with_reducible repeat (first | refine blk_drewN ?_ _ | refine blk_drew ?_ | refine blk_alloc ?_ _)); refine blk_far ?_ NB368_374.out _; (with_reducible repeat (first | refine blk_drewN ?_ _ | refine blk_drew ?_ | refine blk_alloc ?_ _)); exact BK368.out⟩
      have n3_ : Aside0 ((((w50.setCell ⟨gb374, 0, none⟩ (.int .i64 t370)).setCell ⟨gb374, 1, none⟩ (.int .i64 t371)).setCell ⟨gb374, 2, none⟩ (.int .i64 t372)).heap[gb374]? = some (.cells #[.int .i64 t370, .int .i64 t371, .int .i64 t372] 22 (0, 0))) := ⟨by (with_reducible repeat (first | refine blk_drewN ?_ _ | refine blk_drew ?_ | refine blk_alloc ?_ _)); refine blk_put (cs := #[.int .i64 t370, .int .i64 t371, .int .i64 0]) ?_ 2 _ rfl; (with_reducible repeat (first | refine blk_drewN ?_ _ | refine blk_drew ?_ | refine blk_alloc ?_ _)); refine blk_put (cs := #[.int .i64 t370, .int .i64 0, .int .i64 0]) ?_ 1 _ rfl; (with_reducible repeat (first | refine blk_drewN ?_ _ | refine blk_drew ?_ | refine blk_alloc ?_ _)); refine blk_put (cs := #[.int .i64 0, .int .i64 0, .int .i64 0]) ?_ 0 _ rfl; (with_reducible repeat (first | refine blk_drewN ?_ _ | refine blk_drew ?_ | refine blk_alloc ?_ _)); exact BK374.out⟩
      have n4_ : Aside0 (Below w.heap.size w (((w50.setCell ⟨gb374, 0, none⟩ (.int .i64 t370)).setCell ⟨gb374, 1, none⟩ (.int .i64 t371)).setCell ⟨gb374, 2, none⟩ (.int .i64 t372))) := ⟨by repeat (first | (with_reducible first | exact HB.out | apply below_alloc | apply pw_below_drewN | apply below_drew1 | refine below_set ?_ GE362.out | refine below_set ?_ GE368.out | refine below_set ?_ GE374.out) | exact HB.out)⟩
      (try clear HO_4)
      (try clear BK362)
      (try clear BK368)
      (try clear BK374)
      (try clear HB)
      generalize (((w50.setCell ⟨gb374, 0, none⟩ (.int .i64 t370)).setCell ⟨gb374, 1, none⟩ (.int .i64 t371)).setCell ⟨gb374, 2, none⟩ (.int .i64 t372)) = w54 at n0_ n1_ n2_ n3_ n4_ ⊢
      have HO_4 := n0_
      have BK362 := n1_
      have BK368 := n2_
      have BK374 := n3_
      have HB := n4_
      clear n0_ n1_ n2_ n3_ n4_
      have n0_ := Aside0.mk (Kd.R_drew HO_4.out)
      have n1_ := Aside0.mk (blk_drew BK362.out)
      have n2_ := Aside0.mk (blk_drew BK368.out)
      have n3_ := Aside0.mk (blk_drew BK374.out)
      have n4_ := Aside0.mk (below_drew1 HB.out)
      clear HO_4
      clear BK362
      clear BK368
      clear BK374
      clear HB
      have HO_4 := n0_
      have BK362 := n1_
      have BK368 := n2_
      have BK374 := n3_
      have HB := n4_
      clear n0_ n1_ n2_ n3_ n4_
      refine start_ (n := 15) (S := fun w' => w'.cell? ⟨gb362, 0, none⟩ = some (.int .i64 t358) ∧ w'.cell? ⟨gb362, 1, none⟩ = some (.int .i64 t359) ∧ w'.cell? ⟨gb362, 2, none⟩ = some (.int .i64 t360)) (ds := []) #[false, false, false, false, false, false, false, false, false, false, false, false, false, false, false] (by kernel_rfl) rfl rfl ⟨(blk_cell BK362.out 0).trans rfl, (blk_cell BK362.out 1).trans rfl, (blk_cell BK362.out 2).trans rfl⟩ (fun hHeld => ?_); refine with_tabW laws_FnDigests.tab15 laws_FnDigests.bits15 (fun HT_ HW_ => ?_)
      generalize w54.drew = w55 at HO_4 BK362 BK368 BK374 HB hHeld ⊢
      refine pz (i := 1) (N := some 72) #[false, true, false, false, false, false, false, false, false, false, false, false, false, false, false] rfl rfl HT_.out ?_
      refine pz (i := 4) (N := some 75) #[false, true, false, false, true, false, false, false, false, false, false, false, false, false, false] rfl rfl HT_.out ?_
      refine tz (i := 0) (N := some 71) #[true, true, false, false, true, false, false, false, false, false, false, false, false, false, false] rfl rfl HT_.out HW_.out hHeld (Or.inl ⟨by rfl, by rintro w' ⟨s0, s1, s2⟩; go_simp; with_reducible rfl⟩) ?_
      refine join_ (σ := Nat) 2 #[true, true, true, true, true, true, true, true, true, true, true, true, true, false, false] (fun s_ => [(73, .int .i64 t375), (76, .int .i64 t376), (79, .tuple #[.agg #[.int .i64 t377, .int .i64 t378, .int .i64 t379], .bool t380]), (13, .pointer (some ⟨s_, 0, none⟩)), (74, .int .i64 (Int.tmod t375 30)), (77, .int .i64 (Int.tmod t376 30)), (78, .int .i64 (wrap64 ((Int.tmod t375 30) + (Int.tmod t376 30)))), (70, .tuple #[.agg #[.int .i64 t377, .int .i64 t378, .int .i64 t379], .bool t380]), (80, .agg #[.int .i64 t377, .int .i64 t378, .int .i64 t379]), (81, .bool t380)]) (fun s_ w' => (w'.cell? ⟨gb362, 0, none⟩ = some (.int .i64 t358) ∧ w'.cell? ⟨gb362, 1, none⟩ = some (.int .i64 t359) ∧ w'.cell? ⟨gb362, 2, none⟩ = some (.int .i64 t360)) ∧ (Kd.R (Kd.int .u8) 5 w' w.heap.size (fun _ => True) (.slice Ao12 t352.length co12) t352) ∧ (w'.heap[gb362]? = some (.cells #[.int .i64 t358, .int .i64 t359, .int .i64 t360] 22 (0, 0))) ∧ (w'.heap[gb368]? = some (.cells #[.int .i64 t364, .int .i64 t365, .int .i64 t366] 22 (0, 0))) ∧ (w'.heap[gb374]? = some (.cells #[.int .i64 t370, .int .i64 t371, .int .i64 t372] 22 (0, 0))) ∧ (w'.heap[s_]? = some (.cells #[.int .i64 0, .int .i64 0, .int .i64 0] 22 (0, 0))) ∧ (w.heap.size ≤ s_) ∧ (w.heap.size ≤ s_) ∧ (gb362 ≠ s_) ∧ (s_ ≠ gb362) ∧ (gb368 ≠ s_) ∧ (s_ ≠ gb368) ∧ (gb374 ≠ s_) ∧ (s_ ≠ gb374) ∧ (Below w.heap.size w w')) ?_ ?_
      rotate_left
      ·intro hCont
       refine two_ (i := 2) (j := 12) (Ni := some 73) (Nj := some 13) #[true, true, true, false, true, false, false, false, false, false, false, false, false, false, false] #[true, true, false, false, true, false, false, false, false, false, false, false, true, false, false] rfl rfl rfl rfl (two_of HT_.out (by kernel_rfl)) (by decide) (by decide) (fun K hK => ?_) (fun K hK => ?_)
       ·skip
        refine goes_ Try.func53 (by kernel_rfl) rfl #[.slice A0 l0.length c0, .int .i64 1] (by rfl) rfl rfl av ?_
        with_reducible refine (laws_at.calls _ _ l0 1 t375 _ ?side1 ?side2 A27.out).mono ?_
        (case side1 => exact cv ((Kd.C_below HR0.out HB.out)))
        (case side2 => exact HC0.out)
        rintro e w' ⟨rfl, ⟨nd, rfl⟩⟩
        refine ⟨_, rfl, ?_⟩
        refine hK.out _ _ ⟨(blk_cell BK362.out 0).trans rfl, (blk_cell BK362.out 1).trans rfl, (blk_cell BK362.out 2).trans rfl⟩ (fun hHeld => ?_)
        clear hK K
        refine nz (N := some 73) ?_
        refine pz (i := 3) (N := some 74) #[true, true, true, true, true, false, false, false, false, false, false, false, false, false, false] rfl rfl HT_.out ?_
        refine two_ (i := 5) (j := 12) (Ni := some 76) (Nj := some 13) #[true, true, true, true, true, true, false, false, false, false, false, false, false, false, false] #[true, true, true, true, true, false, false, false, false, false, false, false, true, false, false] rfl rfl rfl rfl (two_of HT_.out (by kernel_rfl)) (by decide) (by decide) (fun K hK => ?_) (fun K hK => ?_)
        ·skip
         refine goes_ Try.func53 (by kernel_rfl) rfl #[.slice A0 l0.length c0, .int .i64 2] (by rfl) rfl rfl av ?_
         with_reducible refine (laws_at.calls _ _ l0 2 t376 _ ?side1 ?side2 A28.out).mono ?_
         (case side1 => repeat (first | exact (Kd.C_below HR0.out (by repeat (first | (with_reducible first | exact HB.out | apply below_alloc | apply pw_below_drewN | apply below_drew1 | refine below_set ?_ GE362.out | refine below_set ?_ GE368.out | refine below_set ?_ GE374.out) | exact HB.out))) | (with_reducible refine Kd.C_alloc ?_ _) | (with_reducible refine Kd.C_drewN ?_ _) | (with_reducible refine Kd.C_drew ?_)))
         (case side2 => exact HC0.out)
         rintro e w' ⟨rfl, ⟨nd, rfl⟩⟩
         refine ⟨_, rfl, ?_⟩
         refine hK.out _ _ ⟨(blk_cell BK362.out 0).trans rfl, (blk_cell BK362.out 1).trans rfl, (blk_cell BK362.out 2).trans rfl⟩ (fun hHeld => ?_)
         clear hK K
         refine nz (N := some 76) ?_
         refine pz (i := 6) (N := some 77) #[true, true, true, true, true, true, true, false, false, false, false, false, false, false, false] rfl rfl HT_.out ?_
         refine pz (i := 7) (N := some 78) #[true, true, true, true, true, true, true, true, false, false, false, false, false, false, false] rfl rfl HT_.out ?_
         refine two_ (i := 8) (j := 12) (Ni := some 79) (Nj := some 13) #[true, true, true, true, true, true, true, true, true, false, false, false, false, false, false] #[true, true, true, true, true, true, true, true, false, false, false, false, true, false, false] rfl rfl rfl rfl (two_of HT_.out (by kernel_rfl)) (by decide) (by decide) (fun K hK => ?_) (fun K hK => ?_)
         ·skip
          refine goes_ Try.func17 (by kernel_rfl) rfl #[.agg #[.int .i64 t358, .int .i64 t359, .int .i64 t360], .int .i64 (wrap64 ((Int.tmod t375 30) + (Int.tmod t376 30)))] (by rfl) rfl rfl av ?_
          with_reducible refine (impl_Rounds.calls t358 t359 t360 (wrap64 ((Int.tmod t375 30) + (Int.tmod t376 30))) t377 t378 t379 t380 _ A29.out).mono ?_
          rintro e w56 ⟨rfl, hb⟩
          refine ⟨_, rfl, ?_⟩
          have n0_ := Aside0.mk (Kd.R_below (mv HO_4.out) hb)
          have n1_ := Aside0.mk (blk_below (g := gb362) (o := .cells #[.int .i64 t358, .int .i64 t359, .int .i64 t360] 22 (0, 0)) (mb BK362.out) hb)
          have n2_ := Aside0.mk (blk_below (g := gb368) (o := .cells #[.int .i64 t364, .int .i64 t365, .int .i64 t366] 22 (0, 0)) (mb BK368.out) hb)
          have n3_ := Aside0.mk (blk_below (g := gb374) (o := .cells #[.int .i64 t370, .int .i64 t371, .int .i64 t372] 22 (0, 0)) (mb BK374.out) hb)
          have n4_ := Aside0.mk (below_step (by repeat (first | (with_reducible first | exact HB.out | apply below_alloc | apply pw_below_drewN | apply below_drew1 | refine below_set ?_ GE362.out | refine below_set ?_ GE368.out | refine below_set ?_ GE374.out) | exact HB.out)) hb)
          clear HO_4
          clear BK362
          clear BK368
          clear BK374
          clear HB
          have HO_4 := n0_
          have BK362 := n1_
          have BK368 := n2_
          have BK374 := n3_
          have HB := n4_
          clear n0_ n1_ n2_ n3_ n4_
          (try clear hb)
          (try clear hb2)
          (try clear hk)
          (try clear hi)
          refine hK.out _ _ ⟨(blk_cell BK362.out 0).trans rfl, (blk_cell BK362.out 1).trans rfl, (blk_cell BK362.out 2).trans rfl⟩ (fun hHeld => ?_)
          clear hK K
          refine nz (N := some 79) ?_
          refine pz (i := 9) (N := some 70) #[true, true, true, true, true, true, true, true, true, true, false, false, false, false, false] rfl rfl HT_.out ?_
          refine pz (i := 10) (N := some 80) #[true, true, true, true, true, true, true, true, true, true, true, false, false, false, false] rfl rfl HT_.out ?_
          refine pz (i := 11) (N := some 81) #[true, true, true, true, true, true, true, true, true, true, true, true, false, false, false] rfl rfl HT_.out ?_
          refine one_ (i := 12) (N := some 13) #[true, true, true, true, true, true, true, true, true, true, true, true, true, false, false] rfl rfl (one_of HT_.out (by kernel_rfl)) (by decide) (fun K hK => ?_)
          refine box_step ?hg (N := 13) ?hd (cs := #[.int .i64 0, .int .i64 0, .int .i64 0]) (t := 22) ?hr ?_; (case hd => rfl); (case hg => rfl); (case hr => first | (go_simp; done) | (go_simp; rfl))
          intro gb381 hg w57 hbox hb
          have n0_ := Aside0.mk (Kd.R_below (mv HO_4.out) hb)
          have n1_ := Aside0.mk (blk_below (g := gb362) (o := .cells #[.int .i64 t358, .int .i64 t359, .int .i64 t360] 22 (0, 0)) (mb BK362.out) hb)
          have n2_ := Aside0.mk (blk_below (g := gb368) (o := .cells #[.int .i64 t364, .int .i64 t365, .int .i64 t366] 22 (0, 0)) (mb BK368.out) hb)
          have n3_ := Aside0.mk (blk_below (g := gb374) (o := .cells #[.int .i64 t370, .int .i64 t371, .int .i64 t372] 22 (0, 0)) (mb BK374.out) hb)
          have n4_ := Aside0.mk (below_step (by repeat (first | (with_reducible first | exact HB.out | apply below_alloc | apply pw_below_drewN | apply below_drew1 | refine below_set ?_ GE362.out | refine below_set ?_ GE368.out | refine below_set ?_ GE374.out) | exact HB.out)) hb)
          have n5_ := Aside0.mk (hbox)
          have n6_ := Aside0.mk ((by rw [hg]; exact (below_size (by repeat (first | (with_reducible first | exact HB.out | apply below_alloc | apply pw_below_drewN | apply below_drew1 | refine below_set ?_ GE362.out | refine below_set ?_ GE368.out | refine below_set ?_ GE374.out) | exact HB.out))) : w.heap.size ≤ gb381))
          have n7_ := Aside0.mk ((by rw [hg]; exact (below_size (by repeat (first | (with_reducible first | exact HB.out | apply below_alloc | apply pw_below_drewN | apply below_drew1 | refine below_set ?_ GE362.out | refine below_set ?_ GE368.out | refine below_set ?_ GE374.out) | exact HB.out))) : w.heap.size ≤ gb381))
          have n8_ := Aside0.mk ((by rw [hg]; exact Nat.ne_of_lt (blk_lt (g := gb362) (o := .cells #[.int .i64 t358, .int .i64 t359, .int .i64 t360] 22 (0, 0)) (mb BK362.out)) : gb362 ≠ gb381))
          have n9_ := Aside0.mk ((by rw [hg]; exact Nat.ne_of_gt (blk_lt (g := gb362) (o := .cells #[.int .i64 t358, .int .i64 t359, .int .i64 t360] 22 (0, 0)) (mb BK362.out)) : gb381 ≠ gb362))
          have n10_ := Aside0.mk ((by rw [hg]; exact Nat.ne_of_lt (blk_lt (g := gb368) (o := .cells #[.int .i64 t364, .int .i64 t365, .int .i64 t366] 22 (0, 0)) (mb BK368.out)) : gb368 ≠ gb381))
          have n11_ := Aside0.mk ((by rw [hg]; exact Nat.ne_of_gt (blk_lt (g := gb368) (o := .cells #[.int .i64 t364, .int .i64 t365, .int .i64 t366] 22 (0, 0)) (mb BK368.out)) : gb381 ≠ gb368))
          have n12_ := Aside0.mk ((by rw [hg]; exact Nat.ne_of_lt (blk_lt (g := gb374) (o := .cells #[.int .i64 t370, .int .i64 t371, .int .i64 t372] 22 (0, 0)) (mb BK374.out)) : gb374 ≠ gb381))
          have n13_ := Aside0.mk ((by rw [hg]; exact Nat.ne_of_gt (blk_lt (g := gb374) (o := .cells #[.int .i64 t370, .int .i64 t371, .int .i64 t372] 22 (0, 0)) (mb BK374.out)) : gb381 ≠ gb374))
          clear HO_4
          clear BK362
          clear BK368
          clear BK374
          clear HB
          have HO_4 := n0_
          have BK362 := n1_
          have BK368 := n2_
          have BK374 := n3_
          have HB := n4_
          have BK381 := n5_
          have GW381 := n6_
          have GE381 := n7_
          have NB362_381 := n8_
          have NB381_362 := n9_
          have NB368_381 := n10_
          have NB381_368 := n11_
          have NB374_381 := n12_
          have NB381_374 := n13_
          clear n0_ n1_ n2_ n3_ n4_ n5_ n6_ n7_ n8_ n9_ n10_ n11_ n12_ n13_
          clear hb hbox hg
          refine hK.out _ _ ⟨(blk_cell BK362.out 0).trans rfl, (blk_cell BK362.out 1).trans rfl, (blk_cell BK362.out 2).trans rfl⟩ (fun hHeld => ?_)
          clear hK K
          refine nz (N := some 13) ?_
          exact norm_ (by simp only [putAll, Act.put, List.setIfInBounds_toArray, List.set_cons_zero, List.set_cons_succ]) (hCont (gb381) _ ⟨hHeld, (mv HO_4.out), (mb BK362.out), (mb BK368.out), (mb BK374.out), (mb BK381.out), GW381.out, GE381.out, NB362_381.out, NB381_362.out, NB368_381.out, NB381_368.out, NB374_381.out, NB381_374.out, (by repeat (first | (with_reducible first | exact HB.out | apply below_alloc | apply pw_below_drewN | apply below_drew1 | refine below_set ?_ GE362.out | refine below_set ?_ GE368.out | refine below_set ?_ GE374.out | refine below_set ?_ GE381.out) | exact HB.out))⟩)
         ·skip
          refine box_step ?hg (N := 13) ?hd (cs := #[.int .i64 0, .int .i64 0, .int .i64 0]) (t := 22) ?hr ?_; (case hd => rfl); (case hg => rfl); (case hr => first | (go_simp; done) | (go_simp; rfl))
          intro gb381 hg w56 hbox hb
          have n0_ := Aside0.mk (Kd.R_below (mv HO_4.out) hb)
          have n1_ := Aside0.mk (blk_below (g := gb362) (o := .cells #[.int .i64 t358, .int .i64 t359, .int .i64 t360] 22 (0, 0)) (mb BK362.out) hb)
          have n2_ := Aside0.mk (blk_below (g := gb368) (o := .cells #[.int .i64 t364, .int .i64 t365, .int .i64 t366] 22 (0, 0)) (mb BK368.out) hb)
          have n3_ := Aside0.mk (blk_below (g := gb374) (o := .cells #[.int .i64 t370, .int .i64 t371, .int .i64 t372] 22 (0, 0)) (mb BK374.out) hb)
          have n4_ := Aside0.mk (below_step (by repeat (first | (with_reducible first | exact HB.out | apply below_alloc | apply pw_below_drewN | apply below_drew1 | refine below_set ?_ GE362.out | refine below_set ?_ GE368.out | refine below_set ?_ GE374.out) | exact HB.out)) hb)
          have n5_ := Aside0.mk (hbox)
          have n6_ := Aside0.mk ((by rw [hg]; exact (below_size (by repeat (first | (with_reducible first | exact HB.out | apply below_alloc | apply pw_below_drewN | apply below_drew1 | refine below_set ?_ GE362.out | refine below_set ?_ GE368.out | refine below_set ?_ GE374.out) | exact HB.out))) : w.heap.size ≤ gb381))
          have n7_ := Aside0.mk ((by rw [hg]; exact (below_size (by repeat (first | (with_reducible first | exact HB.out | apply below_alloc | apply pw_below_drewN | apply below_drew1 | refine below_set ?_ GE362.out | refine below_set ?_ GE368.out | refine below_set ?_ GE374.out) | exact HB.out))) : w.heap.size ≤ gb381))
          have n8_ := Aside0.mk ((by rw [hg]; exact Nat.ne_of_lt (blk_lt (g := gb362) (o := .cells #[.int .i64 t358, .int .i64 t359, .int .i64 t360] 22 (0, 0)) (mb BK362.out)) : gb362 ≠ gb381))
          have n9_ := Aside0.mk ((by rw [hg]; exact Nat.ne_of_gt (blk_lt (g := gb362) (o := .cells #[.int .i64 t358, .int .i64 t359, .int .i64 t360] 22 (0, 0)) (mb BK362.out)) : gb381 ≠ gb362))
          have n10_ := Aside0.mk ((by rw [hg]; exact Nat.ne_of_lt (blk_lt (g := gb368) (o := .cells #[.int .i64 t364, .int .i64 t365, .int .i64 t366] 22 (0, 0)) (mb BK368.out)) : gb368 ≠ gb381))
          have n11_ := Aside0.mk ((by rw [hg]; exact Nat.ne_of_gt (blk_lt (g := gb368) (o := .cells #[.int .i64 t364, .int .i64 t365, .int .i64 t366] 22 (0, 0)) (mb BK368.out)) : gb381 ≠ gb368))
          have n12_ := Aside0.mk ((by rw [hg]; exact Nat.ne_of_lt (blk_lt (g := gb374) (o := .cells #[.int .i64 t370, .int .i64 t371, .int .i64 t372] 22 (0, 0)) (mb BK374.out)) : gb374 ≠ gb381))
          have n13_ := Aside0.mk ((by rw [hg]; exact Nat.ne_of_gt (blk_lt (g := gb374) (o := .cells #[.int .i64 t370, .int .i64 t371, .int .i64 t372] 22 (0, 0)) (mb BK374.out)) : gb381 ≠ gb374))
          clear HO_4
          clear BK362
          clear BK368
          clear BK374
          clear HB
          have HO_4 := n0_
          have BK362 := n1_
          have BK368 := n2_
          have BK374 := n3_
          have HB := n4_
          have BK381 := n5_
          have GW381 := n6_
          have GE381 := n7_
          have NB362_381 := n8_
          have NB381_362 := n9_
          have NB368_381 := n10_
          have NB381_368 := n11_
          have NB374_381 := n12_
          have NB381_374 := n13_
          clear n0_ n1_ n2_ n3_ n4_ n5_ n6_ n7_ n8_ n9_ n10_ n11_ n12_ n13_
          clear hb hbox hg
          refine hK.out _ _ ⟨(blk_cell BK362.out 0).trans rfl, (blk_cell BK362.out 1).trans rfl, (blk_cell BK362.out 2).trans rfl⟩ (fun hHeld => ?_)
          clear hK K
          refine nz (N := some 13) ?_
          refine one_ (i := 8) (N := some 79) #[true, true, true, true, true, true, true, true, true, false, false, false, true, false, false] rfl rfl (one_of HT_.out (by kernel_rfl)) (by decide) (fun K hK => ?_)
          refine goes_ Try.func17 (by kernel_rfl) rfl #[.agg #[.int .i64 t358, .int .i64 t359, .int .i64 t360], .int .i64 (wrap64 ((Int.tmod t375 30) + (Int.tmod t376 30)))] (by rfl) rfl rfl av ?_
          with_reducible refine (impl_Rounds.calls t358 t359 t360 (wrap64 ((Int.tmod t375 30) + (Int.tmod t376 30))) t377 t378 t379 t380 _ A29.out).mono ?_
          rintro e w57 ⟨rfl, hb⟩
          refine ⟨_, rfl, ?_⟩
          have n0_ := Aside0.mk (Kd.R_below (mv HO_4.out) hb)
          have n1_ := Aside0.mk (blk_below (g := gb362) (o := .cells #[.int .i64 t358, .int .i64 t359, .int .i64 t360] 22 (0, 0)) (mb BK362.out) hb)
          have n2_ := Aside0.mk (blk_below (g := gb368) (o := .cells #[.int .i64 t364, .int .i64 t365, .int .i64 t366] 22 (0, 0)) (mb BK368.out) hb)
          have n3_ := Aside0.mk (blk_below (g := gb374) (o := .cells #[.int .i64 t370, .int .i64 t371, .int .i64 t372] 22 (0, 0)) (mb BK374.out) hb)
          have n4_ := Aside0.mk (blk_below (g := gb381) (o := .cells #[.int .i64 0, .int .i64 0, .int .i64 0] 22 (0, 0)) (mb BK381.out) hb)
          have n5_ := Aside0.mk (below_step (by repeat (first | (with_reducible first | exact HB.out | apply below_alloc | apply pw_below_drewN | apply below_drew1 | refine below_set ?_ GE362.out | refine below_set ?_ GE368.out | refine below_set ?_ GE374.out | refine below_set ?_ GE381.out) | exact HB.out)) hb)
          clear HO_4
          clear BK362
          clear BK368
          clear BK374
          clear BK381
          clear HB
          have HO_4 := n0_
          have BK362 := n1_
          have BK368 := n2_
          have BK374 := n3_
          have BK381 := n4_
          have HB := n5_
          clear n0_ n1_ n2_ n3_ n4_ n5_
          (try clear hb)
          (try clear hb2)
          (try clear hk)
          (try clear hi)
          refine hK.out _ _ ⟨(blk_cell BK362.out 0).trans rfl, (blk_cell BK362.out 1).trans rfl, (blk_cell BK362.out 2).trans rfl⟩ (fun hHeld => ?_)
          clear hK K
          refine nz (N := some 79) ?_
          refine pz (i := 9) (N := some 70) #[true, true, true, true, true, true, true, true, true, true, false, false, true, false, false] rfl rfl HT_.out ?_
          refine pz (i := 10) (N := some 80) #[true, true, true, true, true, true, true, true, true, true, true, false, true, false, false] rfl rfl HT_.out ?_
          refine pz (i := 11) (N := some 81) #[true, true, true, true, true, true, true, true, true, true, true, true, true, false, false] rfl rfl HT_.out ?_
          exact norm_ (by simp only [putAll, Act.put, List.setIfInBounds_toArray, List.set_cons_zero, List.set_cons_succ]) (hCont (gb381) _ ⟨hHeld, (mv HO_4.out), (mb BK362.out), (mb BK368.out), (mb BK374.out), (mb BK381.out), GW381.out, GE381.out, NB362_381.out, NB381_362.out, NB368_381.out, NB381_368.out, NB374_381.out, NB381_374.out, (by repeat (first | (with_reducible first | exact HB.out | apply below_alloc | apply pw_below_drewN | apply below_drew1 | refine below_set ?_ GE362.out | refine below_set ?_ GE368.out | refine below_set ?_ GE374.out | refine below_set ?_ GE381.out) | exact HB.out))⟩)
        ·skip
         refine box_step ?hg (N := 13) ?hd (cs := #[.int .i64 0, .int .i64 0, .int .i64 0]) (t := 22) ?hr ?_; (case hd => rfl); (case hg => rfl); (case hr => first | (go_simp; done) | (go_simp; rfl))
         intro gb381 hg w56 hbox hb
         have n0_ := Aside0.mk (Kd.R_below (mv HO_4.out) hb)
         have n1_ := Aside0.mk (blk_below (g := gb362) (o := .cells #[.int .i64 t358, .int .i64 t359, .int .i64 t360] 22 (0, 0)) (mb BK362.out) hb)
         have n2_ := Aside0.mk (blk_below (g := gb368) (o := .cells #[.int .i64 t364, .int .i64 t365, .int .i64 t366] 22 (0, 0)) (mb BK368.out) hb)
         have n3_ := Aside0.mk (blk_below (g := gb374) (o := .cells #[.int .i64 t370, .int .i64 t371, .int .i64 t372] 22 (0, 0)) (mb BK374.out) hb)
         have n4_ := Aside0.mk (below_step (by repeat (first | (with_reducible first | exact HB.out | apply below_alloc | apply pw_below_drewN | apply below_drew1 | refine below_set ?_ GE362.out | refine below_set ?_ GE368.out | refine below_set ?_ GE374.out) | exact HB.out)) hb)
         have n5_ := Aside0.mk (hbox)
         have n6_ := Aside0.mk ((by rw [hg]; exact (below_size (by repeat (first | (with_reducible first | exact HB.out | apply below_alloc | apply pw_below_drewN | apply below_drew1 | refine below_set ?_ GE362.out | refine below_set ?_ GE368.out | refine below_set ?_ GE374.out) | exact HB.out))) : w.heap.size ≤ gb381))
         have n7_ := Aside0.mk ((by rw [hg]; exact (below_size (by repeat (first | (with_reducible first | exact HB.out | apply below_alloc | apply pw_below_drewN | apply below_drew1 | refine below_set ?_ GE362.out | refine below_set ?_ GE368.out | refine below_set ?_ GE374.out) | exact HB.out))) : w.heap.size ≤ gb381))
         have n8_ := Aside0.mk ((by rw [hg]; exact Nat.ne_of_lt (blk_lt (g := gb362) (o := .cells #[.int .i64 t358, .int .i64 t359, .int .i64 t360] 22 (0, 0)) (mb BK362.out)) : gb362 ≠ gb381))
         have n9_ := Aside0.mk ((by rw [hg]; exact Nat.ne_of_gt (blk_lt (g := gb362) (o := .cells #[.int .i64 t358, .int .i64 t359, .int .i64 t360] 22 (0, 0)) (mb BK362.out)) : gb381 ≠ gb362))
         have n10_ := Aside0.mk ((by rw [hg]; exact Nat.ne_of_lt (blk_lt (g := gb368) (o := .cells #[.int .i64 t364, .int .i64 t365, .int .i64 t366] 22 (0, 0)) (mb BK368.out)) : gb368 ≠ gb381))
         have n11_ := Aside0.mk ((by rw [hg]; exact Nat.ne_of_gt (blk_lt (g := gb368) (o := .cells #[.int .i64 t364, .int .i64 t365, .int .i64 t366] 22 (0, 0)) (mb BK368.out)) : gb381 ≠ gb368))
         have n12_ := Aside0.mk ((by rw [hg]; exact Nat.ne_of_lt (blk_lt (g := gb374) (o := .cells #[.int .i64 t370, .int .i64 t371, .int .i64 t372] 22 (0, 0)) (mb BK374.out)) : gb374 ≠ gb381))
         have n13_ := Aside0.mk ((by rw [hg]; exact Nat.ne_of_gt (blk_lt (g := gb374) (o := .cells #[.int .i64 t370, .int .i64 t371, .int .i64 t372] 22 (0, 0)) (mb BK374.out)) : gb381 ≠ gb374))
         clear HO_4
         clear BK362
         clear BK368
         clear BK374
         clear HB
         have HO_4 := n0_
         have BK362 := n1_
         have BK368 := n2_
         have BK374 := n3_
         have HB := n4_
         have BK381 := n5_
         have GW381 := n6_
         have GE381 := n7_
         have NB362_381 := n8_
         have NB381_362 := n9_
         have NB368_381 := n10_
         have NB381_368 := n11_
         have NB374_381 := n12_
         have NB381_374 := n13_
         clear n0_ n1_ n2_ n3_ n4_ n5_ n6_ n7_ n8_ n9_ n10_ n11_ n12_ n13_
         clear hb hbox hg
         refine hK.out _ _ ⟨(blk_cell BK362.out 0).trans rfl, (blk_cell BK362.out 1).trans rfl, (blk_cell BK362.out 2).trans rfl⟩ (fun hHeld => ?_)
         clear hK K
         refine nz (N := some 13) ?_
         refine one_ (i := 5) (N := some 76) #[true, true, true, true, true, true, false, false, false, false, false, false, true, false, false] rfl rfl (one_of HT_.out (by kernel_rfl)) (by decide) (fun K hK => ?_)
         refine goes_ Try.func53 (by kernel_rfl) rfl #[.slice A0 l0.length c0, .int .i64 2] (by rfl) rfl rfl av ?_
         with_reducible refine (laws_at.calls _ _ l0 2 t376 _ ?side1 ?side2 A28.out).mono ?_
         (case side1 => exact cv ((Kd.C_below HR0.out HB.out)))
         (case side2 => exact HC0.out)
         rintro e w' ⟨rfl, ⟨nd, rfl⟩⟩
         refine ⟨_, rfl, ?_⟩
         refine hK.out _ _ ⟨(blk_cell BK362.out 0).trans rfl, (blk_cell BK362.out 1).trans rfl, (blk_cell BK362.out 2).trans rfl⟩ (fun hHeld => ?_)
         clear hK K
         refine nz (N := some 76) ?_
         refine pz (i := 6) (N := some 77) #[true, true, true, true, true, true, true, false, false, false, false, false, true, false, false] rfl rfl HT_.out ?_
         refine pz (i := 7) (N := some 78) #[true, true, true, true, true, true, true, true, false, false, false, false, true, false, false] rfl rfl HT_.out ?_
         refine one_ (i := 8) (N := some 79) #[true, true, true, true, true, true, true, true, true, false, false, false, true, false, false] rfl rfl (one_of HT_.out (by kernel_rfl)) (by decide) (fun K hK => ?_)
         refine goes_ Try.func17 (by kernel_rfl) rfl #[.agg #[.int .i64 t358, .int .i64 t359, .int .i64 t360], .int .i64 (wrap64 ((Int.tmod t375 30) + (Int.tmod t376 30)))] (by rfl) rfl rfl av ?_
         with_reducible refine (impl_Rounds.calls t358 t359 t360 (wrap64 ((Int.tmod t375 30) + (Int.tmod t376 30))) t377 t378 t379 t380 _ A29.out).mono ?_
         rintro e w57 ⟨rfl, hb⟩
         refine ⟨_, rfl, ?_⟩
         have n0_ := Aside0.mk (Kd.R_below (mv HO_4.out) hb)
         have n1_ := Aside0.mk (blk_below (g := gb362) (o := .cells #[.int .i64 t358, .int .i64 t359, .int .i64 t360] 22 (0, 0)) (mb BK362.out) hb)
         have n2_ := Aside0.mk (blk_below (g := gb368) (o := .cells #[.int .i64 t364, .int .i64 t365, .int .i64 t366] 22 (0, 0)) (mb BK368.out) hb)
         have n3_ := Aside0.mk (blk_below (g := gb374) (o := .cells #[.int .i64 t370, .int .i64 t371, .int .i64 t372] 22 (0, 0)) (mb BK374.out) hb)
         have n4_ := Aside0.mk (blk_below (g := gb381) (o := .cells #[.int .i64 0, .int .i64 0, .int .i64 0] 22 (0, 0)) (mb BK381.out) hb)
         have n5_ := Aside0.mk (below_step (by repeat (first | (with_reducible first | exact HB.out | apply below_alloc | apply pw_below_drewN | apply below_drew1 | refine below_set ?_ GE362.out | refine below_set ?_ GE368.out | refine below_set ?_ GE374.out | refine below_set ?_ GE381.out) | exact HB.out)) hb)
         clear HO_4
         clear BK362
         clear BK368
         clear BK374
         clear BK381
         clear HB
         have HO_4 := n0_
         have BK362 := n1_
         have BK368 := n2_
         have BK374 := n3_
         have BK381 := n4_
         have HB := n5_
         clear n0_ n1_ n2_ n3_ n4_ n5_
         (try clear hb)
         (try clear hb2)
         (try clear hk)
         (try clear hi)
         refine hK.out _ _ ⟨(blk_cell BK362.out 0).trans rfl, (blk_cell BK362.out 1).trans rfl, (blk_cell BK362.out 2).trans rfl⟩ (fun hHeld => ?_)
         clear hK K
         refine nz (N := some 79) ?_
         refine pz (i := 9) (N := some 70) #[true, true, true, true, true, true, true, true, true, true, false, false, true, false, false] rfl rfl HT_.out ?_
         refine pz (i := 10) (N := some 80) #[true, true, true, true, true, true, true, true, true, true, true, false, true, false, false] rfl rfl HT_.out ?_
         refine pz (i := 11) (N := some 81) #[true, true, true, true, true, true, true, true, true, true, true, true, true, false, false] rfl rfl HT_.out ?_
         exact norm_ (by simp only [putAll, Act.put, List.setIfInBounds_toArray, List.set_cons_zero, List.set_cons_succ]) (hCont (gb381) _ ⟨hHeld, (mv HO_4.out), (mb BK362.out), (mb BK368.out), (mb BK374.out), (mb BK381.out), GW381.out, GE381.out, NB362_381.out, NB381_362.out, NB368_381.out, NB381_368.out, NB374_381.out, NB381_374.out, (by repeat (first | (with_reducible first | exact HB.out | apply below_alloc | apply pw_below_drewN | apply below_drew1 | refine below_set ?_ GE362.out | refine below_set ?_ GE368.out | refine below_set ?_ GE374.out | refine below_set ?_ GE381.out) | exact HB.out))⟩)
       ·skip
        refine box_step ?hg (N := 13) ?hd (cs := #[.int .i64 0, .int .i64 0, .int .i64 0]) (t := 22) ?hr ?_; (case hd => rfl); (case hg => rfl); (case hr => first | (go_simp; done) | (go_simp; rfl))
        intro gb381 hg w56 hbox hb
        have n0_ := Aside0.mk (Kd.R_below (mv HO_4.out) hb)
        have n1_ := Aside0.mk (blk_below (g := gb362) (o := .cells #[.int .i64 t358, .int .i64 t359, .int .i64 t360] 22 (0, 0)) (mb BK362.out) hb)
        have n2_ := Aside0.mk (blk_below (g := gb368) (o := .cells #[.int .i64 t364, .int .i64 t365, .int .i64 t366] 22 (0, 0)) (mb BK368.out) hb)
        have n3_ := Aside0.mk (blk_below (g := gb374) (o := .cells #[.int .i64 t370, .int .i64 t371, .int .i64 t372] 22 (0, 0)) (mb BK374.out) hb)
        have n4_ := Aside0.mk (below_step (by repeat (first | (with_reducible first | exact HB.out | apply below_alloc | apply pw_below_drewN | apply below_drew1 | refine below_set ?_ GE362.out | refine below_set ?_ GE368.out | refine below_set ?_ GE374.out) | exact HB.out)) hb)
        have n5_ := Aside0.mk (hbox)
        have n6_ := Aside0.mk ((by rw [hg]; exact (below_size (by repeat (first | (with_reducible first | exact HB.out | apply below_alloc | apply pw_below_drewN | apply below_drew1 | refine below_set ?_ GE362.out | refine below_set ?_ GE368.out | refine below_set ?_ GE374.out) | exact HB.out))) : w.heap.size ≤ gb381))
        have n7_ := Aside0.mk ((by rw [hg]; exact (below_size (by repeat (first | (with_reducible first | exact HB.out | apply below_alloc | apply pw_below_drewN | apply below_drew1 | refine below_set ?_ GE362.out | refine below_set ?_ GE368.out | refine below_set ?_ GE374.out) | exact HB.out))) : w.heap.size ≤ gb381))
        have n8_ := Aside0.mk ((by rw [hg]; exact Nat.ne_of_lt (blk_lt (g := gb362) (o := .cells #[.int .i64 t358, .int .i64 t359, .int .i64 t360] 22 (0, 0)) (mb BK362.out)) : gb362 ≠ gb381))
        have n9_ := Aside0.mk ((by rw [hg]; exact Nat.ne_of_gt (blk_lt (g := gb362) (o := .cells #[.int .i64 t358, .int .i64 t359, .int .i64 t360] 22 (0, 0)) (mb BK362.out)) : gb381 ≠ gb362))
        have n10_ := Aside0.mk ((by rw [hg]; exact Nat.ne_of_lt (blk_lt (g := gb368) (o := .cells #[.int .i64 t364, .int .i64 t365, .int .i64 t366] 22 (0, 0)) (mb BK368.out)) : gb368 ≠ gb381))
        have n11_ := Aside0.mk ((by rw [hg]; exact Nat.ne_of_gt (blk_lt (g := gb368) (o := .cells #[.int .i64 t364, .int .i64 t365, .int .i64 t366] 22 (0, 0)) (mb BK368.out)) : gb381 ≠ gb368))
        have n12_ := Aside0.mk ((by rw [hg]; exact Nat.ne_of_lt (blk_lt (g := gb374) (o := .cells #[.int .i64 t370, .int .i64 t371, .int .i64 t372] 22 (0, 0)) (mb BK374.out)) : gb374 ≠ gb381))
        have n13_ := Aside0.mk ((by rw [hg]; exact Nat.ne_of_gt (blk_lt (g := gb374) (o := .cells #[.int .i64 t370, .int .i64 t371, .int .i64 t372] 22 (0, 0)) (mb BK374.out)) : gb381 ≠ gb374))
        clear HO_4
        clear BK362
        clear BK368
        clear BK374
        clear HB
        have HO_4 := n0_
        have BK362 := n1_
        have BK368 := n2_
        have BK374 := n3_
        have HB := n4_
        have BK381 := n5_
        have GW381 := n6_
        have GE381 := n7_
        have NB362_381 := n8_
        have NB381_362 := n9_
        have NB368_381 := n10_
        have NB381_368 := n11_
        have NB374_381 := n12_
        have NB381_374 := n13_
        clear n0_ n1_ n2_ n3_ n4_ n5_ n6_ n7_ n8_ n9_ n10_ n11_ n12_ n13_
        clear hb hbox hg
        refine hK.out _ _ ⟨(blk_cell BK362.out 0).trans rfl, (blk_cell BK362.out 1).trans rfl, (blk_cell BK362.out 2).trans rfl⟩ (fun hHeld => ?_)
        clear hK K
        refine nz (N := some 13) ?_
        refine one_ (i := 2) (N := some 73) #[true, true, true, false, true, false, false, false, false, false, false, false, true, false, false] rfl rfl (one_of HT_.out (by kernel_rfl)) (by decide) (fun K hK => ?_)
        refine goes_ Try.func53 (by kernel_rfl) rfl #[.slice A0 l0.length c0, .int .i64 1] (by rfl) rfl rfl av ?_
        with_reducible refine (laws_at.calls _ _ l0 1 t375 _ ?side1 ?side2 A27.out).mono ?_
        (case side1 => exact cv ((Kd.C_below HR0.out HB.out)))
        (case side2 => exact HC0.out)
        rintro e w' ⟨rfl, ⟨nd, rfl⟩⟩
        refine ⟨_, rfl, ?_⟩
        refine hK.out _ _ ⟨(blk_cell BK362.out 0).trans rfl, (blk_cell BK362.out 1).trans rfl, (blk_cell BK362.out 2).trans rfl⟩ (fun hHeld => ?_)
        clear hK K
        refine nz (N := some 73) ?_
        refine pz (i := 3) (N := some 74) #[true, true, true, true, true, false, false, false, false, false, false, false, true, false, false] rfl rfl HT_.out ?_
        refine one_ (i := 5) (N := some 76) #[true, true, true, true, true, true, false, false, false, false, false, false, true, false, false] rfl rfl (one_of HT_.out (by kernel_rfl)) (by decide) (fun K hK => ?_)
        refine goes_ Try.func53 (by kernel_rfl) rfl #[.slice A0 l0.length c0, .int .i64 2] (by rfl) rfl rfl av ?_
        with_reducible refine (laws_at.calls _ _ l0 2 t376 _ ?side1 ?side2 A28.out).mono ?_
        (case side1 => repeat (first | exact (Kd.C_below HR0.out (by repeat (first | (with_reducible first | exact HB.out | apply below_alloc | apply pw_below_drewN | apply below_drew1 | refine below_set ?_ GE362.out | refine below_set ?_ GE368.out | refine below_set ?_ GE374.out | refine below_set ?_ GE381.out) | exact HB.out))) | (with_reducible refine Kd.C_alloc ?_ _) | (with_reducible refine Kd.C_drewN ?_ _) | (with_reducible refine Kd.C_drew ?_)))
        (case side2 => exact HC0.out)
        rintro e w' ⟨rfl, ⟨nd, rfl⟩⟩
        refine ⟨_, rfl, ?_⟩
        refine hK.out _ _ ⟨(blk_cell BK362.out 0).trans rfl, (blk_cell BK362.out 1).trans rfl, (blk_cell BK362.out 2).trans rfl⟩ (fun hHeld => ?_)
        clear hK K
        refine nz (N := some 76) ?_
        refine pz (i := 6) (N := some 77) #[true, true, true, true, true, true, true, false, false, false, false, false, true, false, false] rfl rfl HT_.out ?_
        refine pz (i := 7) (N := some 78) #[true, true, true, true, true, true, true, true, false, false, false, false, true, false, false] rfl rfl HT_.out ?_
        refine one_ (i := 8) (N := some 79) #[true, true, true, true, true, true, true, true, true, false, false, false, true, false, false] rfl rfl (one_of HT_.out (by kernel_rfl)) (by decide) (fun K hK => ?_)
        refine goes_ Try.func17 (by kernel_rfl) rfl #[.agg #[.int .i64 t358, .int .i64 t359, .int .i64 t360], .int .i64 (wrap64 ((Int.tmod t375 30) + (Int.tmod t376 30)))] (by rfl) rfl rfl av ?_
        with_reducible refine (impl_Rounds.calls t358 t359 t360 (wrap64 ((Int.tmod t375 30) + (Int.tmod t376 30))) t377 t378 t379 t380 _ A29.out).mono ?_
        rintro e w57 ⟨rfl, hb⟩
        refine ⟨_, rfl, ?_⟩
        have n0_ := Aside0.mk (Kd.R_below (mv HO_4.out) hb)
        have n1_ := Aside0.mk (blk_below (g := gb362) (o := .cells #[.int .i64 t358, .int .i64 t359, .int .i64 t360] 22 (0, 0)) (mb BK362.out) hb)
        have n2_ := Aside0.mk (blk_below (g := gb368) (o := .cells #[.int .i64 t364, .int .i64 t365, .int .i64 t366] 22 (0, 0)) (mb BK368.out) hb)
        have n3_ := Aside0.mk (blk_below (g := gb374) (o := .cells #[.int .i64 t370, .int .i64 t371, .int .i64 t372] 22 (0, 0)) (mb BK374.out) hb)
        have n4_ := Aside0.mk (blk_below (g := gb381) (o := .cells #[.int .i64 0, .int .i64 0, .int .i64 0] 22 (0, 0)) (mb BK381.out) hb)
        have n5_ := Aside0.mk (below_step (by repeat (first | (with_reducible first | exact HB.out | apply below_alloc | apply pw_below_drewN | apply below_drew1 | refine below_set ?_ GE362.out | refine below_set ?_ GE368.out | refine below_set ?_ GE374.out | refine below_set ?_ GE381.out) | exact HB.out)) hb)
        clear HO_4
        clear BK362
        clear BK368
        clear BK374
        clear BK381
        clear HB
        have HO_4 := n0_
        have BK362 := n1_
        have BK368 := n2_
        have BK374 := n3_
        have BK381 := n4_
        have HB := n5_
        clear n0_ n1_ n2_ n3_ n4_ n5_
        (try clear hb)
        (try clear hb2)
        (try clear hk)
        (try clear hi)
        refine hK.out _ _ ⟨(blk_cell BK362.out 0).trans rfl, (blk_cell BK362.out 1).trans rfl, (blk_cell BK362.out 2).trans rfl⟩ (fun hHeld => ?_)
        clear hK K
        refine nz (N := some 79) ?_
        refine pz (i := 9) (N := some 70) #[true, true, true, true, true, true, true, true, true, true, false, false, true, false, false] rfl rfl HT_.out ?_
        refine pz (i := 10) (N := some 80) #[true, true, true, true, true, true, true, true, true, true, true, false, true, false, false] rfl rfl HT_.out ?_
        refine pz (i := 11) (N := some 81) #[true, true, true, true, true, true, true, true, true, true, true, true, true, false, false] rfl rfl HT_.out ?_
        exact norm_ (by simp only [putAll, Act.put, List.setIfInBounds_toArray, List.set_cons_zero, List.set_cons_succ]) (hCont (gb381) _ ⟨hHeld, (mv HO_4.out), (mb BK362.out), (mb BK368.out), (mb BK374.out), (mb BK381.out), GW381.out, GE381.out, NB362_381.out, NB381_362.out, NB368_381.out, NB381_368.out, NB374_381.out, NB381_374.out, (by repeat (first | (with_reducible first | exact HB.out | apply below_alloc | apply pw_below_drewN | apply below_drew1 | refine below_set ?_ GE362.out | refine below_set ?_ GE368.out | refine below_set ?_ GE374.out | refine below_set ?_ GE381.out) | exact HB.out))⟩)
      rintro gb381 w58 ⟨hS_, h0_, h1_, h2_, h3_, h4_, h5_, h6_, h7_, h8_, h9_, h10_, h11_, h12_, h13_⟩
      have n0_ : Aside0 (Kd.R (Kd.int .u8) 5 w58 w.heap.size (fun _ => True) (.slice Ao12 t352.length co12) t352) := ⟨h0_⟩
      have n1_ : Aside0 (w58.heap[gb362]? = some (.cells #[.int .i64 t358, .int .i64 t359, .int .i64 t360] 22 (0, 0))) := ⟨h1_⟩
      have n2_ : Aside0 (w58.heap[gb368]? = some (.cells #[.int .i64 t364, .int .i64 t365, .int .i64 t366] 22 (0, 0))) := ⟨h2_⟩
      have n3_ : Aside0 (w58.heap[gb374]? = some (.cells #[.int .i64 t370, .int .i64 t371, .int .i64 t372] 22 (0, 0))) := ⟨h3_⟩
      have n4_ : Aside0 (w58.heap[gb381]? = some (.cells #[.int .i64 0, .int .i64 0, .int .i64 0] 22 (0, 0))) := ⟨h4_⟩
      have n5_ : Aside0 (w.heap.size ≤ gb381) := ⟨h5_⟩
      have n6_ : Aside0 (w.heap.size ≤ gb381) := ⟨h6_⟩
      have n7_ : Aside0 (gb362 ≠ gb381) := ⟨h7_⟩
      have n8_ : Aside0 (gb381 ≠ gb362) := ⟨h8_⟩
      have n9_ : Aside0 (gb368 ≠ gb381) := ⟨h9_⟩
      have n10_ : Aside0 (gb381 ≠ gb368) := ⟨h10_⟩
      have n11_ : Aside0 (gb374 ≠ gb381) := ⟨h11_⟩
      have n12_ : Aside0 (gb381 ≠ gb374) := ⟨h12_⟩
      have n13_ : Aside0 (Below w.heap.size w w58) := ⟨h13_⟩
      clear HO_4
      clear BK362
      clear BK368
      clear BK374
      clear HB
      clear h0_ h1_ h2_ h3_ h4_ h5_ h6_ h7_ h8_ h9_ h10_ h11_ h12_ h13_
      have HO_4 := n0_
      have BK362 := n1_
      have BK368 := n2_
      have BK374 := n3_
      have BK381 := n4_
      have GW381 := n5_
      have GE381 := n6_
      have NB362_381 := n7_
      have NB381_362 := n8_
      have NB368_381 := n9_
      have NB381_368 := n10_
      have NB374_381 := n11_
      have NB381_374 := n12_
      have HB := n13_
      clear n0_ n1_ n2_ n3_ n4_ n5_ n6_ n7_ n8_ n9_ n10_ n11_ n12_ n13_
      have hHeld : w58.cell? ⟨gb362, 0, none⟩ = some (.int .i64 t358) ∧ w58.cell? ⟨gb362, 1, none⟩ = some (.int .i64 t359) ∧ w58.cell? ⟨gb362, 2, none⟩ = some (.int .i64 t360) := hS_
      refine norm_ (a' := ?_) ?_ ?_
      rotate_left
      ·simp only [putAll, Act.put, List.setIfInBounds_toArray, List.set_cons_zero, List.set_cons_succ]
       rfl
      refine one_ (i := 13) (N := none) #[true, true, true, true, true, true, true, true, true, true, true, true, true, true, false] rfl rfl (one_of HT_.out (by kernel_rfl)) (by decide) (fun K hK => ?_)
      have hs59 : w58.cell? ⟨gb381, 0, none⟩ = some (.int .i64 0) := (blk_cell BK381.out 0).trans rfl
      have hfs59 := blk_frozen BK381.out 0
      have hns59_0 := NB362_381.out
      have hns59_1 := NB368_381.out
      have hns59_2 := NB374_381.out
      have hms59_0 := NB381_362.out
      have hms59_1 := NB381_368.out
      have hms59_2 := NB381_374.out
      have hs60 : w58.cell? ⟨gb381, 1, none⟩ = some (.int .i64 0) := (blk_cell BK381.out 1).trans rfl
      have hfs60 := blk_frozen BK381.out 1
      have hns60_0 := NB362_381.out
      have hns60_1 := NB368_381.out
      have hns60_2 := NB374_381.out
      have hms60_0 := NB381_362.out
      have hms60_1 := NB381_368.out
      have hms60_2 := NB381_374.out
      have hs61 : w58.cell? ⟨gb381, 2, none⟩ = some (.int .i64 0) := (blk_cell BK381.out 2).trans rfl
      have hfs61 := blk_frozen BK381.out 2
      have hns61_0 := NB362_381.out
      have hns61_1 := NB368_381.out
      have hns61_2 := NB374_381.out
      have hms61_0 := NB381_362.out
      have hms61_1 := NB381_368.out
      have hms61_2 := NB381_374.out
      refine skip_ (w1 := ?_) (by rfl) rfl ?_ ?_
      rotate_left
      ·go_simp
       rfl
      refine hK.out _ _ ⟨((cell_far (p := ⟨gb381, _, none⟩) NB362_381.out _).trans (((cell_far (p := ⟨gb381, _, none⟩) NB362_381.out _).trans (((cell_far (p := ⟨gb381, _, none⟩) NB362_381.out _).trans (hHeld.1)))))), ((cell_far (p := ⟨gb381, _, none⟩) NB362_381.out _).trans (((cell_far (p := ⟨gb381, _, none⟩) NB362_381.out _).trans (((cell_far (p := ⟨gb381, _, none⟩) NB362_381.out _).trans (hHeld.2.1)))))), ((cell_far (p := ⟨gb381, _, none⟩) NB362_381.out _).trans (((cell_far (p := ⟨gb381, _, none⟩) NB362_381.out _).trans (((cell_far (p := ⟨gb381, _, none⟩) NB362_381.out _).trans (hHeld.2.2))))))⟩ (fun hHeld => ?_)
      clear hK K
      refine pz (i := 14) (N := some 14) #[true, true, true, true, true, true, true, true, true, true, true, true, true, true, true] rfl rfl HT_.out ?_
      refine done_ (done_of HT_.out (by kernel_rfl)) ?_
      go_upto_region 20 with (first | ((with_reducible refine gate_callee (f := 54) rfl ?_); refine goesL_ (some 83) rfl rfl Try.func54 (by kernel_rfl) rfl #[.slice A0 l0.length c0] rfl av ?_; (with_reducible refine (spec_DrawParts.calls k1 _ _ l0 t382 _ ?side1 ?side2 A30.out).mono ?_); (case side1 => exact Kd.C_below HR0.out (by repeat (first | (with_reducible first | exact HB.out | apply below_alloc | apply pw_below_drewN | apply below_drew1 | refine below_set ?_ GE362.out | refine below_set ?_ GE368.out | refine below_set ?_ GE374.out | refine below_set ?_ GE381.out) | exact HB.out))); (case side2 => exact HC0.out); rintro e w62 ⟨v383, rfl, ho0, hb⟩; refine ⟨_, rfl, ?_⟩; have HO384 := Aside0.mk (Kd.S_lower (Kd.S_new' ho0 (Kd.R_lt (by (with_reducible repeat (first | apply Kd.R_alloc | apply Kd.R_drewN | apply Kd.R_drew)); exact (Kd.R_mono (Kd.R_far (p := ⟨gb381, 2, none⟩) (Kd.R_far (p := ⟨gb381, 1, none⟩) (Kd.R_far (p := ⟨gb381, 0, none⟩) (Kd.R_types HO_4.out BK381.out (by decide)) (fun _ hk => hk.2) (.int .i64 t377)) (fun _ hk => hk.2) (.int .i64 t378)) (fun _ hk => hk.2) (.int .i64 t379)) (fun _ h_ => h_.1))))) (below_size (by repeat (first | (with_reducible first | exact HB.out | apply below_alloc | apply pw_below_drewN | apply below_drew1 | refine below_set ?_ GE362.out | refine below_set ?_ GE368.out | refine below_set ?_ GE374.out | refine below_set ?_ GE381.out) | exact HB.out)))); replace HO_4 := Aside0.mk (Kd.R_below (by (with_reducible repeat (first | apply Kd.R_alloc | apply Kd.R_drewN | apply Kd.R_drew)); exact (Kd.R_mono (Kd.R_far (p := ⟨gb381, 2, none⟩) (Kd.R_far (p := ⟨gb381, 1, none⟩) (Kd.R_far (p := ⟨gb381, 0, none⟩) (Kd.R_types HO_4.out BK381.out (by decide)) (fun _ hk => hk.2) (.int .i64 t377)) (fun _ hk => hk.2) (.int .i64 t378)) (fun _ hk => hk.2) (.int .i64 t379)) (fun _ h_ => h_.1))) hb); replace BK362 := Aside0.mk (blk_below (g := gb362) (o := .cells #[.int .i64 t358, .int .i64 t359, .int .i64 t360] 22 (0, 0)) (by (with_reducible repeat (first | refine blk_drewN ?_ _ | refine blk_drew ?_ | refine blk_alloc ?_ _)); refine blk_far ?_ NB362_381.out _; (with_reducible repeat (first | refine blk_drewN ?_ _ | refine blk_drew ?_ | refine blk_alloc ?_ _)); refine blk_far ?_ NB362_381.out _; (with_reducible repeat (first | refine blk_drewN ?_ _ | refine blk_drew ?_ | refine blk_alloc ?_ _)); refine blk_far ?_ NB362_381.out _; (with_reducible repeat (first | refine blk_drewN ?_ _ | refine blk_drew ?_ | refine blk_alloc ?_ _)); exact BK362.out) hb); replace BK368 := Aside0.mk (blk_below (g := gb368) (o := .cells #[.int .i64 t364, .int .i64 t365, .int .i64 t366] 22 (0, 0)) (by (with_reducible repeat (first | refine blk_drewN ?_ _ | refine blk_drew ?_ | refine blk_alloc ?_ _)); refine blk_far ?_ NB368_381.out _; (with_reducible repeat (first | refine blk_drewN ?_ _ | refine blk_drew ?_ | refine blk_alloc ?_ _)); refine blk_far ?_ NB368_381.out _; (with_reducible repeat (first | refine blk_drewN ?_ _ | refine blk_drew ?_ | refine blk_alloc ?_ _)); refine blk_far ?_ NB368_381.out _; (with_reducible repeat (first | refine blk_drewN ?_ _ | refine blk_drew ?_ | refine blk_alloc ?_ _)); exact BK368.out) hb); replace BK374 := Aside0.mk (blk_below (g := gb374) (o := .cells #[.int .i64 t370, .int .i64 t371, .int .i64 t372] 22 (0, 0)) (by (with_reducible repeat (first | refine blk_drewN ?_ _ | refine blk_drew ?_ | refine blk_alloc ?_ _)); refine blk_far ?_ NB374_381.out _; (with_reducible repeat (first | refine blk_drewN ?_ _ | refine blk_drew ?_ | refine blk_alloc ?_ _)); refine blk_far ?_ NB374_381.out _; (with_reducible repeat (first | refine blk_drewN ?_ _ | refine blk_drew ?_ | refine blk_alloc ?_ _)); refine blk_far ?_ NB374_381.out _; (with_reducible repeat (first | refine blk_drewN ?_ _ | refine blk_drew ?_ | refine blk_alloc ?_ _)); exact BK374.out) hb); replace BK381 := Aside0.mk (blk_below (g := gb381) (o := .cells #[.int .i64 t377, .int .i64 t378, .int .i64 t379] 22 (0, 0)) (by (with_reducible repeat (first | refine blk_drewN ?_ _ | refine blk_drew ?_ | refine blk_alloc ?_ _)); refine blk_put (cs := #[.int .i64 t377, .int .i64 t378, .int .i64 0]) ?_ 2 _ rfl; (with_reducible repeat (first | refine blk_drewN ?_ _ | refine blk_drew ?_ | refine blk_alloc ?_ _)); refine blk_put (cs := #[.int .i64 t377, .int .i64 0, .int .i64 0]) ?_ 1 _ rfl; (with_reducible repeat (first | refine blk_drewN ?_ _ | refine blk_drew ?_ | refine blk_alloc ?_ _)); refine blk_put (cs := #[.int .i64 0, .int .i64 0, .int .i64 0]) ?_ 0 _ rfl; (with_reducible repeat (first | refine blk_drewN ?_ _ | refine blk_drew ?_ | refine blk_alloc ?_ _)); exact BK381.out) hb); replace HB := Aside0.mk (below_step (by repeat (first | (with_reducible first | exact HB.out | apply below_alloc | apply pw_below_drewN | apply below_drew1 | refine below_set ?_ GE362.out | refine below_set ?_ GE368.out | refine below_set ?_ GE374.out | refine below_set ?_ GE381.out) | exact HB.out)) hb); (try clear hb); (try clear hb2); (try clear hk); (try clear hi); (try clear ho0); obtain ⟨Ao63, co63, eo63⟩ := Kd.S_slice HO384.out; subst eo63) | ((with_reducible refine gate_callee (f := 55) rfl ?_); refine goesL_ (some 86) rfl rfl Try.func55 (by kernel_rfl) rfl #[.slice Ao63 t382.length co63] rfl av ?_; (with_reducible refine (impl_Parts.calls k1 _ _ t382 t385 t386 _ ?side1 ?side2 A31.out).mono ?_); (case side1 => exact cv ((Kd.S_reads' HO384.out).2.2)); (case side2 => exact (Kd.S_reads' HO384.out).2.1); rintro e w64 ⟨v387, rfl, ho0, hb⟩; refine ⟨_, rfl, ?_⟩; replace HO384 := Aside0.mk (Kd.S_elder' (mv HO384.out) (Kd.R_base ho0) hb); have HO388 := Aside0.mk (Kd.R_lower (Kd.R_new' ho0 (Kd.R_lt (mv HO_4.out))) (below_size (by repeat (first | (with_reducible first | exact HB.out | apply below_alloc | apply pw_below_drewN | apply below_drew1 | refine below_set ?_ GE362.out | refine below_set ?_ GE368.out | refine below_set ?_ GE374.out | refine below_set ?_ GE381.out) | exact HB.out)))); replace HO_4 := Aside0.mk (Kd.R_elder' (mv HO_4.out) (Kd.R_base ho0) hb); replace BK362 := Aside0.mk (blk_below (g := gb362) (o := .cells #[.int .i64 t358, .int .i64 t359, .int .i64 t360] 22 (0, 0)) (mb BK362.out) hb); replace BK368 := Aside0.mk (blk_below (g := gb368) (o := .cells #[.int .i64 t364, .int .i64 t365, .int .i64 t366] 22 (0, 0)) (mb BK368.out) hb); replace BK374 := Aside0.mk (blk_below (g := gb374) (o := .cells #[.int .i64 t370, .int .i64 t371, .int .i64 t372] 22 (0, 0)) (mb BK374.out) hb); replace BK381 := Aside0.mk (blk_below (g := gb381) (o := .cells #[.int .i64 t377, .int .i64 t378, .int .i64 t379] 22 (0, 0)) (mb BK381.out) hb); replace HB := Aside0.mk (below_step (by repeat (first | (with_reducible first | exact HB.out | apply below_alloc | apply pw_below_drewN | apply below_drew1 | refine below_set ?_ GE362.out | refine below_set ?_ GE368.out | refine below_set ?_ GE374.out | refine below_set ?_ GE381.out) | exact HB.out)) hb); (try clear hb); (try clear hb2); (try clear hk); (try clear hi); (try clear ho0); obtain ⟨Ao65, co65, eo65⟩ := Kd.R_slice HO388.out; subst eo65) | ((with_reducible refine gate_callee (f := 56) rfl ?_); refine goesL_ (some 91) rfl rfl Try.func56 (by kernel_rfl) rfl #[.slice Ao65 t385.length co65] rfl av ?_; (with_reducible refine (impl_Unparts.calls k1 (fun k_ => some k_ = (.slice Ao65 t385.length co65 : Value).ownBlock) _ _ t385 t389 t392 _ ?side1 A32.out).mono ?_); (case side1 => exact Kd.R_V (Kd.R_tight rfl (Kd.R_types (Kd.R_types (Kd.R_types (Kd.R_types (Kd.R_apart' (HO388.out) (Kd.S_typed HO384.out) (by decide)) BK362.out (by decide)) BK368.out (by decide)) BK374.out (by decide)) BK381.out (by decide)))); rintro e w66 ⟨v390, rfl, ho0, hb⟩; refine ⟨_, rfl, ?_⟩; have HO391 := Aside0.mk (Kd.S_lower (Kd.S_new' (Kd.S_new' (Kd.S_new' (Kd.S_mono (ok' := fun k_ => True) ho0 (fun _ hk_ => trivial)) (Kd.R_lt (mv HO_4.out))) (Kd.S_lt (mv HO384.out))) (Kd.R_lt (mv HO388.out))) (below_size (by repeat (first | (with_reducible first | exact HB.out | apply below_alloc | apply pw_below_drewN | apply below_drew1 | refine below_set ?_ GE362.out | refine below_set ?_ GE368.out | refine below_set ?_ GE374.out | refine below_set ?_ GE381.out) | exact HB.out)))); replace HO_4 := Aside0.mk (Kd.R_below (mv HO_4.out) hb); replace HO384 := Aside0.mk (Kd.S_elder' (mv HO384.out) (Kd.S_base ho0) hb); replace HO388 := Aside0.mk (Kd.R_below (mv HO388.out) hb); replace BK362 := Aside0.mk (blk_below (g := gb362) (o := .cells #[.int .i64 t358, .int .i64 t359, .int .i64 t360] 22 (0, 0)) (mb BK362.out) hb); replace BK368 := Aside0.mk (blk_below (g := gb368) (o := .cells #[.int .i64 t364, .int .i64 t365, .int .i64 t366] 22 (0, 0)) (mb BK368.out) hb); replace BK374 := Aside0.mk (blk_below (g := gb374) (o := .cells #[.int .i64 t370, .int .i64 t371, .int .i64 t372] 22 (0, 0)) (mb BK374.out) hb); replace BK381 := Aside0.mk (blk_below (g := gb381) (o := .cells #[.int .i64 t377, .int .i64 t378, .int .i64 t379] 22 (0, 0)) (mb BK381.out) hb); replace HB := Aside0.mk (below_step (by repeat (first | (with_reducible first | exact HB.out | apply below_alloc | apply pw_below_drewN | apply below_drew1 | refine below_set ?_ GE362.out | refine below_set ?_ GE368.out | refine below_set ?_ GE374.out | refine below_set ?_ GE381.out) | exact HB.out)) hb); (try clear hb); (try clear hb2); (try clear hk); (try clear hi); (try clear ho0)) | ((with_reducible refine gate_callee (f := 57) rfl ?_); refine goesL_ (some 96) rfl rfl Try.func57 (by kernel_rfl) rfl #[.slice Ao63 t382.length co63] rfl av ?_; (with_reducible refine (spec_Parts.calls k1 _ _ t382 t393 t394 _ ?side1 ?side2 A33.out).mono ?_); (case side1 => exact cv ((Kd.S_reads' HO384.out).2.2)); (case side2 => exact (Kd.S_reads' HO384.out).2.1); rintro e w67 ⟨v395, rfl, ho0, hb⟩; refine ⟨_, rfl, ?_⟩; replace HO384 := Aside0.mk (Kd.S_elder' (mv HO384.out) (Kd.R_base ho0) hb); replace HO391 := Aside0.mk (Kd.S_elder' (mv HO391.out) (Kd.R_base ho0) hb); have HO396 := Aside0.mk (Kd.R_lower (Kd.R_new' (Kd.R_new' ho0 (Kd.R_lt (mv HO_4.out))) (Kd.R_lt (mv HO388.out))) (below_size (by repeat (first | (with_reducible first | exact HB.out | apply below_alloc | apply pw_below_drewN | apply below_drew1 | refine below_set ?_ GE362.out | refine below_set ?_ GE368.out | refine below_set ?_ GE374.out | refine below_set ?_ GE381.out) | exact HB.out)))); replace HO_4 := Aside0.mk (Kd.R_elder' (mv HO_4.out) (Kd.R_base ho0) hb); replace HO388 := Aside0.mk (Kd.R_elder' (mv HO388.out) (Kd.R_base ho0) hb); replace BK362 := Aside0.mk (blk_below (g := gb362) (o := .cells #[.int .i64 t358, .int .i64 t359, .int .i64 t360] 22 (0, 0)) (mb BK362.out) hb); replace BK368 := Aside0.mk (blk_below (g := gb368) (o := .cells #[.int .i64 t364, .int .i64 t365, .int .i64 t366] 22 (0, 0)) (mb BK368.out) hb); replace BK374 := Aside0.mk (blk_below (g := gb374) (o := .cells #[.int .i64 t370, .int .i64 t371, .int .i64 t372] 22 (0, 0)) (mb BK374.out) hb); replace BK381 := Aside0.mk (blk_below (g := gb381) (o := .cells #[.int .i64 t377, .int .i64 t378, .int .i64 t379] 22 (0, 0)) (mb BK381.out) hb); replace HB := Aside0.mk (below_step (by repeat (first | (with_reducible first | exact HB.out | apply below_alloc | apply pw_below_drewN | apply below_drew1 | refine below_set ?_ GE362.out | refine below_set ?_ GE368.out | refine below_set ?_ GE374.out | refine below_set ?_ GE381.out) | exact HB.out)) hb); (try clear hb); (try clear hb2); (try clear hk); (try clear hi); (try clear ho0)))
      (try simp only [Act.put, List.setIfInBounds_toArray, List.set_cons_zero, List.set_cons_succ])
      go_cut [114] (fun v114 wc => ∃ (kq : Nat) (x114_33 : Bool), v114 = .bool x114_33 ∧ Aside0 (laws_FnDigests.j1 kq t352 t356 t367 t373 t380 x114_33 t370 t371 t372 t377 t378 t379 = some r) ∧ Aside0 (kq ≤ k1) ∧ Aside0 (Kd.R (Kd.int .u8) 5 wc w.heap.size (fun _ => True) (.slice Ao12 t352.length co12) t352) ∧ Aside0 (wc.heap[gb362]? = some (.cells #[.int .i64 t358, .int .i64 t359, .int .i64 t360] 22 (0, 0))) ∧ Aside0 (wc.heap[gb368]? = some (.cells #[.int .i64 t364, .int .i64 t365, .int .i64 t366] 22 (0, 0))) ∧ Aside0 (wc.heap[gb374]? = some (.cells #[.int .i64 t370, .int .i64 t371, .int .i64 t372] 22 (0, 0))) ∧ Aside0 (wc.heap[gb381]? = some (.cells #[.int .i64 t377, .int .i64 t378, .int .i64 t379] 22 (0, 0))) ∧ Aside0 (Below w.heap.size w wc))
      case first =>
       have H := HC34.out
       clear HC34
       by_cases c68 : (t386 != t394) = true
       ·rw [if_pos c68] at H
        have c68b0 : (t386 != t394) = true := c68
        (try (have c68b1 : decide (t386 = t394) = false := by simpa using c68))
        (try (have c68b2 : (t386 == t394) = false := by simpa using c68))
        (try (have c68b3 : ¬ (t386 = t394) := by simpa using c68))
        clear c68
        (first | rw [c68b0] | (simp only [i64_w, i32_w]; rw [c68b0]) | skip)
        have H' := Aside0.mk H
        clear H
        go_wp2
        go_meet
        case rel => exact ⟨_, (true), (by first | rfl | (simp; done) | (simp [*]; done)), H', ⟨by have := HK1.out; first | omega | exact Nat.le_refl _⟩, ⟨by (with_reducible repeat (first | apply Kd.R_alloc | apply Kd.R_drewN | apply Kd.R_drew)); exact Kd.R_mono HO_4.out (fun _ hk => trivial)⟩, ⟨mb BK362.out⟩, ⟨mb BK368.out⟩, ⟨mb BK374.out⟩, ⟨mb BK381.out⟩, ⟨by repeat (first | (with_reducible first | exact HB.out | apply below_alloc | apply pw_below_drewN | apply below_drew1 | refine below_set ?_ GE362.out | refine below_set ?_ GE368.out | refine below_set ?_ GE374.out | refine below_set ?_ GE381.out) | exact HB.out)⟩⟩
       ·rw [if_neg c68] at H
        have c68b0 : (t386 != t394) = false := by simpa using c68
        (try (have c68b1 : decide (t386 = t394) = true := by simpa using c68))
        (try (have c68b2 : (t386 == t394) = true := by simpa using c68))
        clear c68
        (first | rw [c68b0] | (simp only [i64_w, i32_w]; rw [c68b0]) | skip)
        by_cases c69 : t386 = true
        ·subst c69
         rw [if_pos rfl] at H
         by_cases c70 : t392 = true
         ·subst c70
          rw [if_pos rfl] at H
          replace H := Option.bind_eq_some_iff.mp H
          obtain ⟨t397, A710, H⟩ := H
          (try dsimp -simprocs only at H)
          have A71 := Aside0.mk A710
          clear A710
          have H' := Aside0.mk H
          clear H
          obtain ⟨Ao72, co72, eo72⟩ := Kd.S_slice HO391.out
          subst eo72
          go_wp2_with (first | (go_at_call 58; (with_reducible refine (laws_sameLists.calls _ _ t382 _ _ t389 t397 _ ?side1 ?side2 ?side3 ?side4 A71.out).mono ?_); (case side1 => exact cv ((Kd.S_reads' HO384.out).2.2)); (case side2 => exact (Kd.S_reads' HO384.out).2.1); (case side3 => exact cv ((Kd.S_reads' HO391.out).2.2)); (case side4 => exact (Kd.S_reads' HO391.out).2.1); rintro e w' ⟨rfl, ⟨nd, rfl⟩⟩))
          go_meet
          case rel => exact ⟨_, (!t397), (by first | rfl | (simp; done) | (simp [*]; done)), H', ⟨by have := HK1.out; first | omega | exact Nat.le_refl _⟩, ⟨by (with_reducible repeat (first | apply Kd.R_alloc | apply Kd.R_drewN | apply Kd.R_drew)); exact Kd.R_mono HO_4.out (fun _ hk => trivial)⟩, ⟨mb BK362.out⟩, ⟨mb BK368.out⟩, ⟨mb BK374.out⟩, ⟨mb BK381.out⟩, ⟨by repeat (first | (with_reducible first | exact HB.out | apply below_alloc | apply pw_below_drewN | apply below_drew1 | refine below_set ?_ GE362.out | refine below_set ?_ GE368.out | refine below_set ?_ GE374.out | refine below_set ?_ GE381.out) | exact HB.out)⟩⟩
         ·replace c70 := Bool.eq_false_iff.mpr c70
          subst c70
          rw [if_neg (show ¬ (false = true) by decide)] at H
          have H' := Aside0.mk H
          clear H
          go_wp2
          go_meet
          case rel => exact ⟨_, (true), (by first | rfl | (simp; done) | (simp [*]; done)), H', ⟨by have := HK1.out; first | omega | exact Nat.le_refl _⟩, ⟨by (with_reducible repeat (first | apply Kd.R_alloc | apply Kd.R_drewN | apply Kd.R_drew)); exact Kd.R_mono HO_4.out (fun _ hk => trivial)⟩, ⟨mb BK362.out⟩, ⟨mb BK368.out⟩, ⟨mb BK374.out⟩, ⟨mb BK381.out⟩, ⟨by repeat (first | (with_reducible first | exact HB.out | apply below_alloc | apply pw_below_drewN | apply below_drew1 | refine below_set ?_ GE362.out | refine below_set ?_ GE368.out | refine below_set ?_ GE374.out | refine below_set ?_ GE381.out) | exact HB.out)⟩⟩
        ·replace c69 := Bool.eq_false_iff.mpr c69
         subst c69
         rw [if_neg (show ¬ (false = true) by decide)] at H
         have H' := Aside0.mk H
         clear H
         go_wp2
         go_meet
         case rel => exact ⟨_, (false), (by first | rfl | (simp; done) | (simp [*]; done)), H', ⟨by have := HK1.out; first | omega | exact Nat.le_refl _⟩, ⟨by (with_reducible repeat (first | apply Kd.R_alloc | apply Kd.R_drewN | apply Kd.R_drew)); exact Kd.R_mono HO_4.out (fun _ hk => trivial)⟩, ⟨mb BK362.out⟩, ⟨mb BK368.out⟩, ⟨mb BK374.out⟩, ⟨mb BK381.out⟩, ⟨by repeat (first | (with_reducible first | exact HB.out | apply below_alloc | apply pw_below_drewN | apply below_drew1 | refine below_set ?_ GE362.out | refine below_set ?_ GE368.out | refine below_set ?_ GE374.out | refine below_set ?_ GE381.out) | exact HB.out)⟩⟩
      case rest =>
       clear HC34
       try clear c1
       try clear p2
       try clear c5
       try clear c6
       try clear p6
       try clear c7
       try clear c17
       try clear c53
       try clear c54
       try clear c55
       try clear c56
       try clear c57
       try clear p64
       try clear c68
       try clear c68b0
       try clear c68b1
       try clear c68b2
       try clear c69
       try clear c70
       obtain ⟨kq, x114_33, rfl, HA, HJ33, HO_4, BK362, BK368, BK374, BK381, HB⟩ := hcut
       cases kq with
       | zero => exact absurd HA.out (by simp [laws_FnDigests.j1])
       | succ kj33 =>
        have H := HA.out
        clear HA
        simp only [laws_FnDigests.j1] at H
        by_cases c73 : x114_33 = true
        ·subst c73
         rw [if_pos rfl] at H
         exact absurd ((Option.some.inj H).trans hT.out) (by decide)
        ·replace c73 := Bool.eq_false_iff.mpr c73
         subst c73
         rw [if_neg (show ¬ (false = true) by decide)] at H
         by_cases c74 : t367 = true
         ·subst c74
          rw [if_pos rfl] at H
          by_cases c75 : t373 = true
          ·subst c75
           rw [if_pos rfl] at H
           by_cases c76 : t380 = true
           ·subst c76
            rw [if_pos rfl] at H
            by_cases c77 : (t370 == t377 && (t371 == t378 && (t372 == t379))) = true
            ·rw [if_pos c77] at H
             have c77b0 : (t370 == t377 && (t371 == t378 && (t372 == t379))) = true := c77
             (try (have c77b1 : decide (t370 = t377 && (t371 == t378 && (t372 == t379))) = true := by simpa using c77))
             (try (have c77b2 : (t370 == t377 && (t371 == t378 && (t372 == t379))) = true := by simpa using c77))
             clear c77
             by_cases c78 : t356 ≥ 0
             ·rw [if_pos c78] at H
              have c78b0 : decide (0 ≤ t356) = true := decide_eq_true c78
              clear c78
              replace H := Option.bind_eq_some_iff.mp H
              obtain ⟨t398, A790, H⟩ := H
              (try dsimp -simprocs only at H)
              have A79 := Aside0.mk A790
              clear A790
              by_cases c80 : t398 = (-1)
              ·rw [if_pos c80] at H
               have c80b0 : (t398 == (-1)) = true := beq_iff_eq.mpr c80
               have c80b1 : (t398 != (-1)) = false := bne_eq_false_iff_eq.mpr c80
               clear c80
               replace H := Option.bind_eq_some_iff.mp H
               obtain ⟨t399, A810, H⟩ := H
               (try dsimp -simprocs only at H)
               have A81 := Aside0.mk A810
               clear A810
               obtain rfl := Option.some.inj H
               have hnb82 := NB374_362.out
               have hnc82 := NB362_374.out
               have hnb83 := NB374_368.out
               have hnc83 := NB368_374.out
               have hnb84 := NB374_381.out
               have hnc84 := NB381_374.out
               have hcz85_0 : wc.cell? ⟨gb374, 0, none⟩ = some (.int .i64 t370) := (blk_cell BK374.out 0).trans rfl
               have hcz85_1 : wc.cell? ⟨gb374, 1, none⟩ = some (.int .i64 t371) := (blk_cell BK374.out 1).trans rfl
               have hcz85_2 : wc.cell? ⟨gb374, 2, none⟩ = some (.int .i64 t372) := (blk_cell BK374.out 2).trans rfl
               have hfz85_0 := blk_frozen BK374.out 0
               have hfz85_1 := blk_frozen BK374.out 1
               have hfz85_2 := blk_frozen BK374.out 2
               have hnb86 := NB381_362.out
               have hnc86 := NB362_381.out
               have hnb87 := NB381_368.out
               have hnc87 := NB368_381.out
               have hcz88_0 : wc.cell? ⟨gb381, 0, none⟩ = some (.int .i64 t377) := (blk_cell BK381.out 0).trans rfl
               have hcz88_1 : wc.cell? ⟨gb381, 1, none⟩ = some (.int .i64 t378) := (blk_cell BK381.out 1).trans rfl
               have hcz88_2 : wc.cell? ⟨gb381, 2, none⟩ = some (.int .i64 t379) := (blk_cell BK381.out 2).trans rfl
               have hfz88_0 := blk_frozen BK381.out 0
               have hfz88_1 := blk_frozen BK381.out 1
               have hfz88_2 := blk_frozen BK381.out 2
               go_wp2_with (first | (go_at_call 21; (with_reducible refine (impl_Digest.calls 1 _ _ t352 t398 _ ?side1 ?side2 A79.out).mono ?_); (case side1 => exact cv ((Kd.R_reads' HO_4.out).2.2)); (case side2 => exact (Kd.R_reads' HO_4.out).2.1); rintro e w89 ⟨rfl, hb⟩; replace HO_4 := Aside0.mk (Kd.R_below (mv HO_4.out) hb); replace BK362 := Aside0.mk (blk_below (g := gb362) (o := .cells #[.int .i64 t358, .int .i64 t359, .int .i64 t360] 22 (0, 0)) (mb BK362.out) hb); replace BK368 := Aside0.mk (blk_below (g := gb368) (o := .cells #[.int .i64 t364, .int .i64 t365, .int .i64 t366] 22 (0, 0)) (mb BK368.out) hb); replace BK374 := Aside0.mk (blk_below (g := gb374) (o := .cells #[.int .i64 t370, .int .i64 t371, .int .i64 t372] 22 (0, 0)) (mb BK374.out) hb); replace BK381 := Aside0.mk (blk_below (g := gb381) (o := .cells #[.int .i64 t377, .int .i64 t378, .int .i64 t379] 22 (0, 0)) (mb BK381.out) hb); replace HB := Aside0.mk (below_step (by repeat (first | (with_reducible first | exact HB.out | apply below_alloc | apply pw_below_drewN | apply below_drew1 | refine below_set ?_ GE362.out | refine below_set ?_ GE368.out | refine below_set ?_ GE374.out | refine below_set ?_ GE381.out) | exact HB.out)) hb); (try clear hb); (try clear hb2); (try clear hk); (try clear hi)) | (go_at_call 59; (with_reducible refine (impl_Eight.calls kj33 7 t399 _ A81.out).mono ?_); rintro e w90 ⟨v400, rfl, ho0, hb⟩; have HO401 := Aside0.mk (Kd.R_lower (Kd.R_new' ho0 (Kd.R_lt (mv HO_4.out))) (below_size (by repeat (first | (with_reducible first | exact HB.out | apply below_alloc | apply pw_below_drewN | apply below_drew1 | refine below_set ?_ GE362.out | refine below_set ?_ GE368.out | refine below_set ?_ GE374.out | refine below_set ?_ GE381.out) | exact HB.out)))); replace HO_4 := Aside0.mk (Kd.R_elder' (mv HO_4.out) (Kd.R_base ho0) hb); replace BK362 := Aside0.mk (blk_below (g := gb362) (o := .cells #[.int .i64 t358, .int .i64 t359, .int .i64 t360] 22 (0, 0)) (mb BK362.out) hb); replace BK368 := Aside0.mk (blk_below (g := gb368) (o := .cells #[.int .i64 t364, .int .i64 t365, .int .i64 t366] 22 (0, 0)) (mb BK368.out) hb); replace BK374 := Aside0.mk (blk_below (g := gb374) (o := .cells #[.int .i64 t370, .int .i64 t371, .int .i64 t372] 22 (0, 0)) (mb BK374.out) hb); replace BK381 := Aside0.mk (blk_below (g := gb381) (o := .cells #[.int .i64 t377, .int .i64 t378, .int .i64 t379] 22 (0, 0)) (mb BK381.out) hb); replace HB := Aside0.mk (below_step (by repeat (first | (with_reducible first | exact HB.out | apply below_alloc | apply pw_below_drewN | apply below_drew1 | refine below_set ?_ GE362.out | refine below_set ?_ GE368.out | refine below_set ?_ GE374.out | refine below_set ?_ GE381.out) | exact HB.out)) hb); (try clear hb); (try clear hb2); (try clear hk); (try clear hi); (try clear ho0); obtain ⟨Ao91, co91, eo91⟩ := Kd.R_slice HO401.out; subst eo91))
               go_ret
               exact ⟨by first | rfl | (simp [errW_none, errW_some] <;> rfl) | (simp [*, errW_none, errW_some] <;> rfl), by repeat (first | (with_reducible first | exact HB.out | apply below_alloc | apply pw_below_drewN | apply below_drew1 | refine below_set ?_ GE362.out | refine below_set ?_ GE368.out | refine below_set ?_ GE374.out | refine below_set ?_ GE381.out) | exact HB.out)⟩
              ·rw [if_neg c80] at H
               have c80b0 : (t398 == (-1)) = false := beq_eq_false_iff_ne.mpr c80
               have c80b1 : (t398 != (-1)) = true := bne_iff_ne.mpr c80
               exact absurd ((Option.some.inj H).trans hT.out) (by decide)
             ·rw [if_neg c78] at H
              have c78b0 : decide (0 ≤ t356) = false := decide_eq_false c78
              clear c78
              exact absurd ((Option.some.inj H).trans hT.out) (by decide)
            ·rw [if_neg c77] at H
             have c77b0 : (t370 == t377 && (t371 == t378 && (t372 == t379))) = false := by simpa using c77
             (try (have c77b1 : decide (t370 = t377 && (t371 == t378 && (t372 == t379))) = false := by simpa using c77))
             (try (have c77b2 : (t370 == t377 && (t371 == t378 && (t372 == t379))) = false := by simpa using c77))
             (try (have c77b3 : ¬ (t370 = t377 && (t371 == t378 && (t372 == t379))) := by simpa using c77))
             clear c77
             exact absurd ((Option.some.inj H).trans hT.out) (by decide)
           ·replace c76 := Bool.eq_false_iff.mpr c76
            subst c76
            rw [if_neg (show ¬ (false = true) by decide)] at H
            exact absurd ((Option.some.inj H).trans hT.out) (by decide)
          ·replace c75 := Bool.eq_false_iff.mpr c75
           subst c75
           rw [if_neg (show ¬ (false = true) by decide)] at H
           exact absurd ((Option.some.inj H).trans hT.out) (by decide)
         ·replace c74 := Bool.eq_false_iff.mpr c74
          subst c74
          rw [if_neg (show ¬ (false = true) by decide)] at H
          exact absurd ((Option.some.inj H).trans hT.out) (by decide)

/-- THE ONE PURE STATEMENT of laws_FnDigests: yours. -/
def laws_FnDigests.Pure : Prop := ∀ (l0 : List Int), l0.length ≤ maxLen → l0.length * 1 ≤ 140737488351232 → (∀ x ∈ l0, (Lit.int .u8 x).wf = true) → ∃ k, laws_FnDigests.f k l0 = some true
theorem laws_FnDigests.walk (P : laws_FnDigests.Pure) (a0 : Option Addr) (len0 cap0 : Nat) (z0 : List Int) (w : World) (w0 : (a0 = none ∧ len0 = 0 ∧ cap0 = 0 ∧ z0 = []) ∨ ∃ x, a0 = some x ∧ len0 ≤ cap0 ∧ cap0 ≤ maxLen ∧ z0.length = cap0 ∧ (∀ i, i < z0.length → w.cell? (x.add i) = some (.int .u8 (z0.getD i 0))) ∧ ∀ n ∈ z0, (Lit.int .u8 n).wf = true) (y0 : len0 * 1 ≤ 140737488351232) :
  Calls Try.prog 13 #[.slice a0 len0 cap0] w fun e w' => e = .returned (.bool true) ∧ Below w.heap.size w w' := by
 obtain ⟨l0, rfl, hr0, hm0, hw0, hc0⟩ := ReadsInt.ofRowC w0
 obtain ⟨k, h⟩ := P l0 hm0 y0 hw0
 refine (laws_FnDigests.calls k _ _ l0 true w ⟨rfl⟩ (Kd.C_of_reads (d := (0 : Int)) (h1 := fun _ => rfl) hr0) hc0 h).mono ?_
 rintro e w' ⟨rfl, hd⟩
 exact ⟨rfl, hd⟩

end Go.Proofs.Ytmcpnganobehaaa.PFnDigests
