-- Written by a program of this workplace (wip/mp.py) out of the translation.
import Derived.Test.YtchjajbkaiefdaaPFnManyx0
import Derived.Test.YtchjajbkaiefdaaPFnManyx1
import Derived.Test.YtchjajbkaiefdaaPFnManyx3
import Derived.Test.YtchjajbkaiefdaaPFnManyx4
import Derived.Test.YtchjajbkaiefdaaPFnManyx6
import Derived.Test.YtchjajbkaiefdaaPFnManyx7
namespace Go.Proofs.Ytchjajbkaiefdaa.PFnMany
open Go.RowKit Go.Proofs.YtchjajbkaiefdaaW.PrintWords Go.Proofs.YtchjajbkaiefdaaW.PrintLast Go.Proofs.YtchjajbkaiefdaaW.PrintMore Go.Proofs.Ytchjajbkaiefdaa.Slim
attribute [local go_sem] max2_int min2_int max_two min_two max_three min_three max_four min_four   -- for this text's walks alone
set_option maxHeartbeats 8000000
set_option maxRecDepth 100000
set_option linter.unusedVariables false
set_option linter.unusedSimpArgs false

/-! ### impl_ManyFrom: function 42 -/
def impl_ManyFrom.f (k : Nat) (a0 : Int) (a1 : Int) (l2 : List Int) (l3 : List (List Int)) (l4 : List Int) : Option (Int) := (impl_climbMany.f k a0 a1 l2 l3 l4).bind fun bt350 => ((impl_lastOf.f a0 bt350.1 bt350.2).bind fun t354 => (some t354))
theorem impl_ManyFrom.calls (k : Nat) (a0 : Int) (a1 : Int) (A2 : Option Addr) (c2 : Nat) (l2 : List Int) (A3 : Option Addr) (c3 : Nat) (l3 : List (List Int)) (A4 : Option Addr) (c4 : Nat) (l4 : List Int) (r : Int) (w : World) (hr2 : Kd.C (Kd.int .i64) w A2 l2.length l2) (hc2 : l2.length ≤ c2) (hr3 : Kd.C (Kd.slice 5 (Kd.int .u8)) w A3 l3.length l3) (hc3 : l3.length ≤ c3) (hr4 : Kd.C (Kd.int .i64) w A4 l4.length l4) (hc4 : l4.length ≤ c4) (h : impl_ManyFrom.f k a0 a1 l2 l3 l4 = some r) :
  Calls Try.prog 42 #[.int .i64 a0, .int .i64 a1, .slice A2 l2.length c2, .slice A3 l3.length c3, .slice A4 l4.length c4] w fun e w' => e = .returned (.int .i64 r) ∧ Below w.heap.size w w' := by
 have HR2 := am hr2
 have HC2 := am hc2
 clear hr2 hc2
 have HR3 := am hr3
 have HC3 := am hc3
 clear hr3 hc3
 have HR4 := am hr4
 have HC4 := am hc4
 clear hr4 hc4
 have HB := am (Below.refl w.heap.size w)
 have H : ((impl_climbMany.f k a0 a1 l2 l3 l4).bind fun bt350 => ((impl_lastOf.f a0 bt350.1 bt350.2).bind fun t354 => (some t354))) = some r := h
 clear h
 obtain ⟨⟨t350, t353⟩, A6, H⟩ := bm H
 (try dsimp -simprocs only at H)
 obtain ⟨t354, A7, H⟩ := bm H
 (try dsimp -simprocs only at H)
 obtain rfl := Option.some.inj H
 go_enter Try.func42, Try.ntmps42
 go_wp2_with (first | ((with_reducible refine gate_callee (f := 93) rfl ?_); refine goesL_ (some 19) rfl rfl Try.func93 (by kernel_rfl) rfl #[.int .i64 a0, .int .i64 a1, .slice A2 l2.length c2, .slice A3 l3.length c3, .slice A4 l4.length c4] rfl av ?_; (with_reducible refine (impl_climbMany.calls k a0 a1 (fun k_ => k_ < w.heap.size) _ _ l2 _ _ l3 (fun k_ => k_ < w.heap.size) _ _ l4 t350 t353 _ ?side1 ?side2 ?side3 ?side4 A6.out).mono ?_); (case side1 => exact Kd.V_mk HC2.out (Kd.F_below (Kd.C_F (Kd.heap_int .i64) HR2.out) (bt))); (case side2 => exact cv (HR3.out)); (case side3 => exact HC3.out); (case side4 => exact Kd.V_mk HC4.out (Kd.F_below (Kd.C_F (Kd.heap_int .i64) HR4.out) (bt))); rintro e w8 ⟨v351, rfl, ho0, hb⟩; refine ⟨_, rfl, ?_⟩; have HO352 := am (Kd.S_lower (Kd.S_mono (ok' := fun k_ => True) ho0 (fun _ hk_ => trivial)) (below_size (bt))); replace HB := am (below_step (bt) hb); (try clear hb); (try clear hb2); (try clear hk); (try clear hi); (try clear ho0); obtain ⟨Ao9, co9, eo9⟩ := Kd.S_slice HO352.out; subst eo9) | ((with_reducible refine gate_callee (f := 69) rfl ?_); refine goesL_ (some 25) rfl rfl Try.func69 (by kernel_rfl) rfl #[.int .i64 a0, .slice Ao9 t350.length co9, .bool t353] rfl av ?_; (with_reducible refine (impl_lastOf.calls a0 _ _ t350 t353 t354 _ ?side1 ?side2 A7.out).mono ?_); (case side1 => exact cv ((Kd.S_reads' HO352.out).2.2)); (case side2 => exact (Kd.S_reads' HO352.out).2.1); rintro e w10 ⟨rfl, hb⟩; refine ⟨_, rfl, ?_⟩; replace HO352 := am (Kd.S_below (mv HO352.out) hb); replace HB := am (below_step (bt) hb); (try clear hb); (try clear hb2); (try clear hk); (try clear hi)))
 go_ret
 exact ⟨by first | rfl | (simp [errW_none, errW_some] <;> rfl) | (simp [*, errW_none, errW_some] <;> rfl), bt⟩

/-! ### impl_ManyProven: function 41 -/
def impl_ManyProven.f (k : Nat) (a0 : Int) (a1 : Int) (a2 : Int) (l3 : List Int) (l4 : List (List Int)) (l5 : List Int) : Option (Bool) := if a1 = (-1) then (some false) else ((impl_ManyFrom.f k a0 a2 l3 l4 l5).bind fun t355 => (some (t355 == a1)))
theorem impl_ManyProven.calls (k : Nat) (a0 : Int) (a1 : Int) (a2 : Int) (A3 : Option Addr) (c3 : Nat) (l3 : List Int) (A4 : Option Addr) (c4 : Nat) (l4 : List (List Int)) (A5 : Option Addr) (c5 : Nat) (l5 : List Int) (r : Bool) (w : World) (hr3 : Kd.C (Kd.int .i64) w A3 l3.length l3) (hc3 : l3.length ≤ c3) (hr4 : Kd.C (Kd.slice 5 (Kd.int .u8)) w A4 l4.length l4) (hc4 : l4.length ≤ c4) (hr5 : Kd.C (Kd.int .i64) w A5 l5.length l5) (hc5 : l5.length ≤ c5) (h : impl_ManyProven.f k a0 a1 a2 l3 l4 l5 = some r) :
  Calls Try.prog 41 #[.int .i64 a0, .int .i64 a1, .int .i64 a2, .slice A3 l3.length c3, .slice A4 l4.length c4, .slice A5 l5.length c5] w fun e w' => e = .returned (.bool r) ∧ Below w.heap.size w w' := by
 have HR3 := am hr3
 have HC3 := am hc3
 clear hr3 hc3
 have HR4 := am hr4
 have HC4 := am hc4
 clear hr4 hc4
 have HR5 := am hr5
 have HC5 := am hc5
 clear hr5 hc5
 have HB := am (Below.refl w.heap.size w)
 have H : (if a1 = (-1) then (some false) else ((impl_ManyFrom.f k a0 a2 l3 l4 l5).bind fun t355 => (some (t355 == a1)))) = some r := h
 clear h
 by_cases c7 : a1 = (-1)
 ·rw [if_pos c7] at H
  have c7b0 : (a1 == (-1)) = true := beq_iff_eq.mpr c7
  have c7b1 : (a1 != (-1)) = false := bne_eq_false_iff_eq.mpr c7
  clear c7
  obtain rfl := Option.some.inj H
  go_enter Try.func41, Try.ntmps41
  go_wp2
  go_ret
  exact ⟨by first | rfl | (simp [errW_none, errW_some] <;> rfl) | (simp [*, errW_none, errW_some] <;> rfl), bt⟩
 ·rw [if_neg c7] at H
  have c7b0 : (a1 == (-1)) = false := beq_eq_false_iff_ne.mpr c7
  have c7b1 : (a1 != (-1)) = true := bne_iff_ne.mpr c7
  obtain ⟨t355, A8, H⟩ := bm H
  (try dsimp -simprocs only at H)
  obtain rfl := Option.some.inj H
  go_enter Try.func41, Try.ntmps41
  go_wp2_with (first | (go_at_call 42; (with_reducible refine (impl_ManyFrom.calls k a0 a2 _ _ l3 _ _ l4 _ _ l5 t355 _ ?side1 ?side2 ?side3 ?side4 ?side5 ?side6 A8.out).mono ?_); (case side1 => exact cv (HR3.out)); (case side2 => exact HC3.out); (case side3 => exact cv (HR4.out)); (case side4 => exact HC4.out); (case side5 => exact cv (HR5.out)); (case side6 => exact HC5.out); rintro e w9 ⟨rfl, hb⟩; replace HB := am (below_step (bt) hb); (try clear hb); (try clear hb2); (try clear hk); (try clear hi)))
  go_ret
  exact ⟨by first | rfl | (simp [errW_none, errW_some] <;> rfl) | (simp [*, errW_none, errW_some] <;> rfl), bt⟩

/-! ### impl_path: function 58 -/
def impl_path.l0 : Nat → Int → List Int → List (List Int) → Int → Int → Option (List Int)
 | 0, _, _, _, _, _ => none
 | k + 1, x2, x7, x13, x14, x15 => if x15 < x14 then (if 0 ≤ x15 then (if x15 < (x13.length : Int) then (if (Go.bits .xor .i64 x2 1) < ((rd_L3 x13 x15).length : Int) then (if 0 ≤ (Go.bits .xor .i64 x2 1) then (if x7.length < 17592186044416 then (impl_path.l0 k (wrap64 (Int.tdiv x2 2)) (x7 ++ [rd (rd_L3 x13 x15) (Go.bits .xor .i64 x2 1)]) x13 x14 (wrap64 (x15 + 1))) else (none)) else (none)) else (impl_path.l0 k (wrap64 (Int.tdiv x2 2)) x7 x13 x14 (wrap64 (x15 + 1)))) else (none)) else (none)) else (some x7)
def impl_path.f (k : Nat) (a0 : Int) (l1 : List (List Int)) (a2 : Int) : Option (List Int) := (impl_levels.f k a0 l1).bind fun t359 => (impl_path.l0 k a2 (([] : List Int)) t359 (t359.length : Int) 0)
theorem impl_path.calls (k : Nat) (a0 : Int) (A1 : Option Addr) (c1 : Nat) (l1 : List (List Int)) (a2 : Int) (r : List Int) (w : World) (hr1 : Kd.C (Kd.slice 5 (Kd.int .u8)) w A1 l1.length l1) (hc1 : l1.length ≤ c1) (h : impl_path.f k a0 l1 a2 = some r) :
  Calls Try.prog 58 #[.int .i64 a0, .slice A1 l1.length c1, .int .i64 a2] w fun e w' => ∃ v0_ : Value, e = .returned (v0_) ∧ Kd.R (Kd.int .i64) 3 w' w.heap.size (fun _ => True) v0_ r ∧ Below w.heap.size w w' := by
 have HR1 := am hr1
 have HC1 := am hc1
 clear hr1 hc1
 have HB := am (Below.refl w.heap.size w)
 have H : ((impl_levels.f k a0 l1).bind fun t359 => (impl_path.l0 k a2 (([] : List Int)) t359 (t359.length : Int) 0)) = some r := h
 clear h
 obtain ⟨y356, hy356⟩ : ∃ y_ : List Int, y_ = (([] : List Int)) := ⟨_, rfl⟩
 replace H : ((impl_levels.f k a0 l1).bind fun t359 => (impl_path.l0 k a2 y356 t359 (t359.length : Int) 0)) = some r := by first | (rw [hy356]; exact H) | exact H
 have Ny356 := am hy356
 clear hy356
 obtain ⟨t359, A4, H⟩ := bm H
 (try dsimp -simprocs only at H)
 have H' := am H
 clear H
 go_enter Try.func58, Try.ntmps58
 go_wp2_with (first | ((with_reducible refine gate_dst (N := 10) rfl ?_); refine Kd.R_lit (Kd.int .i64) _ 3 ?hg (N := 10) ?hd (xs := ([] : List Int)) (inner := []) (ok := fun _ => True) (okp := fun _ => True) ?hr ?hp (fun _ hk => hk) trivial (Below.refl _ _) (Nat.le_refl _) (by simp) ?_; (case hd => rfl); (case hg => rfl); (case hr => first | (go_simp; done) | (go_simp; rfl)); (case hp => exact (Reps.none _ _)); intro v357 w5 ho6 hb hg_ hnew_; clear hg_ hnew_; (first | rw [← Ny356.out] at ho6 | (simp only [Int.reduceToNat] at ho6; rw [← Ny356.out] at ho6)); have HO358 := am (Kd.R_lower ho6 (below_size (bt))); replace HB := am (below_step (bt) hb); clear hb ho6) | ((with_reducible refine gate_callee (f := 90) rfl ?_); refine goesL_ (some 13) rfl rfl Try.func90 (by kernel_rfl) rfl #[.int .i64 a0, .slice A1 l1.length c1] rfl av ?_; (with_reducible refine (impl_levels.calls k a0 _ _ l1 t359 _ ?side1 ?side2 A4.out).mono ?_); (case side1 => exact cv ((Kd.C_below HR1.out HB.out))); (case side2 => exact HC1.out); rintro e w7 ⟨v360, rfl, ho0, hb⟩; refine ⟨_, rfl, ?_⟩; have HO361 := am (Kd.S_lower (Kd.S_new' ho0 (Kd.R_lt (mv HO358.out))) (below_size (bt))); replace HO358 := am (Kd.R_below (mv HO358.out) hb); replace HB := am (below_step (bt) hb); (try clear hb); (try clear hb2); (try clear hk); (try clear hi); (try clear ho0); obtain ⟨Ao8, co8, eo8⟩ := Kd.S_slice HO361.out; subst eo8))
 go_loopg [2, 7, 15] k (fun kq v2 v7 v15 w' => ∃ (x2_1 : Int) (x7_1 : List Int) (x15_1 : Int), v2 = .int .i64 x2_1 ∧ v15 = .int .i64 x15_1 ∧ Aside0 (impl_path.l0 kq x2_1 x7_1 t359 (t359.length : Int) x15_1 = some r) ∧ Aside0 (kq ≤ k) ∧ Aside0 (Kd.R (Kd.int .i64) 3 w' w.heap.size (fun _ => True) v7 x7_1) ∧ Aside0 (Kd.S (Kd.slice 3 (Kd.int .i64)) 29 w' w.heap.size (fun k_ => nb k_ v7) (.slice Ao8 t359.length co8) t359) ∧ Aside0 (Below w.heap.size w w'))
 case atStart => exact ⟨(a2), (y356), (0), e0, e0, H', ⟨Nat.le_refl _⟩, ⟨mv HO358.out⟩, ⟨rS (h := by exact Kd.S_mono HO361.out (fun _ hk => hk.2))⟩, ⟨bt⟩⟩
 case round =>
  clear H'
  obtain ⟨x2_1, x7_1, x15_1, rfl, rfl, HA, HK1, HO_7, HO_13, HB⟩ := hrel
  cases gk with
  | zero => exact absurd HA.out (by simp [impl_path.l0])
  | succ k1 =>
   have H := HA.out
   clear HA
   simp only [impl_path.l0] at H
   by_cases c9 : x15_1 < (t359.length : Int)
   ·rw [if_pos c9] at H
    have c9b0 : decide (x15_1 < (t359.length : Int)) = true := decide_eq_true c9
    clear c9
    by_cases c10 : 0 ≤ x15_1
    ·rw [if_pos c10] at H
     have c10b0 : decide (0 ≤ x15_1) = true := decide_eq_true c10
     clear c10
     by_cases c11 : x15_1 < (t359.length : Int)
     ·rw [if_pos c11] at H
      have c11b0 : decide (x15_1 < (t359.length : Int)) = true := decide_eq_true c11
      clear c11
      by_cases c12 : (Go.bits .xor .i64 x2_1 1) < ((rd_L3 t359 x15_1).length : Int)
      ·rw [if_pos c12] at H
       have c12b0 : decide ((Go.bits .xor .i64 x2_1 1) < ((rd_L3 t359 x15_1).length : Int)) = true := decide_eq_true c12
       clear c12
       by_cases c13 : 0 ≤ (Go.bits .xor .i64 x2_1 1)
       ·rw [if_pos c13] at H
        have c13b0 : decide (0 ≤ (Go.bits .xor .i64 x2_1 1)) = true := decide_eq_true c13
        clear c13
        by_cases c14 : x7_1.length < 17592186044416
        ·rw [if_pos c14] at H
         have LMc14 := am c14
         clear c14
         obtain ⟨y364, hy364⟩ : ∃ y_ : List Int, y_ = (x7_1 ++ [rd (rd_L3 t359 x15_1) (Go.bits .xor .i64 x2_1 1)]) := ⟨_, rfl⟩
         replace H : (impl_path.l0 k1 (wrap64 (Int.tdiv x2_1 2)) y364 t359 (t359.length : Int) (wrap64 (x15_1 + 1))) = some r := by first | (rw [hy364]; exact H) | exact H
         have Ny364 := am hy364
         clear hy364
         have H' := am H
         clear H
         have p362 : 0 ≤ (x15_1 : Int) := of_decide_eq_true asm
         have q362 : x15_1 < (t359.length : Int) := of_decide_eq_true asm
         obtain ⟨ad362, A362_0, c362_0, e362, hx362_0, hl362_0, hi362_0⟩ := at_L3 (Kd.S_reads' HO_13.out).2.2 x15_1 p362 q362
         cases e362
         obtain ⟨ce362, hce362, hMe362, hcc362⟩ := Kd.S_get HO_13.out [] x15_1 p362 (by first | exact q362 | exact of_decide_eq_true asm | (have e_ := (Kd.S_reads' HO_13.out).1; omega))
         obtain ⟨ve362_0, rfl, ge362_0⟩ := hMe362
         have hv362_0 := hcc362 0 _ rfl
         rw [Nat.add_zero, show ((Kd.slice 3 (Kd.int .i64))).sz = 1 from rfl, Nat.mul_one] at hv362_0
         replace hv362_0 := Option.some.inj (hv362_0.symm.trans hx362_0)
         rw [hv362_0] at ge362_0
         have HL362_0 := am (show Kd.R (Kd.int .i64) 3 _ _ _ _ (rd_L3 t359 x15_1) from ge362_0)
         clear hv362_0 ge362_0
         clear hcc362 hce362
         have HR362_0 := am hi362_0
         have HC362_0 := am hl362_0
         clear hi362_0 hl362_0
         replace p362 := eq_true p362
         replace q362 := eq_true q362
         have p363 : 0 ≤ ((Go.bits .xor .i64 x2_1 1) : Int) := of_decide_eq_true asm
         have q363 : (Go.bits .xor .i64 x2_1 1) < ((rd_L3 t359 x15_1).length : Int) := of_decide_eq_true asm
         obtain ⟨ad363, e363, hx363_0⟩ := Kd.at_int (cv HR362_0.out) (Go.bits .xor .i64 x2_1 1) p363 q363
         cases e363
         replace p363 := eq_true p363
         replace q363 := eq_true q363
         go_wp2_with (first | ((with_reducible refine gate_builtin (b := .append) (xs := #[.tmp 24, .tmp 30]) rfl ?_); at_builtin; refine Kd.R_append (Kd.int .i64) (w0 := w) w.heap.size rfl (.tmp 24) (.tmp 30) 29 3 (.int .i64 0) 8 rfl Try.underlying29 info3 rfl (by decide) (by omega) u7 x7_1 (rd (rd_L3 t359 x15_1) (Go.bits .xor .i64 x2_1 1)) [.int .i64 (rd (rd_L3 t359 x15_1) (Go.bits .xor .i64 x2_1 1))] (fun _ => True) (fun _ => False) rfl rfl ?aP (fun _ hk => hk.elim) ?aF ?aO ?aB ?aS ?aL ?_; (case aP => exact rfl); (case aB => exact (bt)); (case aF => exact (fun _ _ => trivial)); (case aO => exact (mv HO_7.out)); (case aS => exact (below_size (bt))); (case aL => have := LMc14.out; omega); intro v365 w15 ho hb hg hat; rw [← Ny364.out] at ho; replace HO_13 := am (Kd.S_after (ok := (fun _ => True)) (rS (h := by exact Kd.S_mono HO_13.out (fun _ hk => ⟨trivial, hk⟩))) hg hat); replace HL362_0 := am (Kd.R_after (ok := (fun k_ => nb k_ (.slice (some ad362) t359.length co8))) (rR (h := by exact Kd.R_mono HL362_0.out (fun _ hk => ⟨hk.2, hk.1⟩))) hg hat); replace HB := am (hb); have HO366 := am (ho); clear HO_7; clear ho hb hg hat))
         go_roundg k1
         case measure => have := HK1.out; omega
         case rel => exact ⟨(wrap64 (Int.tdiv x2_1 2)), (y364), (wrap64 (x15_1 + 1)), e0, e0, H', ⟨by have := HK1.out; omega⟩, ⟨mv HO366.out⟩, ⟨rS (h := by exact Kd.S_mono HO_13.out (fun _ hk => hk.2))⟩, ⟨bt⟩⟩
        ·exact nh c14 H
       ·exact nh c13 H
      ·rw [if_neg c12] at H
       have c12b0 : decide ((Go.bits .xor .i64 x2_1 1) < ((rd_L3 t359 x15_1).length : Int)) = false := decide_eq_false c12
       clear c12
       have H' := am H
       clear H
       have p362 : 0 ≤ (x15_1 : Int) := of_decide_eq_true asm
       have q362 : x15_1 < (t359.length : Int) := of_decide_eq_true asm
       obtain ⟨ad362, A362_0, c362_0, e362, hx362_0, hl362_0, hi362_0⟩ := at_L3 (Kd.S_reads' HO_13.out).2.2 x15_1 p362 q362
       cases e362
       obtain ⟨ce362, hce362, hMe362, hcc362⟩ := Kd.S_get HO_13.out [] x15_1 p362 (by first | exact q362 | exact of_decide_eq_true asm | (have e_ := (Kd.S_reads' HO_13.out).1; omega))
       obtain ⟨ve362_0, rfl, ge362_0⟩ := hMe362
       have hv362_0 := hcc362 0 _ rfl
       rw [Nat.add_zero, show ((Kd.slice 3 (Kd.int .i64))).sz = 1 from rfl, Nat.mul_one] at hv362_0
       replace hv362_0 := Option.some.inj (hv362_0.symm.trans hx362_0)
       rw [hv362_0] at ge362_0
       have HL362_0 := am (show Kd.R (Kd.int .i64) 3 _ _ _ _ (rd_L3 t359 x15_1) from ge362_0)
       clear hv362_0 ge362_0
       clear hcc362 hce362
       have HR362_0 := am hi362_0
       have HC362_0 := am hl362_0
       clear hi362_0 hl362_0
       replace p362 := eq_true p362
       replace q362 := eq_true q362
       go_wp2
       go_roundg k1
       case measure => have := HK1.out; omega
       case rel => exact ⟨(wrap64 (Int.tdiv x2_1 2)), (x7_1), (wrap64 (x15_1 + 1)), e0, e0, H', ⟨by have := HK1.out; omega⟩, ⟨mv HO_7.out⟩, ⟨mv HO_13.out⟩, ⟨bt⟩⟩
     ·exact nh c11 H
    ·exact nh c10 H
   ·rw [if_neg c9] at H
    have c9b0 : decide (x15_1 < (t359.length : Int)) = false := decide_eq_false c9
    clear c9
    obtain rfl := Option.some.inj H
    go_wp2
    go_ret
    exact ⟨_, by first | rfl | (simp [errW_none, errW_some] <;> rfl) | (simp [*, errW_none, errW_some] <;> rfl), rR (h := by exact HO_7.out), bt⟩

/-! ### impl_Path: function 43 -/
def impl_Path.f (k : Nat) (a0 : Int) (l1 : List (List Int)) (a2 : Int) : Option (List Int × Bool) := (impl_leavesOk.f a0 l1).bind fun t367 => (if t367 = true then ((impl_in.f a2 0 (wrap64 ((l1.length : Int) - 1))).bind fun t368 => (if t368 = true then ((impl_path.f k a0 l1 a2).bind fun t369 => (some (t369, true))) else (some (([] : List Int), false)))) else (some (([] : List Int), false)))
theorem impl_Path.calls (k : Nat) (a0 : Int) (A1 : Option Addr) (c1 : Nat) (l1 : List (List Int)) (a2 : Int) (r1 : List Int) (r2 : Bool) (w : World) (hr1 : Kd.C (Kd.slice 5 (Kd.int .u8)) w A1 l1.length l1) (hc1 : l1.length ≤ c1) (h : impl_Path.f k a0 l1 a2 = some (r1, r2)) :
  Calls Try.prog 43 #[.int .i64 a0, .slice A1 l1.length c1, .int .i64 a2] w fun e w' => ∃ v0_ : Value, e = .returned (.tuple #[v0_, .bool r2]) ∧ Kd.R (Kd.int .i64) 3 w' w.heap.size (fun _ => True) v0_ r1 ∧ Below w.heap.size w w' := by
 have HR1 := am hr1
 have HC1 := am hc1
 clear hr1 hc1
 have HB := am (Below.refl w.heap.size w)
 have H : ((impl_leavesOk.f a0 l1).bind fun t367 => (if t367 = true then ((impl_in.f a2 0 (wrap64 ((l1.length : Int) - 1))).bind fun t368 => (if t368 = true then ((impl_path.f k a0 l1 a2).bind fun t369 => (some (t369, true))) else (some (([] : List Int), false)))) else (some (([] : List Int), false)))) = some (r1, r2) := h
 clear h
 obtain ⟨t367, A4, H⟩ := bm H
 (try dsimp -simprocs only at H)
 by_cases c5 : t367 = true
 ·subst c5
  rw [if_pos rfl] at H
  obtain ⟨t368, A6, H⟩ := bm H
  (try dsimp -simprocs only at H)
  by_cases c7 : t368 = true
  ·subst c7
   rw [if_pos rfl] at H
   obtain ⟨t369, A8, H⟩ := bm H
   (try dsimp -simprocs only at H)
   simp only [Option.some.injEq, Prod.mk.injEq] at H
   obtain ⟨rfl, rfl⟩ := H
   go_enter Try.func43, Try.ntmps43
   go_wp2_with (first | ((with_reducible refine gate_callee (f := 55) rfl ?_); refine goesL_ (some 10) rfl rfl Try.func55 (by kernel_rfl) rfl #[.int .i64 a0, .slice A1 l1.length c1] rfl av ?_; (with_reducible refine (impl_leavesOk.calls a0 _ _ l1 true _ ?side1 ?side2 A4.out).mono ?_); (case side1 => exact cv (HR1.out)); (case side2 => exact HC1.out); rintro e w' ⟨rfl, ⟨nd, rfl⟩⟩; refine ⟨_, rfl, ?_⟩) | (go_at_call 94; (with_reducible refine (impl_in.calls a2 0 (wrap64 ((l1.length : Int) - 1)) true _ A6.out).mono ?_); rintro e w' ⟨rfl, ⟨nd, rfl⟩⟩) | ((with_reducible refine gate_callee (f := 58) rfl ?_); refine goesL_ (some 23) rfl rfl Try.func58 (by kernel_rfl) rfl #[.int .i64 a0, .slice A1 l1.length c1, .int .i64 a2] rfl av ?_; (with_reducible refine (impl_path.calls k a0 _ _ l1 a2 t369 _ ?side1 ?side2 A8.out).mono ?_); (case side1 => exact cv (HR1.out)); (case side2 => exact HC1.out); rintro e w9 ⟨v370, rfl, ho0, hb⟩; refine ⟨_, rfl, ?_⟩; have HO371 := am (Kd.R_lower ho0 (below_size (bt))); replace HB := am (below_step (bt) hb); (try clear hb); (try clear hb2); (try clear hk); (try clear hi); (try clear ho0)))
   go_ret2
   exact ⟨_, by first | rfl | (simp [errW_none, errW_some] <;> rfl) | (simp [*, errW_none, errW_some] <;> rfl), rR (h := by exact HO371.out), bt⟩
  ·replace c7 := Bool.eq_false_iff.mpr c7
   subst c7
   rw [if_neg nft] at H
   simp only [Option.some.injEq, Prod.mk.injEq] at H
   obtain ⟨rfl, rfl⟩ := H
   go_enter Try.func43, Try.ntmps43
   go_wp2_with (first | ((with_reducible refine gate_callee (f := 55) rfl ?_); refine goesL_ (some 10) rfl rfl Try.func55 (by kernel_rfl) rfl #[.int .i64 a0, .slice A1 l1.length c1] rfl av ?_; (with_reducible refine (impl_leavesOk.calls a0 _ _ l1 true _ ?side1 ?side2 A4.out).mono ?_); (case side1 => exact cv (HR1.out)); (case side2 => exact HC1.out); rintro e w' ⟨rfl, ⟨nd, rfl⟩⟩; refine ⟨_, rfl, ?_⟩) | (go_at_call 94; (with_reducible refine (impl_in.calls a2 0 (wrap64 ((l1.length : Int) - 1)) false _ A6.out).mono ?_); rintro e w' ⟨rfl, ⟨nd, rfl⟩⟩))
   go_ret2
   exact ⟨_, by first | rfl | (simp [errW_none, errW_some] <;> rfl) | (simp [*, errW_none, errW_some] <;> rfl), by first | exact Kd.R_nil _ _ _ _ _ | exact Kd.N_nil _ _ _ _ _ | exact Kd.V_nil _ _ _ _ _ | exact Kd.Q_nil _ _ _ _ _ | exact Kd.S_nil _ _ _ _ _, bt⟩
 ·replace c5 := Bool.eq_false_iff.mpr c5
  subst c5
  rw [if_neg nft] at H
  simp only [Option.some.injEq, Prod.mk.injEq] at H
  obtain ⟨rfl, rfl⟩ := H
  go_enter Try.func43, Try.ntmps43
  go_wp2_with (first | ((with_reducible refine gate_callee (f := 55) rfl ?_); refine goesL_ (some 10) rfl rfl Try.func55 (by kernel_rfl) rfl #[.int .i64 a0, .slice A1 l1.length c1] rfl av ?_; (with_reducible refine (impl_leavesOk.calls a0 _ _ l1 false _ ?side1 ?side2 A4.out).mono ?_); (case side1 => exact cv (HR1.out)); (case side2 => exact HC1.out); rintro e w' ⟨rfl, ⟨nd, rfl⟩⟩; refine ⟨_, rfl, ?_⟩))
  go_ret2
  exact ⟨_, by first | rfl | (simp [errW_none, errW_some] <;> rfl) | (simp [*, errW_none, errW_some] <;> rfl), by first | exact Kd.R_nil _ _ _ _ _ | exact Kd.N_nil _ _ _ _ _ | exact Kd.V_nil _ _ _ _ _ | exact Kd.Q_nil _ _ _ _ _ | exact Kd.S_nil _ _ _ _ _, bt⟩

/-! ### spec_l3DrawSmall: function 52 -/
def spec_l3DrawSmall.l0 : Nat → List (List Int) → Int → List Int → Int → Int → Option (Int × (List (List Int)) × Int × Int)
 | 0, _, _, _, _, _ => none
 | k + 1, x4, x5, x1000, x1001, x1002 => if x5 > 0 then ((spec_l1DrawData.f k x1000 x1001 x1002 4).bind fun bt383 => (if x4.length < 5864062014805 then (spec_l3DrawSmall.l0 k (x4 ++ [bt383.1]) (wrap64 (x5 - 1)) x1000 bt383.2.1 bt383.2.2) else (none))) else ((spec_l1PickInt.f x1000 x1001 x1002 (([2, 3, 4, 2, 3, 8, 60, 5] : List Int))).bind fun bt394 => (some (bt394.1, x4, bt394.2.1, bt394.2.2)))
def spec_l3DrawSmall.f (k : Nat) (s0_0 : List Int) (s0_1 : Int) (s0_2 : Int) : Option (Int × (List (List Int)) × Int × Int) := (spec_l1DrawData.f k s0_0 s0_1 s0_2 4).bind fun bt372 => ((spec_l1Below.f s0_0 bt372.2.1 bt372.2.2 6).bind fun bt380 => (spec_l3DrawSmall.l0 k (([bt372.1] : List (List Int))) bt380.1 s0_0 bt380.2.1 bt380.2.2))
theorem spec_l3DrawSmall.calls (k : Nat) (g : Nat) (s0_0 : List Int) (s0_1 : Int) (s0_2 : Int) (r1 : Int) (r2 : List (List Int)) (r3 : Int) (r4 : Int) (w0 w : World) (hI : IsS113 w0 w g s0_0 s0_1 s0_2) (hB : Below w0.heap.size w0 w) (h : spec_l3DrawSmall.f k s0_0 s0_1 s0_2 = some (r1, r2, r3, r4)) :
  Calls Try.prog 52 #[.pointer (some ⟨g, 0, none⟩)] w fun e w' => ∃ v1_ : Value, e = .returned (.tuple #[.int .i64 r1, v1_]) ∧ Kd.N (Kd.slice 5 (Kd.int .u8)) 22 w' w.heap.size (fun k_ => (w.heap.size ≤ k_)) v1_ r2 ∧ IsS113 w0 w' g s0_0 r3 r4 ∧ Below w0.heap.size w0 w' ∧ KeepBut w w' g none := by
 have HI0 := am hI
 have HK := am (KeepBut.refl w g none)
 have HL := am hB.size
 clear hI
 have HW0 := am hB.size
 have HB := am hB
 clear hB
 have H : ((spec_l1DrawData.f k s0_0 s0_1 s0_2 4).bind fun bt372 => ((spec_l1Below.f s0_0 bt372.2.1 bt372.2.2 6).bind fun bt380 => (spec_l3DrawSmall.l0 k (([bt372.1] : List (List Int))) bt380.1 s0_0 bt380.2.1 bt380.2.2))) = some (r1, r2, r3, r4) := h
 clear h
 obtain ⟨⟨t372, t375, t376⟩, A2, H⟩ := bm H
 (try dsimp -simprocs only at H)
 obtain ⟨y377, hy377⟩ : ∃ y_ : List (List Int), y_ = (([t372] : List (List Int))) := ⟨_, rfl⟩
 replace H : ((spec_l1Below.f s0_0 t375 t376 6).bind fun bt380 => (spec_l3DrawSmall.l0 k y377 bt380.1 s0_0 bt380.2.1 bt380.2.2)) = some (r1, r2, r3, r4) := by first | (rw [hy377]; exact H) | exact H
 have Ny377 := am hy377
 clear hy377
 obtain ⟨⟨t380, t381, t382⟩, A3, H⟩ := bm H
 (try dsimp -simprocs only at H)
 have H' := am H
 clear H
 go_enter Try.func52, Try.ntmps52
 go_wp2_with (first | ((with_reducible refine gate_callee (f := 64) rfl ?_); refine goesL_ (some 7) rfl rfl Try.func64 (by kernel_rfl) rfl #[.pointer (some ⟨g, 0, none⟩), .int .i64 4] rfl av ?_; (with_reducible refine (spec_l1DrawData.calls k g s0_0 s0_1 s0_2 4 t372 t375 t376 w0 _ ?side1 ?side2 A2.out).mono ?_); (case side1 => exact si113_); (case side2 => exact b1 (IsS113.ge HI0.out)); rintro e w4 ⟨v373, rfl, ho0, hi, hb, hk⟩; refine ⟨_, rfl, ?_⟩; have HO374 := am (Kd.R_lower (Kd.R_newM (M := fun k_ => (w.heap.size ≤ k_)) ho0 (keep_size (w := w) (g := g) (row := none) (kp)) (fun k_ h_ => h_)) (keep_size (w := w) (g := g) (row := none) (kp))); replace HK := am (KeepBut.trans (kp) hk (.inl rfl)); replace HB := am (hb); replace HI0 := am (hi); (try clear hb); (try clear hb2); (try clear hk); (try clear hi); (try clear ho0); obtain ⟨Ao5, co5, eo5⟩ := Kd.R_slice HO374.out; subst eo5) | ((with_reducible refine gate_dst (N := 8) rfl ?_); refine Kd.N_lit (Kd.slice 5 (Kd.int .u8)) _ 22 ?hg (N' := 8) ?hd (xs := ([t372] : List (List Int))) (inner := [.slice Ao5 t372.length co5]) (ok := (fun k_ => (w.heap.size ≤ k_) ∧ k_ ≠ g)) (okp := (fun k_ => (w.heap.size ≤ k_) ∧ k_ ≠ g)) ?hr ?hp (fun _ hk => hk) ((show ∀ k_, w4.heap.size ≤ k_ → (fun k_ => (w.heap.size ≤ k_) ∧ k_ ≠ g) k_ from fun k_ hk => ⟨(Nat.le_trans (keep_size (w := w) (g := g) (row := none) (kp)) hk), IsS113.fresh (si113_) k_ hk⟩) _ (Nat.le_refl _)) (Below.refl _ _) (Nat.le_refl _) (by simp) ?_; (case hd => rfl); (case hg => rfl); (case hr => first | (go_simp; done) | (go_simp; rfl)); (case hp => exact (Reps.one (show Kd.FK (Kd.slice 5 (Kd.int .u8)) _ _ t372 [.slice Ao5 t372.length co5] from (fkR (Kd.R_mono (ok' := (fun k_ => (w.heap.size ≤ k_) ∧ k_ ≠ g)) (IsS113.apart HI0.out (HO374.out) (by decide)) (fun k_ hk => ⟨hk.1.1, hk.2⟩)))) (Reps.none _ _))); intro v378 w6 ho7 hb hg_ hnew_; clear hg_ hnew_; (first | rw [← Ny377.out] at ho7 | (simp only [Int.reduceToNat] at ho7; rw [← Ny377.out] at ho7)); have HO379 := am (Kd.N_lower ho7 (keep_size (w := w) (g := g) (row := none) (kp))); replace HK := am (KeepBut.trans (kp) (KeepBut.of_below hb g none) (.inl rfl)); replace HB := am (below_step (b1 (IsS113.ge HI0.out)) hb); replace HI0 := am (IsS113.below (si113_) hb); clear HO374; clear hb ho7) | ((with_reducible refine gate_callee (f := 53) rfl ?_); refine goesL_ (some 10) rfl rfl Try.func53 (by kernel_rfl) rfl #[.pointer (some ⟨g, 0, none⟩), .int .i64 6] rfl av ?_; (with_reducible refine (spec_l1Below.calls g s0_0 t375 t376 6 t380 t381 t382 w0 _ ?side1 ?side2 A3.out).mono ?_); (case side1 => exact si113_); (case side2 => exact b1 (IsS113.ge HI0.out)); rintro e w8 ⟨rfl, hi, hb, hk⟩; refine ⟨_, rfl, ?_⟩; replace HO379 := am (nK (mv HO379.out) hk); replace HK := am (KeepBut.trans (kp) hk (.inl rfl)); replace HB := am (hb); replace HI0 := am (hi); (try clear hb); (try clear hb2); (try clear hk); (try clear hi)))
 go_loopg [4, 5] k (fun kq v4 v5 w' => ∃ (x4_1 : List (List Int)) (x5_1 : Int) (x1001_1 : Int) (x1002_1 : Int), v5 = .int .i64 x5_1 ∧ Aside0 (spec_l3DrawSmall.l0 kq x4_1 x5_1 s0_0 x1001_1 x1002_1 = some (r1, r2, r3, r4)) ∧ Aside0 (kq ≤ k) ∧ Aside0 (Kd.N (Kd.slice 5 (Kd.int .u8)) 22 w' w.heap.size (fun k_ => (w.heap.size ≤ k_) ∧ k_ ≠ g) v4 x4_1) ∧ Aside0 (IsS113 w0 w' g s0_0 x1001_1 x1002_1) ∧ Aside0 (KeepBut w w' g none) ∧ Aside0 (Below w0.heap.size w0 w'))
 case atStart => exact ⟨(y377), (t380), (t381), (t382), e0, H', ⟨Nat.le_refl _⟩, ⟨mv HO379.out⟩, ⟨si113_⟩, ⟨kp⟩, ⟨b1 (IsS113.ge HI0.out)⟩⟩
 case round =>
  clear H'
  obtain ⟨x4_1, x5_1, x1001_1, x1002_1, rfl, HA, HK1, HO_4, HI0, HK, HB⟩ := hrel
  cases gk with
  | zero => exact absurd HA.out (by simp [spec_l3DrawSmall.l0])
  | succ k1 =>
   have H := HA.out
   clear HA
   simp only [spec_l3DrawSmall.l0] at H
   by_cases c9 : x5_1 > 0
   ·rw [if_pos c9] at H
    have c9b0 : decide (0 < x5_1) = true := decide_eq_true c9
    clear c9
    obtain ⟨⟨t383, t386, t387⟩, A10, H⟩ := bm H
    (try dsimp -simprocs only at H)
    by_cases c11 : x4_1.length < 5864062014805
    ·rw [if_pos c11] at H
     have LMc11 := am c11
     clear c11
     obtain ⟨y388, hy388⟩ : ∃ y_ : List (List Int), y_ = (x4_1 ++ [t383]) := ⟨_, rfl⟩
     replace H : (spec_l3DrawSmall.l0 k1 y388 (wrap64 (x5_1 - 1)) s0_0 t386 t387) = some (r1, r2, r3, r4) := by first | (rw [hy388]; exact H) | exact H
     have Ny388 := am hy388
     clear hy388
     have H' := am H
     clear H
     go_wp2_with (first | ((with_reducible refine gate_callee (f := 64) rfl ?_); refine goesL_ (some 17) rfl rfl Try.func64 (by kernel_rfl) rfl #[.pointer (some ⟨g, 0, none⟩), .int .i64 4] rfl av ?_; (with_reducible refine (spec_l1DrawData.calls k1 g s0_0 x1001_1 x1002_1 4 t383 t386 t387 w0 _ ?side1 ?side2 A10.out).mono ?_); (case side1 => exact si113_); (case side2 => exact b1 (IsS113.ge HI0.out)); rintro e w12 ⟨v384, rfl, ho0, hi, hb, hk⟩; refine ⟨_, rfl, ?_⟩; replace HO_4 := am (nT (mv HO_4.out) hk (Kd.R_base ho0)); have HO385 := am (Kd.R_lower (Kd.R_newM (M := fun k_ => (w.heap.size ≤ k_)) ho0 (keep_size (w := w) (g := g) (row := none) (kp)) (fun k_ h_ => h_)) (keep_size (w := w) (g := g) (row := none) (kp))); replace HK := am (KeepBut.trans (kp) hk (.inl rfl)); replace HB := am (hb); replace HI0 := am (hi); (try clear hb); (try clear hb2); (try clear hk); (try clear hi); (try clear ho0); obtain ⟨Ao14, co14, eo14⟩ := Kd.R_slice HO385.out; subst eo14) | ((with_reducible refine gate_builtin (b := .append) (xs := #[.tmp 15, .tmp 18]) rfl ?_); at_builtin; refine Kd.N_append (Kd.slice 5 (Kd.int .u8)) w.heap.size rfl (.tmp 15) (.tmp 18) 24 22 (.slice none 0 0) 24 rfl Try.underlying24 info22 rfl (by decide) (by omega) u4 x4_1 t383 [.slice Ao14 t383.length co14] (fun k_ => (w.heap.size ≤ k_) ∧ k_ ≠ g) (fun k_ => ((fun k_ => (w.heap.size ≤ k_) ∧ k_ ≠ g)) k_ ∧ nb k_ u4) rfl rfl ?aP (fun _ hk => hk) ?aF ?aO (Below.refl _ _) ?aS ?aL ?_; (case aP => exact (fkR (Kd.R_mono (ok' := (fun k_ => ((fun k_ => (w.heap.size ≤ k_) ∧ k_ ≠ g)) k_ ∧ nb k_ u4)) (IsS113.apart HI0.out (Kd.R_apart' (HO385.out) (Kd.N_typed HO_4.out) (by decide)) (by decide)) (fun k_ hk => ⟨⟨hk.1.1.1, hk.2⟩, hk.1.2⟩)))); (case aF => exact (fun k_ hk => ⟨(Nat.le_trans (keep_size (w := w) (g := g) (row := none) (kp)) hk), IsS113.fresh (si113_) k_ hk⟩)); (case aO => exact (rN (h := by exact Kd.N_mono HO_4.out (fun _ hk => ⟨hk.1.1, hk.1.2⟩)))); (case aS => exact (keep_size (w := w) (g := g) (row := none) (kp))); (case aL => have := LMc11.out; omega); intro v389 w13 ho hb hg hat; rw [← Ny388.out] at ho; replace HB := am (below_weaken (b1 (IsS113.ge HI0.out)) HL.out hb); replace HI0 := am (IsS113.grown (si113_) hg (IsS113.own_neN HI0.out HO_4.out (by decide))); replace HK := am (KeepBut.trans (kp) (KeepBut.of_grown hg g) (Kd.N_base2 HO_4.out)); have HO390 := am (ho); clear HO_4 HO385; clear ho hb hg hat))
     go_roundg k1
     case measure => have := HK1.out; omega
     case rel => exact ⟨(y388), (wrap64 (x5_1 - 1)), (t386), (t387), e0, H', ⟨by have := HK1.out; omega⟩, ⟨mv HO390.out⟩, ⟨si113_⟩, ⟨kp⟩, ⟨b1 (IsS113.ge HI0.out)⟩⟩
    ·exact nh c11 H
   ·rw [if_neg c9] at H
    have c9b0 : decide (0 < x5_1) = false := decide_eq_false c9
    clear c9
    obtain ⟨y391, hy391⟩ : ∃ y_ : List Int, y_ = (([2, 3, 4, 2, 3, 8, 60, 5] : List Int)) := ⟨_, rfl⟩
    replace H : ((spec_l1PickInt.f s0_0 x1001_1 x1002_1 y391).bind fun bt394 => (some (bt394.1, x4_1, bt394.2.1, bt394.2.2))) = some (r1, r2, r3, r4) := by first | (rw [hy391]; exact H) | exact H
    have Ny391 := am hy391
    clear hy391
    obtain ⟨⟨t394, t395, t396⟩, A15, H⟩ := bm H
    (try dsimp -simprocs only at H)
    simp only [Option.some.injEq, Prod.mk.injEq] at H
    obtain ⟨rfl, rfl, rfl, rfl⟩ := H
    go_wp2_with (first | ((with_reducible refine gate_dst (N := 21) rfl ?_); refine Kd.R_lit (Kd.int .i64) _ 3 ?hg (N := 21) ?hd (xs := ([2, 3, 4, 2, 3, 8, 60, 5] : List Int)) (inner := [.int .i64 2, .int .i64 3, .int .i64 4, .int .i64 2, .int .i64 3, .int .i64 8, .int .i64 60, .int .i64 5]) (ok := fun _ => True) (okp := fun _ => True) ?hr ?hp (fun _ hk => hk) trivial (Below.refl _ _) (Nat.le_refl _) (by simp) ?_; (case hd => rfl); (case hg => rfl); (case hr => first | (go_simp; done) | (go_simp; rfl)); (case hp => exact (Reps.one (show Kd.M (Kd.int .i64) _ _ _ 2 [.int .i64 2] from rfl) (Reps.one (show Kd.M (Kd.int .i64) _ _ _ 3 [.int .i64 3] from rfl) (Reps.one (show Kd.M (Kd.int .i64) _ _ _ 4 [.int .i64 4] from rfl) (Reps.one (show Kd.M (Kd.int .i64) _ _ _ 2 [.int .i64 2] from rfl) (Reps.one (show Kd.M (Kd.int .i64) _ _ _ 3 [.int .i64 3] from rfl) (Reps.one (show Kd.M (Kd.int .i64) _ _ _ 8 [.int .i64 8] from rfl) (Reps.one (show Kd.M (Kd.int .i64) _ _ _ 60 [.int .i64 60] from rfl) (Reps.one (show Kd.M (Kd.int .i64) _ _ _ 5 [.int .i64 5] from rfl) (Reps.none _ _)))))))))); intro v392 w16 ho17 hb hg_ hnew_; clear hg_ hnew_; (first | rw [← Ny391.out] at ho17 | (simp only [Int.reduceToNat] at ho17; rw [← Ny391.out] at ho17)); replace HO_4 := am (Kd.N_elder' (mv HO_4.out) (Kd.R_base ho17) hb); have HO393 := am (Kd.R_lower (Kd.R_newM (M := fun k_ => (w.heap.size ≤ k_)) ho17 (keep_size (w := w) (g := g) (row := none) (kp)) (fun k_ h_ => h_)) (keep_size (w := w) (g := g) (row := none) (kp))); replace HK := am (KeepBut.trans (kp) (KeepBut.of_below hb g none) (.inl rfl)); replace HB := am (below_step (b1 (IsS113.ge HI0.out)) hb); replace HI0 := am (IsS113.below (si113_) hb); clear hb ho17; obtain ⟨Ao18, co18, eo18⟩ := Kd.R_slice HO393.out; subst eo18) | ((with_reducible refine gate_callee (f := 88) rfl ?_); refine goesL_ (some 22) rfl rfl Try.func88 (by kernel_rfl) rfl #[.pointer (some ⟨g, 0, none⟩), .slice Ao18 y391.length co18] rfl av ?_; (with_reducible refine (spec_l1PickInt.calls g s0_0 x1001_1 x1002_1 _ _ y391 t394 t395 t396 w0 _ ?side1 ?side2 ?side3 ?side4 ?side5 A15.out).mono ?_); (case side1 => exact si113_); (case side2 => exact b1 (IsS113.ge HI0.out)); (case side3 => exact cv ((Kd.R_reads' HO393.out).2.2)); (case side4 => exact (Kd.R_reads' HO393.out).2.1); (case side5 => exact far_slice (IsS113.own_ne HI0.out HO393.out (by decide))); rintro e w19 ⟨rfl, hi, hb, hk⟩; refine ⟨_, rfl, ?_⟩; replace HO_4 := am (nK (mv HO_4.out) hk); replace HO393 := am (rx113 (show IsS113 w0 _ g s0_0 x1001_1 x1002_1 from si113_) (mv HO393.out) hk); replace HK := am (KeepBut.trans (kp) hk (.inl rfl)); replace HB := am (hb); replace HI0 := am (hi); (try clear hb); (try clear hb2); (try clear hk); (try clear hi)))
    go_ret2
    exact ⟨_, by first | rfl | (simp [errW_none, errW_some] <;> rfl) | (simp [*, errW_none, errW_some] <;> rfl), rN (h := by exact Kd.N_mono HO_4.out (fun _ hk => hk.1.1)), si113_, b1 (IsS113.ge HI0.out), kp⟩

/-! ### spec_l1Bytes: function 98 -/
def spec_l1Bytes.f (l0 : List Int) : Option (List Int) := (some (([] : List Int) : List Int)).bind fun y397 => (if y397.length + l0.length < 140737488355328 then (some (y397 ++ l0)) else (none))
theorem spec_l1Bytes.calls (A0 : Option Addr) (c0 : Nat) (l0 : List Int) (r : List Int) (w : World) (hr0 : Kd.C (Kd.int .u8) w A0 l0.length l0) (hc0 : l0.length ≤ c0) (h : spec_l1Bytes.f l0 = some r) :
  Calls Try.prog 98 #[.slice A0 l0.length c0] w fun e w' => ∃ v0_ : Value, e = .returned (v0_) ∧ Kd.R (Kd.int .u8) 5 w' w.heap.size (fun _ => True) v0_ r ∧ Below w.heap.size w w' := by
 have HR0 := am hr0
 have HC0 := am hc0
 clear hr0 hc0
 have HB := am (Below.refl w.heap.size w)
 have H : ((some (([] : List Int) : List Int)).bind fun y397 => (if y397.length + l0.length < 140737488355328 then (some (y397 ++ l0)) else (none))) = some r := h
 clear h
 obtain ⟨y397, hy397⟩ : ∃ y_ : List Int, y_ = (([] : List Int)) := ⟨_, rfl⟩
 replace H : (if y397.length + l0.length < 140737488355328 then (some (y397 ++ l0)) else (none)) = some r := by first | (rw [hy397]; exact H) | exact H
 have Ny397 := am hy397
 clear hy397
 by_cases c2 : y397.length + l0.length < 140737488355328
 ·rw [if_pos c2] at H
  have LMc2 := am c2
  clear c2
  obtain ⟨y400, hy400⟩ : ∃ y_ : List Int, y_ = (y397 ++ l0) := ⟨_, rfl⟩
  replace H : (some y400) = some r := by first | (rw [hy400]; exact H) | exact H
  have Ny400 := am hy400
  clear hy400
  obtain rfl := Option.some.inj H
  go_enter Try.func98, Try.ntmps98
  go_wp2_with (first | ((with_reducible refine gate_dst (N := 3) rfl ?_); refine Kd.R_lit (Kd.int .u8) _ 5 ?hg (N := 3) ?hd (xs := ([] : List Int)) (inner := []) (ok := fun _ => True) (okp := fun _ => True) ?hr ?hp (fun _ hk => hk) trivial (Below.refl _ _) (Nat.le_refl _) (by simp) ?_; (case hd => rfl); (case hg => rfl); (case hr => first | (go_simp; done) | (go_simp; rfl)); (case hp => exact (Reps.none _ _)); intro v398 w3 ho4 hb hg_ hnew_; clear hg_ hnew_; (first | rw [← Ny397.out] at ho4 | (simp only [Int.reduceToNat] at ho4; rw [← Ny397.out] at ho4)); have HO399 := am (Kd.R_lower ho4 (below_size (bt))); replace HB := am (below_step (bt) hb); clear hb ho4) | ((with_reducible refine gate_builtin (b := .append) (xs := #[.tmp 3, .tmp 4]) rfl ?_); at_builtin; refine Kd.R_append_rows (Kd.int .u8) (w0 := w) w.heap.size rfl (.tmp 3) (.tmp 4) 22 5 (.int .u8 0) 1 rfl Try.underlying22 info5 rfl (by decide) (by omega) v398 y397 l0 _ _ _ (fun _ => True) (fun _ => False) rfl rfl ?aO ?aR (fun _ _ h => h) (fun _ h => h.elim) ?aF ?aB ?aS ?aL ?_; (case aR => exact cv ((Kd.C_below HR0.out HB.out))); (case aB => exact (bt)); (case aF => exact (fun _ _ => trivial)); (case aO => exact (mv HO399.out)); (case aS => exact (below_size (bt))); (case aL => have := LMc2.out; omega); intro v401 w5 ho hb hg hat; rw [← Ny400.out] at ho; replace HB := am (hb); have HO402 := am (ho); clear HO399; clear ho hb hg hat))
  go_ret
  exact ⟨_, by first | rfl | (simp [errW_none, errW_some] <;> rfl) | (simp [*, errW_none, errW_some] <;> rfl), rR (h := by exact HO402.out), bt⟩
 ·exact nh c2 H

/-! ### spec_l1Lists: function 62 -/
def spec_l1Lists.l0 : Nat → List (List Int) → List (List Int) → Int → Option ((List (List Int)))
 | 0, _, _, _ => none
 | k + 1, x0, x3, x4 => if x4 < (x0.length : Int) then (if 0 ≤ x4 then ((spec_l1Bytes.f (rd_L1 x0 x4)).bind fun t407 => (if x3.length < 5864062014805 then (spec_l1Lists.l0 k x0 (x3 ++ [t407]) (wrap64 (x4 + 1))) else (none))) else (none)) else (some x3)
def spec_l1Lists.f (k : Nat) (l0 : List (List Int)) : Option ((List (List Int))) := spec_l1Lists.l0 k l0 (([] : List (List Int))) 0
theorem spec_l1Lists.calls (k : Nat) (A0 : Option Addr) (c0 : Nat) (l0 : List (List Int)) (r : List (List Int)) (w : World) (hr0 : Kd.C (Kd.slice 5 (Kd.int .u8)) w A0 l0.length l0) (hc0 : l0.length ≤ c0) (h : spec_l1Lists.f k l0 = some r) :
  Calls Try.prog 62 #[.slice A0 l0.length c0] w fun e w' => ∃ v0_ : Value, e = .returned (v0_) ∧ Kd.S (Kd.slice 5 (Kd.int .u8)) 22 w' w.heap.size (fun _ => True) v0_ r ∧ Below w.heap.size w w' := by
 have HR0 := am hr0
 have HC0 := am hc0
 clear hr0 hc0
 have HB := am (Below.refl w.heap.size w)
 have H : (spec_l1Lists.l0 k l0 (([] : List (List Int))) 0) = some r := h
 clear h
 obtain ⟨y403, hy403⟩ : ∃ y_ : List (List Int), y_ = (([] : List (List Int))) := ⟨_, rfl⟩
 replace H : (spec_l1Lists.l0 k l0 y403 0) = some r := by first | (rw [hy403]; exact H) | exact H
 have Ny403 := am hy403
 clear hy403
 have H' := am H
 clear H
 go_enter Try.func62, Try.ntmps62
 go_wp2_with (first | ((with_reducible refine gate_dst (N := 5) rfl ?_); refine Kd.S_lit (Kd.slice 5 (Kd.int .u8)) _ 22 ?hg (N := 5) ?hd (xs := ([] : List (List Int))) (inner := []) (ok := fun _ => True) (okp := fun _ => True) ?hr ?hp (fun _ hk => hk) trivial (Below.refl _ _) (Nat.le_refl _) (by simp) ?_; (case hd => rfl); (case hg => rfl); (case hr => first | (go_simp; done) | (go_simp; rfl)); (case hp => exact (Reps.none _ _)); intro v404 w2 ho3 hb hg_ hnew_; clear hg_ hnew_; (first | rw [← Ny403.out] at ho3 | (simp only [Int.reduceToNat] at ho3; rw [← Ny403.out] at ho3)); have HO405 := am (Kd.S_lower ho3 (below_size (bt))); replace HB := am (below_step (bt) hb); clear hb ho3))
 go_loopg [3, 4] k (fun kq v3 v4 w' => ∃ (x3_1 : List (List Int)) (x4_1 : Int), v4 = .int .i64 x4_1 ∧ Aside0 (spec_l1Lists.l0 kq l0 x3_1 x4_1 = some r) ∧ Aside0 (kq ≤ k) ∧ Aside0 (Kd.S (Kd.slice 5 (Kd.int .u8)) 22 w' w.heap.size (fun _ => True) v3 x3_1) ∧ Aside0 (Below w.heap.size w w'))
 case atStart => exact ⟨(y403), (0), e0, H', ⟨Nat.le_refl _⟩, ⟨mv HO405.out⟩, ⟨bt⟩⟩
 case round =>
  clear H'
  obtain ⟨x3_1, x4_1, rfl, HA, HK1, HO_3, HB⟩ := hrel
  cases gk with
  | zero => exact absurd HA.out (by simp [spec_l1Lists.l0])
  | succ k1 =>
   have H := HA.out
   clear HA
   simp only [spec_l1Lists.l0] at H
   by_cases c4 : x4_1 < (l0.length : Int)
   ·rw [if_pos c4] at H
    have c4b0 : decide (x4_1 < (l0.length : Int)) = true := decide_eq_true c4
    clear c4
    by_cases c5 : 0 ≤ x4_1
    ·rw [if_pos c5] at H
     have c5b0 : decide (0 ≤ x4_1) = true := decide_eq_true c5
     clear c5
     obtain ⟨t407, A6, H⟩ := bm H
     (try dsimp -simprocs only at H)
     by_cases c7 : x3_1.length < 5864062014805
     ·rw [if_pos c7] at H
      have LMc7 := am c7
      clear c7
      obtain ⟨y410, hy410⟩ : ∃ y_ : List (List Int), y_ = (x3_1 ++ [t407]) := ⟨_, rfl⟩
      replace H : (spec_l1Lists.l0 k1 l0 y410 (wrap64 (x4_1 + 1))) = some r := by first | (rw [hy410]; exact H) | exact H
      have Ny410 := am hy410
      clear hy410
      have H' := am H
      clear H
      have p406 : 0 ≤ (x4_1 : Int) := of_decide_eq_true asm
      have q406 : x4_1 < (l0.length : Int) := of_decide_eq_true asm
      obtain ⟨ad406, A406_0, c406_0, e406, hx406_0, hl406_0, hi406_0⟩ := at_L1 HR0.out x4_1 p406 q406
      cases e406
      replace hx406_0 := (HB.out.cell (World.block_lt_of_cell? w _ hx406_0)).trans hx406_0
      have HR406_0 := am hi406_0
      have HC406_0 := am hl406_0
      clear hi406_0 hl406_0
      replace p406 := eq_true p406
      replace q406 := eq_true q406
      go_wp2_with (first | ((with_reducible refine gate_callee (f := 98) rfl ?_); refine goesL_ (some 17) rfl rfl Try.func98 (by kernel_rfl) rfl #[.slice A406_0 (rd_L1 l0 x4_1).length c406_0] rfl av ?_; (with_reducible refine (spec_l1Bytes.calls _ _ (rd_L1 l0 x4_1) t407 _ ?side1 ?side2 A6.out).mono ?_); (case side1 => exact cv ((Kd.C_below HR406_0.out HB.out))); (case side2 => exact HC406_0.out); rintro e w8 ⟨v408, rfl, ho0, hb⟩; refine ⟨_, rfl, ?_⟩; replace HO_3 := am (Kd.S_elder' (mv HO_3.out) (Kd.R_base ho0) hb); have HO409 := am (Kd.R_lower ho0 (below_size (bt))); replace HB := am (below_step (bt) hb); (try clear hb); (try clear hb2); (try clear hk); (try clear hi); (try clear ho0); obtain ⟨Ao10, co10, eo10⟩ := Kd.R_slice HO409.out; subst eo10) | ((with_reducible refine gate_builtin (b := .append) (xs := #[.tmp 12, .tmp 18]) rfl ?_); at_builtin; refine Kd.S_append (Kd.slice 5 (Kd.int .u8)) (w0 := w) w.heap.size rfl (.tmp 12) (.tmp 18) 24 22 (.slice none 0 0) 24 rfl Try.underlying24 info22 rfl (by decide) (by omega) u3 x3_1 t407 [.slice Ao10 t407.length co10] (fun _ => True) (fun k_ => some k_ = (.slice Ao10 t407.length co10 : Value).ownBlock) rfl rfl ?aP (fun k_ hk_ => ((Kd.R_mono (ok' := fun k_ => ((fun _ => True)) k_ ∧ nb k_ u3) (Kd.R_apart' (HO409.out) (Kd.S_typed HO_3.out) (by decide)) (fun k_ hk => ⟨trivial, hk.2⟩))).1 k_ hk_.symm) ?aF ?aO ?aB ?aS ?aL ?_; (case aP => exact Kd.M_row (Kd.R_mono (Kd.R_tight rfl (Kd.R_mono (ok' := fun k_ => ((fun _ => True)) k_ ∧ nb k_ u3) (Kd.R_apart' (HO409.out) (Kd.S_typed HO_3.out) (by decide)) (fun k_ hk => ⟨trivial, hk.2⟩))) (fun _ h_ => h_))); (case aB => exact (bt)); (case aF => exact (fun _ _ => trivial)); (case aO => exact (rS (h := by exact Kd.S_mono HO_3.out (fun k_ hk => ⟨trivial, fun e_ => hk.2 e_⟩)))); (case aS => exact (below_size (bt))); (case aL => have := LMc7.out; omega); intro v411 w9 ho hb hg hat; rw [← Ny410.out] at ho; replace HB := am (hb); have HO412 := am (ho); clear HO_3 HO409; clear ho hb hg hat))
      go_roundg k1
      case measure => have := HK1.out; omega
      case rel => exact ⟨(y410), (wrap64 (x4_1 + 1)), e0, H', ⟨by have := HK1.out; omega⟩, ⟨mv HO412.out⟩, ⟨bt⟩⟩
     ·exact nh c7 H
    ·exact nh c5 H
   ·rw [if_neg c4] at H
    have c4b0 : decide (x4_1 < (l0.length : Int)) = false := decide_eq_false c4
    clear c4
    obtain rfl := Option.some.inj H
    go_wp2
    go_ret
    exact ⟨_, by first | rfl | (simp [errW_none, errW_some] <;> rfl) | (simp [*, errW_none, errW_some] <;> rfl), rS (h := by exact HO_3.out), bt⟩

/-! ### spec_l1Once: function 65 -/
def spec_l1Once.f (s0_0 : List Int) (s0_1 : Int) (s0_2 : Int) (a1 : Int) : Option (Bool × Int × Int) := (spec_l1Below.f s0_0 s0_1 s0_2 a1).bind fun bt413 => (some ((bt413.1 == 0), bt413.2.1, bt413.2.2))
theorem spec_l1Once.calls (g : Nat) (s0_0 : List Int) (s0_1 : Int) (s0_2 : Int) (a1 : Int) (r1 : Bool) (r2 : Int) (r3 : Int) (w0 w : World) (hI : IsS113 w0 w g s0_0 s0_1 s0_2) (hB : Below w0.heap.size w0 w) (h : spec_l1Once.f s0_0 s0_1 s0_2 a1 = some (r1, r2, r3)) :
  Calls Try.prog 65 #[.pointer (some ⟨g, 0, none⟩), .int .i64 a1] w fun e w' => e = .returned (.bool r1) ∧ IsS113 w0 w' g s0_0 r2 r3 ∧ Below w0.heap.size w0 w' ∧ KeepBut w w' g none := by
 have HI0 := am hI
 have HK := am (KeepBut.refl w g none)
 have HL := am hB.size
 clear hI
 have HW0 := am hB.size
 have HB := am hB
 clear hB
 have H : ((spec_l1Below.f s0_0 s0_1 s0_2 a1).bind fun bt413 => (some ((bt413.1 == 0), bt413.2.1, bt413.2.2))) = some (r1, r2, r3) := h
 clear h
 obtain ⟨⟨t413, t414, t415⟩, A3, H⟩ := bm H
 (try dsimp -simprocs only at H)
 simp only [Option.some.injEq, Prod.mk.injEq] at H
 obtain ⟨rfl, rfl, rfl⟩ := H
 go_enter Try.func65, Try.ntmps65
 go_wp2_with (first | ((with_reducible refine gate_callee (f := 53) rfl ?_); refine goesL_ (some 7) rfl rfl Try.func53 (by kernel_rfl) rfl #[.pointer (some ⟨g, 0, none⟩), .int .i64 a1] rfl av ?_; (with_reducible refine (spec_l1Below.calls g s0_0 s0_1 s0_2 a1 t413 t414 t415 w0 _ ?side1 ?side2 A3.out).mono ?_); (case side1 => exact si113_); (case side2 => exact b1 (IsS113.ge HI0.out)); rintro e w4 ⟨rfl, hi, hb, hk⟩; refine ⟨_, rfl, ?_⟩; replace HK := am (KeepBut.trans (kp) hk (.inl rfl)); replace HB := am (hb); replace HI0 := am (hi); (try clear hb); (try clear hb2); (try clear hk); (try clear hi)))
 go_ret
 exact ⟨by first | rfl | (simp [errW_none, errW_some] <;> rfl) | (simp [*, errW_none, errW_some] <;> rfl), si113_, b1 (IsS113.ge HI0.out), kp⟩

/-! ### spec_l1In: function 97 -/
def spec_l1In.f (a0 : Int) (a1 : Int) (a2 : Int) : Option (Bool) := if a0 ≥ a1 then (some (decide (a0 ≤ a2))) else (some false)
theorem spec_l1In.calls (a0 : Int) (a1 : Int) (a2 : Int) (r : Bool) (w : World) (h : spec_l1In.f a0 a1 a2 = some r) :
  Calls Try.prog 97 #[.int .i64 a0, .int .i64 a1, .int .i64 a2] w fun e w' => e = .returned (.bool r) ∧ Drawn0 w w' := by
 have H : (if a0 ≥ a1 then (some (decide (a0 ≤ a2))) else (some false)) = some r := h
 clear h
 by_cases c4 : a0 ≥ a1
 ·rw [if_pos c4] at H
  have c4b0 : decide (a1 ≤ a0) = true := decide_eq_true c4
  clear c4
  obtain rfl := Option.some.inj H
  go_enter Try.func97, Try.ntmps97
  go_wp2
  go_ret
  exact ⟨e0, by repeat (first | exact Drawn0.refl _ | apply Drawn0.step)⟩
 ·rw [if_neg c4] at H
  have c4b0 : decide (a1 ≤ a0) = false := decide_eq_false c4
  clear c4
  obtain rfl := Option.some.inj H
  go_enter Try.func97, Try.ntmps97
  go_wp2
  go_ret
  exact ⟨e0, by repeat (first | exact Drawn0.refl _ | apply Drawn0.step)⟩

/-! ### spec_l2Leaves: function 110 -/
def spec_l2Leaves.l0 : Nat → Int → List (List Int) → Int → Option (Bool)
 | 0, _, _, _ => none
 | k + 1, x0, x1, x5 => if x5 < (x1.length : Int) then (if 0 ≤ x5 then (if ((rd_L1 x1 x5).length : Int) ≥ 4000 then (some false) else (spec_l2Leaves.l0 k x0 x1 (wrap64 (x5 + 1)))) else (none)) else ((spec_l1In.f x0 2 60).bind fun t417 => (if t417 = true then ((spec_l1In.f (x1.length : Int) 1 16).bind fun t418 => (some t418)) else (some false)))
def spec_l2Leaves.f (k : Nat) (a0 : Int) (l1 : List (List Int)) : Option (Bool) := spec_l2Leaves.l0 k a0 l1 0
theorem spec_l2Leaves.calls (k : Nat) (a0 : Int) (A1 : Option Addr) (c1 : Nat) (l1 : List (List Int)) (r : Bool) (w : World) (hr1 : Kd.C (Kd.slice 5 (Kd.int .u8)) w A1 l1.length l1) (hc1 : l1.length ≤ c1) (h : spec_l2Leaves.f k a0 l1 = some r) :
  Calls Try.prog 110 #[.int .i64 a0, .slice A1 l1.length c1] w fun e w' => e = .returned (.bool r) ∧ Drawn0 w w' := by
 have HR1 := am hr1
 have HC1 := am hc1
 clear hr1 hc1
 have H : (spec_l2Leaves.l0 k a0 l1 0) = some r := h
 clear h
 have H' := am H
 clear H
 go_enter Try.func110, Try.ntmps110
 go_wp2
 go_loopg [5] k (fun kq v5 w' => ∃ (x5_1 : Int), v5 = .int .i64 x5_1 ∧ Aside0 (spec_l2Leaves.l0 kq a0 l1 x5_1 = some r) ∧ Aside0 (kq ≤ k) ∧ Drawn0 w w')
 case atStart => exact ⟨(0), e0, H', ⟨Nat.le_refl _⟩, by repeat (first | exact Drawn0.refl _ | apply Drawn0.step)⟩
 case round =>
  clear H'
  obtain ⟨x5_1, rfl, HA, HK1, ⟨m1, rfl⟩⟩ := hrel
  cases gk with
  | zero => exact absurd HA.out (by simp [spec_l2Leaves.l0])
  | succ k1 =>
   have H := HA.out
   clear HA
   simp only [spec_l2Leaves.l0] at H
   by_cases c3 : x5_1 < (l1.length : Int)
   ·rw [if_pos c3] at H
    have c3b0 : decide (x5_1 < (l1.length : Int)) = true := decide_eq_true c3
    clear c3
    by_cases c4 : 0 ≤ x5_1
    ·rw [if_pos c4] at H
     have c4b0 : decide (0 ≤ x5_1) = true := decide_eq_true c4
     clear c4
     by_cases c5 : ((rd_L1 l1 x5_1).length : Int) ≥ 4000
     ·rw [if_pos c5] at H
      have c5b0 : decide (4000 ≤ ((rd_L1 l1 x5_1).length : Int)) = true := decide_eq_true c5
      have c5b1 : decide (4000 ≤ (rd_L1 l1 x5_1).length) = true := decide_eq_true (by omega)
      clear c5
      obtain rfl := Option.some.inj H
      have p416 : 0 ≤ (x5_1 : Int) := of_decide_eq_true asm
      have q416 : x5_1 < (l1.length : Int) := of_decide_eq_true asm
      obtain ⟨ad416, A416_0, c416_0, e416, hx416_0, hl416_0, hi416_0⟩ := at_L1 HR1.out x5_1 p416 q416
      cases e416
      have HR416_0 := am hi416_0
      have HC416_0 := am hl416_0
      clear hi416_0 hl416_0
      replace p416 := eq_true p416
      replace q416 := eq_true q416
      go_wp2
      go_ret
      exact ⟨e0, by repeat (first | exact Drawn0.refl _ | apply Drawn0.step)⟩
     ·rw [if_neg c5] at H
      have c5b0 : decide (4000 ≤ ((rd_L1 l1 x5_1).length : Int)) = false := decide_eq_false c5
      have c5b1 : decide (4000 ≤ (rd_L1 l1 x5_1).length) = false := decide_eq_false (by omega)
      clear c5
      have H' := am H
      clear H
      have p416 : 0 ≤ (x5_1 : Int) := of_decide_eq_true asm
      have q416 : x5_1 < (l1.length : Int) := of_decide_eq_true asm
      obtain ⟨ad416, A416_0, c416_0, e416, hx416_0, hl416_0, hi416_0⟩ := at_L1 HR1.out x5_1 p416 q416
      cases e416
      have HR416_0 := am hi416_0
      have HC416_0 := am hl416_0
      clear hi416_0 hl416_0
      replace p416 := eq_true p416
      replace q416 := eq_true q416
      go_wp2
      go_roundg k1
      case measure => have := HK1.out; omega
      case rel => exact ⟨(wrap64 (x5_1 + 1)), e0, H', ⟨by have := HK1.out; omega⟩, by repeat (first | exact Drawn0.refl _ | apply Drawn0.step)⟩
    ·exact nh c4 H
   ·rw [if_neg c3] at H
    have c3b0 : decide (x5_1 < (l1.length : Int)) = false := decide_eq_false c3
    clear c3
    obtain ⟨t417, A6, H⟩ := bm H
    (try dsimp -simprocs only at H)
    by_cases c7 : t417 = true
    ·subst c7
     rw [if_pos rfl] at H
     obtain ⟨t418, A8, H⟩ := bm H
     (try dsimp -simprocs only at H)
     obtain rfl := Option.some.inj H
     go_wp2_with (first | ((with_reducible refine gate_callee (f := 97) rfl ?_); refine goesL_ (some 19) rfl rfl Try.func97 (by kernel_rfl) rfl #[.int .i64 a0, .int .i64 2, .int .i64 60] rfl av ?_; (with_reducible refine (spec_l1In.calls a0 2 60 true _ A6.out).mono ?_); rintro e w' ⟨rfl, ⟨nd, rfl⟩⟩; refine ⟨_, rfl, ?_⟩) | (go_at_call 97; (with_reducible refine (spec_l1In.calls (l1.length : Int) 1 16 t418 _ A8.out).mono ?_); rintro e w' ⟨rfl, ⟨nd, rfl⟩⟩))
     go_ret
     exact ⟨e0, by repeat (first | exact Drawn0.refl _ | apply Drawn0.step)⟩
    ·replace c7 := Bool.eq_false_iff.mpr c7
     subst c7
     rw [if_neg nft] at H
     obtain rfl := Option.some.inj H
     go_wp2_with (first | ((with_reducible refine gate_callee (f := 97) rfl ?_); refine goesL_ (some 19) rfl rfl Try.func97 (by kernel_rfl) rfl #[.int .i64 a0, .int .i64 2, .int .i64 60] rfl av ?_; (with_reducible refine (spec_l1In.calls a0 2 60 false _ A6.out).mono ?_); rintro e w' ⟨rfl, ⟨nd, rfl⟩⟩; refine ⟨_, rfl, ?_⟩))
     go_ret
     exact ⟨e0, by repeat (first | exact Drawn0.refl _ | apply Drawn0.step)⟩

/-! ### spec_l1Turn: function 145 -/
def spec_l1Turn.f (a0 : Int) (a1 : Int) : Option (Int) := if 0 ≤ a1 then (if 0 ≤ (wrap64 (64 - a1)) then (some (Go.bits .or .u64 (shl .u64 a0 a1) (shr .u64 a0 (wrap64 (64 - a1))))) else (none)) else (none)
theorem spec_l1Turn.calls (a0 : Int) (a1 : Int) (r : Int) (w : World) (h : spec_l1Turn.f a0 a1 = some r) :
  Calls Try.prog 145 #[.int .u64 a0, .int .i64 a1] w fun e w' => e = .returned (.int .u64 r) ∧ Drawn0 w w' := by
 have H : (if 0 ≤ a1 then (if 0 ≤ (wrap64 (64 - a1)) then (some (Go.bits .or .u64 (shl .u64 a0 a1) (shr .u64 a0 (wrap64 (64 - a1))))) else (none)) else (none)) = some r := h
 clear h
 by_cases c3 : 0 ≤ a1
 ·rw [if_pos c3] at H
  have c3b0 := eq_true c3
  have c3b1 : decide (0 ≤ a1) = true := decide_eq_true c3
  clear c3
  obtain ⟨ji4, hji4⟩ : ∃ j_ : Int, (shl .u64 a0 a1) = j_ := ⟨_, rfl⟩
  replace H : (if 0 ≤ (wrap64 (64 - a1)) then (some (Go.bits .or .u64 (ji4) (shr .u64 a0 (wrap64 (64 - a1))))) else (none)) = some r := by first | (rw [hji4] at H; exact H) | (simp only [hji4] at H ⊢; exact H)
  have hji4_ : (IntKind.u64.wrap (a0 * 2 ^ min a1.toNat 64)) = ji4 := hji4
  have hji4z : a1 ≤ 64 → (IntKind.u64.wrap (a0 * 2 ^ a1.toNat)) = ji4 := shl_small hji4
  obtain ⟨ji5, hji5⟩ : ∃ j_ : Int, (wrap64 (64 - a1)) = j_ := ⟨_, rfl⟩
  replace H : (if 0 ≤ (ji5) then (some (Go.bits .or .u64 (ji4) (shr .u64 a0 (ji5)))) else (none)) = some r := by first | (rw [hji5] at H; exact H) | (simp only [hji5] at H ⊢; exact H)
  have hji5w : (IntKind.i64.wrap (64 - a1)) = ji5 := (i64_w _).trans hji5
  by_cases c6 : 0 ≤ (ji5)
  ·rw [if_pos c6] at H
   have c6b0 := eq_true c6
   have c6b1 : decide (0 ≤ (ji5)) = true := decide_eq_true c6
   clear c6
   obtain ⟨ji7, hji7⟩ : ∃ j_ : Int, (shr .u64 a0 (ji5)) = j_ := ⟨_, rfl⟩
   replace H : (some (Go.bits .or .u64 (ji4) (ji7))) = some r := by first | (rw [hji7] at H; exact H) | (simp only [hji7] at H ⊢; exact H)
   have hji7_ : (a0 / 2 ^ min (ji5).toNat 64) = ji7 := hji7
   have hji7z : (ji5) ≤ 64 → (a0 / 2 ^ (ji5).toNat) = ji7 := shr_small hji7
   obtain rfl := Option.some.inj H
   go_enter Try.func145, Try.ntmps145
   go_wp2
   repeat (go_quiet (fail); try go_wp2)
   go_ret
   exact ⟨by first | rfl | (simp; done) | (simp only [← hji4, ← hji5, ← hji7] <;> (first | rfl | simp)) | (simp [*]; done), by repeat (first | exact Drawn0.refl _ | apply Drawn0.step)⟩
  ·exact nh c6 H
 ·exact nh c3 H

end Go.Proofs.Ytchjajbkaiefdaa.PFnMany
