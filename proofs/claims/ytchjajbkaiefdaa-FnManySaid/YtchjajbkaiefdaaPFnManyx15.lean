-- Written by a program of this workplace (wip/mp.py) out of the translation.
import Derived.Test.YtchjajbkaiefdaaPFnManyx0
import Derived.Test.YtchjajbkaiefdaaPFnManyx8
import Derived.Test.YtchjajbkaiefdaaPFnManyx9
import Derived.Test.YtchjajbkaiefdaaPFnManyx10
import Derived.Test.YtchjajbkaiefdaaPFnManyx11
import Derived.Test.YtchjajbkaiefdaaPFnManyx12
import Derived.Test.YtchjajbkaiefdaaPFnManyx14
namespace Go.Proofs.Ytchjajbkaiefdaa.PFnMany
open Go.RowKit Go.Proofs.YtchjajbkaiefdaaW.PrintWords Go.Proofs.YtchjajbkaiefdaaW.PrintLast Go.Proofs.YtchjajbkaiefdaaW.PrintMore Go.Proofs.Ytchjajbkaiefdaa.Slim
attribute [local go_sem] max2_int min2_int max_two min_two max_three min_three max_four min_four   -- for this text's walks alone
set_option maxHeartbeats 8000000
set_option maxRecDepth 100000
set_option linter.unusedVariables false
set_option linter.unusedSimpArgs false

/-! ### spec_ManyFrom: function 125 -/
mutual
def spec_ManyFrom.j0 : Nat → Int → Int → List Int → List (List Int) → List Int → Bool → Option (Int)
 | 0, _, _, _, _, _, _ => none
 | k + 1, x0, x1, x2, x3, x4, x38 => if x38 = true then (some (-1)) else (spec_ManyFrom.l0 k x0 x1 x2 x3 x4 (([] : List Int)) 0)
def spec_ManyFrom.l0 : Nat → Int → Int → List Int → List (List Int) → List Int → List Int → Int → Option (Int)
 | 0, _, _, _, _, _, _, _ => none
 | k + 1, x0, x1, x2, x3, x4, x11, x12 => if x12 < (x3.length : Int) then (if 0 ≤ x12 then (if ((rd_L1 x3 x12).length : Int) ≥ 4000 then (some (-1)) else ((spec_LeafOf.f k x0 (rd_L1 x3 x12)).bind fun t635 => (if x11.length < 17592186044416 then (spec_ManyFrom.l0 k x0 x1 x2 x3 x4 (x11 ++ [t635]) (wrap64 (x12 + 1))) else (none)))) else (none)) else (spec_ManyFrom.l1 k x0 x1 x2 x4 x11 x1)
def spec_ManyFrom.l1 : Nat → Int → Int → List Int → List Int → List Int → Int → Option (Int)
 | 0, _, _, _, _, _, _ => none
 | k + 1, x0, x1, x2, x4, x11, x13 => if x13 > 1 then ((spec_l2Up.f k x0 x13 x2 x11 x4).bind fun bt639 => (if bt639.2.2.2 = true then (spec_ManyFrom.l1 k x0 x1 bt639.1 bt639.2.2.1 bt639.2.1 (wrap64 (Int.tdiv (wrap64 (x13 + 1)) 2))) else (some (-1)))) else (if (x4.length : Int) = 0 then (if 0 < (x11.length : Int) then ((spec_l2Top.f k x1 (rd x11 0)).bind fun t650 => ((spec_Digest.f k x0 t650).bind fun t653 => (some t653))) else (none)) else (some (-1)))
end
def spec_ManyFrom.f (k : Nat) (a0 : Int) (a1 : Int) (l2 : List Int) (l3 : List (List Int)) (l4 : List Int) : Option (Int) := (spec_l1In.f a0 2 60).bind fun t627 => (if t627 = true then ((spec_l1In.f a1 1 16).bind fun t628 => (if t628 = true then ((spec_l2Places.f k a1 l2).bind fun t629 => (if t629 = true then (spec_ManyFrom.j0 k a0 a1 l2 l3 l4 ((l3.length : Int) != (l2.length : Int))) else (spec_ManyFrom.j0 k a0 a1 l2 l3 l4 true))) else (spec_ManyFrom.j0 k a0 a1 l2 l3 l4 true))) else (spec_ManyFrom.j0 k a0 a1 l2 l3 l4 true))
theorem spec_ManyFrom.calls (k : Nat) (a0 : Int) (a1 : Int) (P2_ : Nat → Prop) (A2 : Option Addr) (c2 : Nat) (l2 : List Int) (A3 : Option Addr) (c3 : Nat) (l3 : List (List Int)) (P4_ : Nat → Prop) (A4 : Option Addr) (c4 : Nat) (l4 : List Int) (r : Int) (w : World) (hs2 : Kd.V (Kd.int .i64) 3 w w.heap.size (fun k_ => P2_ k_) (.slice A2 l2.length c2) l2) (hr3 : Kd.C (Kd.slice 5 (Kd.int .u8)) w A3 l3.length l3) (hc3 : l3.length ≤ c3) (hs4 : Kd.V (Kd.int .i64) 3 w w.heap.size (fun k_ => P4_ k_) (.slice A4 l4.length c4) l4) (h : spec_ManyFrom.f k a0 a1 l2 l3 l4 = some r) :
  Calls Try.prog 125 #[.int .i64 a0, .int .i64 a1, .slice A2 l2.length c2, .slice A3 l3.length c3, .slice A4 l4.length c4] w fun e w' => e = .returned (.int .i64 r) ∧ Below w.heap.size w w' := by
 have HO2 := am (show Kd.V (Kd.int .i64) 3 w w.heap.size (fun k_ => ((P2_ k_ ∨ P4_ k_) ∨ w.heap.size ≤ k_)) (.slice A2 l2.length c2) l2 from Kd.V_mono hs2 (fun k_ hk => .inl (.inl hk)))
 have HR3 := am hr3
 have HC3 := am hc3
 clear hr3 hc3
 have HO4 := am (show Kd.V (Kd.int .i64) 3 w w.heap.size (fun k_ => ((P2_ k_ ∨ P4_ k_) ∨ w.heap.size ≤ k_)) (.slice A4 l4.length c4) l4 from Kd.V_mono hs4 (fun k_ hk => .inl (.inr hk)))
 have HB := am (Below.refl w.heap.size w)
 have H : ((spec_l1In.f a0 2 60).bind fun t627 => (if t627 = true then ((spec_l1In.f a1 1 16).bind fun t628 => (if t628 = true then ((spec_l2Places.f k a1 l2).bind fun t629 => (if t629 = true then (spec_ManyFrom.j0 k a0 a1 l2 l3 l4 ((l3.length : Int) != (l2.length : Int))) else (spec_ManyFrom.j0 k a0 a1 l2 l3 l4 true))) else (spec_ManyFrom.j0 k a0 a1 l2 l3 l4 true))) else (spec_ManyFrom.j0 k a0 a1 l2 l3 l4 true))) = some r := h
 clear h
 have HC6 := am H
 clear H
 go_enter Try.func125, Try.ntmps125
 go_upto_region 1 with (fail)
 go_cut [38] (fun v38 wc => ∃ (kq : Nat) (x38_5 : Bool), v38 = .bool x38_5 ∧ Aside0 (spec_ManyFrom.j0 kq a0 a1 l2 l3 l4 x38_5 = some r) ∧ Aside0 (kq ≤ k) ∧ Aside0 (Kd.V (Kd.int .i64) 3 wc w.heap.size (fun k_ => ((P2_ k_ ∨ P4_ k_) ∨ w.heap.size ≤ k_)) (.slice A2 l2.length c2) l2) ∧ Aside0 (Kd.V (Kd.int .i64) 3 wc w.heap.size (fun k_ => ((P2_ k_ ∨ P4_ k_) ∨ w.heap.size ≤ k_)) (.slice A4 l4.length c4) l4) ∧ Aside0 (Below w.heap.size w wc))
 case first =>
  have H := HC6.out
  clear HC6
  obtain ⟨t627, A7, H⟩ := bm H
  (try dsimp -simprocs only at H)
  by_cases c8 : t627 = true
  ·subst c8
   rw [if_pos rfl] at H
   obtain ⟨t628, A9, H⟩ := bm H
   (try dsimp -simprocs only at H)
   by_cases c10 : t628 = true
   ·subst c10
    rw [if_pos rfl] at H
    obtain ⟨t629, A11, H⟩ := bm H
    (try dsimp -simprocs only at H)
    by_cases c12 : t629 = true
    ·subst c12
     rw [if_pos rfl] at H
     have H' := am H
     clear H
     go_wp2_with (first | ((with_reducible refine gate_callee (f := 97) rfl ?_); refine goesL_ (some 19) rfl rfl Try.func97 (by kernel_rfl) rfl #[.int .i64 a0, .int .i64 2, .int .i64 60] rfl av ?_; (with_reducible refine (spec_l1In.calls a0 2 60 true _ A7.out).mono ?_); rintro e w' ⟨rfl, ⟨nd, rfl⟩⟩; refine ⟨_, rfl, ?_⟩) | (go_at_call 97; (with_reducible refine (spec_l1In.calls a1 1 16 true _ A9.out).mono ?_); rintro e w' ⟨rfl, ⟨nd, rfl⟩⟩) | (go_at_call 123; (with_reducible refine (spec_l2Places.calls k a1 _ _ l2 true _ ?side1 ?side2 A11.out).mono ?_); (case side1 => exact cv ((Kd.V_reads' HO2.out).2.2)); (case side2 => exact (Kd.V_reads' HO2.out).2.1); rintro e w' ⟨rfl, ⟨nd, rfl⟩⟩))
     go_meet
     case rel => exact ⟨_, (((l3.length : Int) != (l2.length : Int))), e0, H', ⟨by first | omega | exact Nat.le_refl _⟩, ⟨mv HO2.out⟩, ⟨mv HO4.out⟩, ⟨bt⟩⟩
    ·replace c12 := Bool.eq_false_iff.mpr c12
     subst c12
     rw [if_neg nft] at H
     have H' := am H
     clear H
     go_wp2_with (first | ((with_reducible refine gate_callee (f := 97) rfl ?_); refine goesL_ (some 19) rfl rfl Try.func97 (by kernel_rfl) rfl #[.int .i64 a0, .int .i64 2, .int .i64 60] rfl av ?_; (with_reducible refine (spec_l1In.calls a0 2 60 true _ A7.out).mono ?_); rintro e w' ⟨rfl, ⟨nd, rfl⟩⟩; refine ⟨_, rfl, ?_⟩) | (go_at_call 97; (with_reducible refine (spec_l1In.calls a1 1 16 true _ A9.out).mono ?_); rintro e w' ⟨rfl, ⟨nd, rfl⟩⟩) | (go_at_call 123; (with_reducible refine (spec_l2Places.calls k a1 _ _ l2 false _ ?side1 ?side2 A11.out).mono ?_); (case side1 => exact cv ((Kd.V_reads' HO2.out).2.2)); (case side2 => exact (Kd.V_reads' HO2.out).2.1); rintro e w' ⟨rfl, ⟨nd, rfl⟩⟩))
     go_meet
     case rel => exact ⟨_, (true), e0, H', ⟨by first | omega | exact Nat.le_refl _⟩, ⟨mv HO2.out⟩, ⟨mv HO4.out⟩, ⟨bt⟩⟩
   ·replace c10 := Bool.eq_false_iff.mpr c10
    subst c10
    rw [if_neg nft] at H
    have H' := am H
    clear H
    go_wp2_with (first | ((with_reducible refine gate_callee (f := 97) rfl ?_); refine goesL_ (some 19) rfl rfl Try.func97 (by kernel_rfl) rfl #[.int .i64 a0, .int .i64 2, .int .i64 60] rfl av ?_; (with_reducible refine (spec_l1In.calls a0 2 60 true _ A7.out).mono ?_); rintro e w' ⟨rfl, ⟨nd, rfl⟩⟩; refine ⟨_, rfl, ?_⟩) | (go_at_call 97; (with_reducible refine (spec_l1In.calls a1 1 16 false _ A9.out).mono ?_); rintro e w' ⟨rfl, ⟨nd, rfl⟩⟩))
    go_meet
    case rel => exact ⟨_, (true), e0, H', ⟨by first | omega | exact Nat.le_refl _⟩, ⟨mv HO2.out⟩, ⟨mv HO4.out⟩, ⟨bt⟩⟩
  ·replace c8 := Bool.eq_false_iff.mpr c8
   subst c8
   rw [if_neg nft] at H
   have H' := am H
   clear H
   go_wp2_with (first | ((with_reducible refine gate_callee (f := 97) rfl ?_); refine goesL_ (some 19) rfl rfl Try.func97 (by kernel_rfl) rfl #[.int .i64 a0, .int .i64 2, .int .i64 60] rfl av ?_; (with_reducible refine (spec_l1In.calls a0 2 60 false _ A7.out).mono ?_); rintro e w' ⟨rfl, ⟨nd, rfl⟩⟩; refine ⟨_, rfl, ?_⟩))
   go_meet
   case rel => exact ⟨_, (true), e0, H', ⟨by first | omega | exact Nat.le_refl _⟩, ⟨mv HO2.out⟩, ⟨mv HO4.out⟩, ⟨bt⟩⟩
 case rest =>
  clear HC6
  obtain ⟨kq, x38_5, rfl, HA, HJ5, HO_2, HO_4, HB⟩ := hcut
  cases kq with
  | zero => exact absurd HA.out (by simp [spec_ManyFrom.j0])
  | succ kj5 =>
   have H := HA.out
   clear HA
   simp only [spec_ManyFrom.j0] at H
   by_cases c13 : x38_5 = true
   ·subst c13
    rw [if_pos rfl] at H
    obtain rfl := Option.some.inj H
    go_wp2
    go_ret
    exact ⟨by first | rfl | (simp [errW_none, errW_some] <;> rfl) | (simp [*, errW_none, errW_some] <;> rfl), bt⟩
   ·replace c13 := Bool.eq_false_iff.mpr c13
    subst c13
    rw [if_neg nft] at H
    obtain ⟨y630, hy630⟩ : ∃ y_ : List Int, y_ = (([] : List Int)) := ⟨_, rfl⟩
    replace H : (spec_ManyFrom.l0 kj5 a0 a1 l2 l3 l4 y630 0) = some r := by first | (rw [hy630]; exact H) | exact H
    have Ny630 := am hy630
    clear hy630
    have H' := am H
    clear H
    go_wp2_with (first | ((with_reducible refine gate_dst (N := 39) rfl ?_); (try (refine gate_guard (by rfl) ?_; dsimp only)); refine Kd.R_lit (Kd.int .i64) _ 3 ?hg (N := 39) ?hd (xs := ([] : List Int)) (inner := []) (ok := fun _ => True) (okp := fun _ => True) ?hr ?hp (fun _ hk => hk) trivial (Below.refl _ _) (Nat.le_refl _) (by simp) ?_; (case hd => rfl); (case hg => rfl); (case hr => first | (go_simp; done) | (go_simp; rfl)); (case hp => exact (Reps.none _ _)); intro v631 w14 ho15 hb hg_ hnew_; clear hg_ hnew_; (first | rw [← Ny630.out] at ho15 | (simp only [Int.reduceToNat] at ho15; rw [← Ny630.out] at ho15)); replace HO_2 := am (Kd.V_elder' (mv HO_2.out) (Kd.R_base ho15) hb); replace HO_4 := am (Kd.V_elder' (mv HO_4.out) (Kd.R_base ho15) hb); have HO632 := am (Kd.R_lower (Kd.R_newM (M := fun k_ => (w.heap.size ≤ k_)) ho15 (below_size (bt)) (fun k_ h_ => h_)) (below_size (bt))); replace HB := am (below_step (bt) hb); clear hb ho15))
    go_loopg [11, 12] kj5 (fun kq v11 v12 w' => ∃ (x11_2 : List Int) (x12_2 : Int), v12 = .int .i64 x12_2 ∧ Aside0 (spec_ManyFrom.l0 kq a0 a1 l2 l3 l4 x11_2 x12_2 = some r) ∧ Aside0 (kq ≤ kj5) ∧ Aside0 (Kd.V (Kd.int .i64) 3 w' w.heap.size (fun k_ => ((P2_ k_ ∨ P4_ k_) ∨ w.heap.size ≤ k_) ∧ nb k_ v11) (.slice A2 l2.length c2) l2) ∧ Aside0 (Kd.V (Kd.int .i64) 3 w' w.heap.size (fun k_ => ((P2_ k_ ∨ P4_ k_) ∨ w.heap.size ≤ k_) ∧ nb k_ v11) (.slice A4 l4.length c4) l4) ∧ Aside0 (Kd.R (Kd.int .i64) 3 w' w.heap.size (fun k_ => (w.heap.size ≤ k_)) v11 x11_2) ∧ Aside0 (Below w.heap.size w w'))
    case atStart => exact ⟨(y630), (0), e0, H', ⟨Nat.le_refl _⟩, ⟨mv HO_2.out⟩, ⟨mv HO_4.out⟩, ⟨rR (h := by exact Kd.R_mono HO632.out (fun _ hk => hk.1))⟩, ⟨bt⟩⟩
    case round =>
     clear H'
     obtain ⟨x11_2, x12_2, rfl, HA, HK2, HO_2, HO_4, HO_11, HB⟩ := hrel
     cases gk with
     | zero => exact absurd HA.out (by simp [spec_ManyFrom.l0])
     | succ k2 =>
      have H := HA.out
      clear HA
      simp only [spec_ManyFrom.l0] at H
      by_cases c16 : x12_2 < (l3.length : Int)
      ·rw [if_pos c16] at H
       have c16b0 : decide (x12_2 < (l3.length : Int)) = true := decide_eq_true c16
       clear c16
       by_cases c17 : 0 ≤ x12_2
       ·rw [if_pos c17] at H
        have c17b0 : decide (0 ≤ x12_2) = true := decide_eq_true c17
        clear c17
        by_cases c18 : ((rd_L1 l3 x12_2).length : Int) ≥ 4000
        ·rw [if_pos c18] at H
         have c18b0 : decide (4000 ≤ ((rd_L1 l3 x12_2).length : Int)) = true := decide_eq_true c18
         have c18b1 : decide (4000 ≤ (rd_L1 l3 x12_2).length) = true := decide_eq_true (by omega)
         clear c18
         obtain rfl := Option.some.inj H
         have p633 : 0 ≤ (x12_2 : Int) := of_decide_eq_true asm
         have q633 : x12_2 < (l3.length : Int) := of_decide_eq_true asm
         obtain ⟨ad633, A633_0, c633_0, e633, hx633_0, hl633_0, hi633_0⟩ := at_L1 HR3.out x12_2 p633 q633
         cases e633
         replace hx633_0 := (HB.out.cell (World.block_lt_of_cell? w _ hx633_0)).trans hx633_0
         have HR633_0 := am hi633_0
         have HC633_0 := am hl633_0
         clear hi633_0 hl633_0
         replace p633 := eq_true p633
         replace q633 := eq_true q633
         go_wp2
         go_ret
         exact ⟨by first | rfl | (simp [errW_none, errW_some] <;> rfl) | (simp [*, errW_none, errW_some] <;> rfl), bt⟩
        ·rw [if_neg c18] at H
         have c18b0 : decide (4000 ≤ ((rd_L1 l3 x12_2).length : Int)) = false := decide_eq_false c18
         have c18b1 : decide (4000 ≤ (rd_L1 l3 x12_2).length) = false := decide_eq_false (by omega)
         clear c18
         obtain ⟨t635, A19, H⟩ := bm H
         (try dsimp -simprocs only at H)
         by_cases c20 : x11_2.length < 17592186044416
         ·rw [if_pos c20] at H
          have LMc20 := am c20
          clear c20
          obtain ⟨y636, hy636⟩ : ∃ y_ : List Int, y_ = (x11_2 ++ [t635]) := ⟨_, rfl⟩
          replace H : (spec_ManyFrom.l0 k2 a0 a1 l2 l3 l4 y636 (wrap64 (x12_2 + 1))) = some r := by first | (rw [hy636]; exact H) | exact H
          have Ny636 := am hy636
          clear hy636
          have H' := am H
          clear H
          have p633 : 0 ≤ (x12_2 : Int) := of_decide_eq_true asm
          have q633 : x12_2 < (l3.length : Int) := of_decide_eq_true asm
          obtain ⟨ad633, A633_0, c633_0, e633, hx633_0, hl633_0, hi633_0⟩ := at_L1 HR3.out x12_2 p633 q633
          cases e633
          replace hx633_0 := (HB.out.cell (World.block_lt_of_cell? w _ hx633_0)).trans hx633_0
          have HR633_0 := am hi633_0
          have HC633_0 := am hl633_0
          clear hi633_0 hl633_0
          replace p633 := eq_true p633
          replace q633 := eq_true q633
          have p634 : 0 ≤ (x12_2 : Int) := of_decide_eq_true asm
          have q634 : x12_2 < (l3.length : Int) := of_decide_eq_true asm
          obtain ⟨ad634, A634_0, c634_0, e634, hx634_0, hl634_0, hi634_0⟩ := at_L1 HR3.out x12_2 p634 q634
          obtain rfl : ad633 = ad634 := (by injection e634)
          replace hx634_0 := (HB.out.cell (World.block_lt_of_cell? w _ hx634_0)).trans hx634_0
          have HR634_0 := am hi634_0
          have HC634_0 := am hl634_0
          clear hi634_0 hl634_0
          replace p634 := eq_true p634
          replace q634 := eq_true q634
          have ea_ := Option.some.inj (hx633_0.symm.trans hx634_0)
          injection ea_ with ea_ en_ ec_
          subst ea_
          subst ec_
          clear en_
          go_wp2_with (first | ((with_reducible refine gate_callee (f := 117) rfl ?_); refine goesL_ (some 58) rfl rfl Try.func117 (by kernel_rfl) rfl #[.int .i64 a0, .slice A633_0 (rd_L1 l3 x12_2).length c633_0] rfl av ?_; (with_reducible refine (spec_LeafOf.calls k2 a0 _ _ (rd_L1 l3 x12_2) t635 _ ?side1 ?side2 A19.out).mono ?_); (case side1 => exact cv ((Kd.C_below HR634_0.out HB.out))); (case side2 => exact HC634_0.out); rintro e w21 ⟨rfl, hb⟩; refine ⟨_, rfl, ?_⟩; replace HO_2 := am (Kd.V_below (mv HO_2.out) hb); replace HO_4 := am (Kd.V_below (mv HO_4.out) hb); replace HO_11 := am (Kd.R_below (mv HO_11.out) hb); replace HB := am (below_step (bt) hb); (try clear hb); (try clear hb2); (try clear hk); (try clear hi)) | ((with_reducible refine gate_builtin (b := .append) (xs := #[.tmp 52, .tmp 59]) rfl ?_); (try (refine gate_guard (by rfl) ?_; dsimp only)); at_builtin; refine Kd.R_append (Kd.int .i64) (w0 := w) w.heap.size rfl (.tmp 52) (.tmp 59) 29 3 (.int .i64 0) 8 rfl Try.underlying29 info3 rfl (by decide) (by omega) u11 x11_2 t635 [.int .i64 t635] (fun k_ => (w.heap.size ≤ k_)) (fun _ => False) rfl rfl ?aP (fun _ hk => hk.elim) ?aF ?aO ?aB ?aS ?aL ?_; (case aP => exact rfl); (case aB => exact (bt)); (case aF => exact (fun k_ hk => (Nat.le_trans (below_size (bt)) hk))); (case aO => exact (mv HO_11.out)); (case aS => exact (below_size (bt))); (case aL => have := LMc20.out; omega); intro v637 w22 ho hb hg hat; rw [← Ny636.out] at ho; replace HO_2 := am (Kd.V_afterv (ok := (fun k_ => ((P2_ k_ ∨ P4_ k_) ∨ w.heap.size ≤ k_))) (mv HO_2.out) hg hat); replace HO_4 := am (Kd.V_afterv (ok := (fun k_ => ((P2_ k_ ∨ P4_ k_) ∨ w.heap.size ≤ k_))) (mv HO_4.out) hg hat); replace HB := am (hb); have HO638 := am (ho); clear HO_11; clear ho hb hg hat))
          go_roundg k2
          case measure => have := HJ5.out; have := HK2.out; omega
          case rel => exact ⟨(y636), (wrap64 (x12_2 + 1)), e0, H', ⟨by have := HJ5.out; have := HK2.out; omega⟩, ⟨mv HO_2.out⟩, ⟨mv HO_4.out⟩, ⟨mv HO638.out⟩, ⟨bt⟩⟩
         ·exact nh c20 H
       ·exact nh c17 H
      ·rw [if_neg c16] at H
       have c16b0 : decide (x12_2 < (l3.length : Int)) = false := decide_eq_false c16
       clear c16
       have H' := am H
       clear H
       go_wp2
       go_loopg [2, 4, 11, 13] k2 (fun kq v2 v4 v11 v13 w' => ∃ (x2_3 : List Int) (x4_3 : List Int) (x11_3 : List Int) (x13_3 : Int), v13 = .int .i64 x13_3 ∧ Aside0 (spec_ManyFrom.l1 kq a0 a1 x2_3 x4_3 x11_3 x13_3 = some r) ∧ Aside0 (kq ≤ k2) ∧ Aside0 (Kd.V (Kd.int .i64) 3 w' w.heap.size (fun k_ => ((P2_ k_ ∨ P4_ k_) ∨ w.heap.size ≤ k_) ∧ nb k_ v11) v2 x2_3) ∧ Aside0 (Kd.V (Kd.int .i64) 3 w' w.heap.size (fun k_ => ((P2_ k_ ∨ P4_ k_) ∨ w.heap.size ≤ k_) ∧ nb k_ v11) v4 x4_3) ∧ Aside0 (Kd.R (Kd.int .i64) 3 w' w.heap.size (fun k_ => (w.heap.size ≤ k_)) v11 x11_3) ∧ Aside0 (Below w.heap.size w w'))
       case atStart => exact ⟨(l2), (l4), (x11_2), (a1), e0, H', ⟨Nat.le_refl _⟩, ⟨mv HO_2.out⟩, ⟨mv HO_4.out⟩, ⟨mv HO_11.out⟩, ⟨bt⟩⟩
       case round =>
        clear H'
        obtain ⟨x2_3, x4_3, x11_3, x13_3, rfl, HA, HK3, HO_2, HO_4, HO_11, HB⟩ := hrel
        cases gk with
        | zero => exact absurd HA.out (by simp [spec_ManyFrom.l1])
        | succ k3 =>
         have H := HA.out
         clear HA
         simp only [spec_ManyFrom.l1] at H
         by_cases c23 : x13_3 > 1
         ·rw [if_pos c23] at H
          have c23b0 : decide (1 < x13_3) = true := decide_eq_true c23
          clear c23
          obtain ⟨⟨t639, t642, t645, t648⟩, A24, H⟩ := bm H
          (try dsimp -simprocs only at H)
          by_cases c25 : t648 = true
          ·subst c25
           rw [if_pos rfl] at H
           have H' := am H
           clear H
           obtain ⟨Ao26, co26, eo26⟩ := Kd.V_slice HO_2.out
           subst eo26
           obtain ⟨Ao27, co27, eo27⟩ := Kd.R_slice HO_11.out
           subst eo27
           obtain ⟨Ao28, co28, eo28⟩ := Kd.V_slice HO_4.out
           subst eo28
           go_wp2_with (first | ((with_reducible refine gate_callee (f := 140) rfl ?_); refine goesL_ (some 73) rfl rfl Try.func140 (by kernel_rfl) rfl #[.int .i64 a0, .int .i64 x13_3, .slice Ao26 x2_3.length co26, .slice Ao27 x11_3.length co27, .slice Ao28 x4_3.length co28] rfl av ?_; (with_reducible refine (spec_l2Up.calls k3 a0 x13_3 _ _ x2_3 _ _ x11_3 (fun k_ => (((P2_ k_ ∨ P4_ k_) ∨ w.heap.size ≤ k_) ∧ nb k_ (.slice Ao27 x11_3.length co27))) _ _ x4_3 t639 t642 t645 true _ ?side1 ?side2 ?side3 ?side4 ?side5 A24.out).mono ?_); (case side1 => exact cv ((Kd.V_reads' HO_2.out).2.2)); (case side2 => exact (Kd.V_reads' HO_2.out).2.1); (case side3 => exact cv ((Kd.R_reads' HO_11.out).2.2)); (case side4 => exact (Kd.R_reads' HO_11.out).2.1); (case side5 => exact HO_4.out); rintro e w29 ⟨v640, v643, v646, rfl, ho0, ho1, ho2, hb⟩; refine ⟨_, rfl, ?_⟩; replace HO_2 := am (Kd.V_mono (Kd.V_told (Kd.V_told (Kd.V_old (mv HO_2.out) hb) (Kd.R_base ho0)) (Kd.R_base ho1)) (fun _ h_ => h_.1)); replace HO_4 := am (Kd.V_mono (Kd.V_told (Kd.V_told (Kd.V_old (mv HO_4.out) hb) (Kd.R_base ho0)) (Kd.R_base ho1)) (fun _ h_ => h_.1)); have HO641 := am (Kd.R_lower (Kd.R_new' (Kd.R_newM (M := fun k_ => (w.heap.size ≤ k_)) (Kd.R_mono (ok' := fun k_ => nb k_ v643) ho0 (fun _ hk_ => hk_.2)) (below_size (bt)) (fun k_ h_ => h_)) (Kd.R_lt (mv HO_11.out))) (below_size (bt))); have HO644 := am (Kd.R_lower (Kd.R_new' (Kd.R_newM (M := fun k_ => (w.heap.size ≤ k_)) (Kd.R_mono (ok' := fun k_ => nb k_ v640) ho1 (fun _ hk_ => hk_.2)) (below_size (bt)) (fun k_ h_ => h_)) (Kd.R_lt (mv HO_11.out))) (below_size (bt))); have HO647 := am (Kd.V_lower (Kd.V_mono (ok' := fun k_ => ((P2_ k_ ∨ P4_ k_) ∨ w.heap.size ≤ k_) ∧ nb k_ v640 ∧ nb k_ v643 ∧ nb k_ (.slice Ao27 x11_3.length co27)) ho2 (fun k_ hk_ => ⟨Or.elim hk_.1 (fun hs_ => hs_.1) (fun hn_ => (.inr (Nat.le_trans (below_size (bt)) hn_))), hk_.2.1, hk_.2.2, Or.elim hk_.1 (fun hs_ => hs_.2) (fun hn_ => (Kd.fresh' (Kd.R_lt (mv HO_11.out)) k_ hn_))⟩)) (below_size (bt))); replace HO_11 := am (Kd.R_mono (Kd.R_told (Kd.R_told (Kd.R_old (mv HO_11.out) hb) (Kd.R_base ho0)) (Kd.R_base ho1)) (fun _ h_ => h_.1)); replace HB := am (below_step (bt) hb); (try clear hb); (try clear hb2); (try clear hk); (try clear hi); (try clear ho0); (try clear ho1); (try clear ho2)))
           go_roundg k3
           case measure => have := HJ5.out; have := HK2.out; have := HK3.out; omega
           case rel => exact ⟨(t639), (t645), (t642), (wrap64 (Int.tdiv (wrap64 (x13_3 + 1)) 2)), e0, H', ⟨by have := HJ5.out; have := HK2.out; have := HK3.out; omega⟩, ⟨by have hR_ := HO641.out; exact Kd.V_mono (Kd.R_V hR_) (fun k_ hk => ⟨.inr (hk.1.1), hk.1.2⟩)⟩, ⟨rV (h := by exact Kd.V_mono HO647.out (fun _ hk => ⟨hk.1, hk.2.2.1⟩))⟩, ⟨rR (h := by exact Kd.R_mono HO644.out (fun _ hk => hk.1.1))⟩, ⟨bt⟩⟩
          ·replace c25 := Bool.eq_false_iff.mpr c25
           subst c25
           rw [if_neg nft] at H
           obtain rfl := Option.some.inj H
           obtain ⟨Ao30, co30, eo30⟩ := Kd.V_slice HO_2.out
           subst eo30
           obtain ⟨Ao31, co31, eo31⟩ := Kd.R_slice HO_11.out
           subst eo31
           obtain ⟨Ao32, co32, eo32⟩ := Kd.V_slice HO_4.out
           subst eo32
           go_wp2_with (first | ((with_reducible refine gate_callee (f := 140) rfl ?_); refine goesL_ (some 73) rfl rfl Try.func140 (by kernel_rfl) rfl #[.int .i64 a0, .int .i64 x13_3, .slice Ao30 x2_3.length co30, .slice Ao31 x11_3.length co31, .slice Ao32 x4_3.length co32] rfl av ?_; (with_reducible refine (spec_l2Up.calls k3 a0 x13_3 _ _ x2_3 _ _ x11_3 (fun k_ => (((P2_ k_ ∨ P4_ k_) ∨ w.heap.size ≤ k_) ∧ nb k_ (.slice Ao31 x11_3.length co31))) _ _ x4_3 t639 t642 t645 false _ ?side1 ?side2 ?side3 ?side4 ?side5 A24.out).mono ?_); (case side1 => exact cv ((Kd.V_reads' HO_2.out).2.2)); (case side2 => exact (Kd.V_reads' HO_2.out).2.1); (case side3 => exact cv ((Kd.R_reads' HO_11.out).2.2)); (case side4 => exact (Kd.R_reads' HO_11.out).2.1); (case side5 => exact HO_4.out); rintro e w33 ⟨v640, v643, v646, rfl, ho0, ho1, ho2, hb⟩; refine ⟨_, rfl, ?_⟩; replace HO_2 := am (Kd.V_mono (Kd.V_told (Kd.V_told (Kd.V_old (mv HO_2.out) hb) (Kd.R_base ho0)) (Kd.R_base ho1)) (fun _ h_ => h_.1)); replace HO_4 := am (Kd.V_mono (Kd.V_told (Kd.V_told (Kd.V_old (mv HO_4.out) hb) (Kd.R_base ho0)) (Kd.R_base ho1)) (fun _ h_ => h_.1)); have HO641 := am (Kd.R_lower (Kd.R_new' (Kd.R_newM (M := fun k_ => (w.heap.size ≤ k_)) (Kd.R_mono (ok' := fun k_ => nb k_ v643) ho0 (fun _ hk_ => hk_.2)) (below_size (bt)) (fun k_ h_ => h_)) (Kd.R_lt (mv HO_11.out))) (below_size (bt))); have HO644 := am (Kd.R_lower (Kd.R_new' (Kd.R_newM (M := fun k_ => (w.heap.size ≤ k_)) (Kd.R_mono (ok' := fun k_ => nb k_ v640) ho1 (fun _ hk_ => hk_.2)) (below_size (bt)) (fun k_ h_ => h_)) (Kd.R_lt (mv HO_11.out))) (below_size (bt))); have HO647 := am (Kd.V_lower (Kd.V_mono (ok' := fun k_ => ((P2_ k_ ∨ P4_ k_) ∨ w.heap.size ≤ k_) ∧ nb k_ v640 ∧ nb k_ v643 ∧ nb k_ (.slice Ao31 x11_3.length co31)) ho2 (fun k_ hk_ => ⟨Or.elim hk_.1 (fun hs_ => hs_.1) (fun hn_ => (.inr (Nat.le_trans (below_size (bt)) hn_))), hk_.2.1, hk_.2.2, Or.elim hk_.1 (fun hs_ => hs_.2) (fun hn_ => (Kd.fresh' (Kd.R_lt (mv HO_11.out)) k_ hn_))⟩)) (below_size (bt))); replace HO_11 := am (Kd.R_mono (Kd.R_told (Kd.R_told (Kd.R_old (mv HO_11.out) hb) (Kd.R_base ho0)) (Kd.R_base ho1)) (fun _ h_ => h_.1)); replace HB := am (below_step (bt) hb); (try clear hb); (try clear hb2); (try clear hk); (try clear hi); (try clear ho0); (try clear ho1); (try clear ho2)))
           go_ret
           exact ⟨by first | rfl | (simp [errW_none, errW_some] <;> rfl) | (simp [*, errW_none, errW_some] <;> rfl), bt⟩
         ·rw [if_neg c23] at H
          have c23b0 : decide (1 < x13_3) = false := decide_eq_false c23
          clear c23
          by_cases c34 : (x4_3.length : Int) = 0
          ·rw [if_pos c34] at H
           have c34b0 : ((x4_3.length : Int) == 0) = true := beq_iff_eq.mpr c34
           have c34b1 : ((x4_3.length : Int) != 0) = false := bne_eq_false_iff_eq.mpr c34
           clear c34
           by_cases c35 : 0 < (x11_3.length : Int)
           ·rw [if_pos c35] at H
            have c35b0 : decide (0 < (x11_3.length : Int)) = true := decide_eq_true c35
            have c35b1 : decide (0 < x11_3.length) = true := decide_eq_true (by omega)
            clear c35
            obtain ⟨t650, A36, H⟩ := bm H
            (try dsimp -simprocs only at H)
            obtain ⟨t653, A37, H⟩ := bm H
            (try dsimp -simprocs only at H)
            obtain rfl := Option.some.inj H
            obtain ⟨Ao38, co38, eo38⟩ := Kd.V_slice HO_4.out
            subst eo38
            obtain ⟨Ao39, co39, eo39⟩ := Kd.R_slice HO_11.out
            subst eo39
            have p649 : 0 ≤ (0 : Int) := (by omega)
            have q649 : 0 < (x11_3.length : Int) := of_decide_eq_true asm
            obtain ⟨ad649, e649, hx649_0⟩ := Kd.at_int (Kd.R_reads' HO_11.out).2.2 0 p649 q649
            cases e649
            have qi649 : (0 < x11_3.length) = True := eq_true (by omega)
            (try rw [show ((0 : Int)).toNat = 0 from rfl] at hx649_0)
            (try rw [Addr.add_zero'] at hx649_0)
            replace p649 := eq_true p649
            replace q649 := eq_true q649
            go_wp2_with (first | ((with_reducible refine gate_callee (f := 113) rfl ?_); refine goesL_ (some 91) rfl rfl Try.func113 (by kernel_rfl) rfl #[.int .i64 a1, .int .i64 (rd x11_3 0)] rfl av ?_; (with_reducible refine (spec_l2Top.calls k3 a1 (rd x11_3 0) t650 _ A36.out).mono ?_); rintro e w40 ⟨v651, rfl, ho0, hb⟩; refine ⟨_, rfl, ?_⟩; replace HO_2 := am (Kd.V_elder' (mv HO_2.out) (Kd.R_base ho0) hb); replace HO_4 := am (Kd.V_elder' (mv HO_4.out) (Kd.R_base ho0) hb); replace HO_11 := am (Kd.R_below (mv HO_11.out) hb); have HO652 := am (Kd.R_lower (Kd.R_newM (M := fun k_ => (w.heap.size ≤ k_)) ho0 (below_size (bt)) (fun k_ h_ => h_)) (below_size (bt))); replace HB := am (below_step (bt) hb); (try clear hb); (try clear hb2); (try clear hk); (try clear hi); (try clear ho0); obtain ⟨Ao41, co41, eo41⟩ := Kd.R_slice HO652.out; subst eo41) | ((with_reducible refine gate_callee (f := 112) rfl ?_); refine goesL_ (some 92) rfl rfl Try.func112 (by kernel_rfl) rfl #[.int .i64 a0, .slice Ao41 t650.length co41] rfl av ?_; (with_reducible refine (spec_Digest.calls k3 a0 _ _ t650 t653 _ ?side1 ?side2 A37.out).mono ?_); (case side1 => exact cv ((Kd.R_reads' HO652.out).2.2)); (case side2 => exact (Kd.R_reads' HO652.out).2.1); rintro e w42 ⟨rfl, hb⟩; refine ⟨_, rfl, ?_⟩; replace HO_2 := am (Kd.V_below (mv HO_2.out) hb); replace HO_4 := am (Kd.V_below (mv HO_4.out) hb); replace HO_11 := am (Kd.R_below (mv HO_11.out) hb); replace HO652 := am (Kd.R_below (mv HO652.out) hb); replace HB := am (below_step (bt) hb); (try clear hb); (try clear hb2); (try clear hk); (try clear hi)))
            go_ret
            exact ⟨by first | rfl | (simp [errW_none, errW_some] <;> rfl) | (simp [*, errW_none, errW_some] <;> rfl), bt⟩
           ·exact nh c35 H
          ·rw [if_neg c34] at H
           have c34b0 : ((x4_3.length : Int) == 0) = false := beq_eq_false_iff_ne.mpr c34
           have c34b1 : ((x4_3.length : Int) != 0) = true := bne_iff_ne.mpr c34
           have c34b2 : ¬ (x4_3 = []) := fun h_ => c34 (by rw [h_]; rfl)
           obtain rfl := Option.some.inj H
           obtain ⟨Ao43, co43, eo43⟩ := Kd.V_slice HO_4.out
           subst eo43
           go_wp2
           go_ret
           exact ⟨by first | rfl | (simp [errW_none, errW_some] <;> rfl) | (simp [*, errW_none, errW_some] <;> rfl), bt⟩

/-! ### spec_ManyProven: function 99 -/
def spec_ManyProven.f (k : Nat) (a0 : Int) (a1 : Int) (a2 : Int) (l3 : List Int) (l4 : List (List Int)) (l5 : List Int) : Option (Bool) := (spec_ManyFrom.f k a0 a2 l3 l4 l5).bind fun t654 => (if t654 ≥ 0 then (some (t654 == a1)) else (some false))
theorem spec_ManyProven.calls (k : Nat) (a0 : Int) (a1 : Int) (a2 : Int) (A3 : Option Addr) (c3 : Nat) (l3 : List Int) (A4 : Option Addr) (c4 : Nat) (l4 : List (List Int)) (A5 : Option Addr) (c5 : Nat) (l5 : List Int) (r : Bool) (w : World) (hr3 : Kd.C (Kd.int .i64) w A3 l3.length l3) (hc3 : l3.length ≤ c3) (hr4 : Kd.C (Kd.slice 5 (Kd.int .u8)) w A4 l4.length l4) (hc4 : l4.length ≤ c4) (hr5 : Kd.C (Kd.int .i64) w A5 l5.length l5) (hc5 : l5.length ≤ c5) (h : spec_ManyProven.f k a0 a1 a2 l3 l4 l5 = some r) :
  Calls Try.prog 99 #[.int .i64 a0, .int .i64 a1, .int .i64 a2, .slice A3 l3.length c3, .slice A4 l4.length c4, .slice A5 l5.length c5] w fun e w' => e = .returned (.bool r) ∧ Below w.heap.size w w' := by
 have HR3 := am hr3
 have HC3 := am hc3
 clear hr3 hc3
 have HR4 := am hr4
 have HC4 := am hc4
 clear hr4 hc4
 have HR5 := am hr5
 have HC5 := am hc5
 clear hr5 hc5
 have HB := am (Below.refl w.heap.size w)
 have H : ((spec_ManyFrom.f k a0 a2 l3 l4 l5).bind fun t654 => (if t654 ≥ 0 then (some (t654 == a1)) else (some false))) = some r := h
 clear h
 obtain ⟨t654, A7, H⟩ := bm H
 (try dsimp -simprocs only at H)
 by_cases c8 : t654 ≥ 0
 ·rw [if_pos c8] at H
  have c8b0 : decide (0 ≤ t654) = true := decide_eq_true c8
  clear c8
  obtain rfl := Option.some.inj H
  go_enter Try.func99, Try.ntmps99
  go_wp2_with (first | ((with_reducible refine gate_callee (f := 125) rfl ?_); refine goesL_ (some 19) rfl rfl Try.func125 (by kernel_rfl) rfl #[.int .i64 a0, .int .i64 a2, .slice A3 l3.length c3, .slice A4 l4.length c4, .slice A5 l5.length c5] rfl av ?_; (with_reducible refine (spec_ManyFrom.calls k a0 a2 (fun k_ => k_ < w.heap.size) _ _ l3 _ _ l4 (fun k_ => k_ < w.heap.size) _ _ l5 t654 _ ?side1 ?side2 ?side3 ?side4 A7.out).mono ?_); (case side1 => exact Kd.V_mk HC3.out (Kd.F_below (Kd.C_F (Kd.heap_int .i64) HR3.out) (bt))); (case side2 => exact cv (HR4.out)); (case side3 => exact HC4.out); (case side4 => exact Kd.V_mk HC5.out (Kd.F_below (Kd.C_F (Kd.heap_int .i64) HR5.out) (bt))); rintro e w9 ⟨rfl, hb⟩; refine ⟨_, rfl, ?_⟩; replace HB := am (below_step (bt) hb); (try clear hb); (try clear hb2); (try clear hk); (try clear hi)))
  go_ret
  exact ⟨by first | rfl | (simp [errW_none, errW_some] <;> rfl) | (simp [*, errW_none, errW_some] <;> rfl), bt⟩
 ·rw [if_neg c8] at H
  have c8b0 : decide (0 ≤ t654) = false := decide_eq_false c8
  clear c8
  obtain rfl := Option.some.inj H
  go_enter Try.func99, Try.ntmps99
  go_wp2_with (first | ((with_reducible refine gate_callee (f := 125) rfl ?_); refine goesL_ (some 19) rfl rfl Try.func125 (by kernel_rfl) rfl #[.int .i64 a0, .int .i64 a2, .slice A3 l3.length c3, .slice A4 l4.length c4, .slice A5 l5.length c5] rfl av ?_; (with_reducible refine (spec_ManyFrom.calls k a0 a2 (fun k_ => k_ < w.heap.size) _ _ l3 _ _ l4 (fun k_ => k_ < w.heap.size) _ _ l5 t654 _ ?side1 ?side2 ?side3 ?side4 A7.out).mono ?_); (case side1 => exact Kd.V_mk HC3.out (Kd.F_below (Kd.C_F (Kd.heap_int .i64) HR3.out) (bt))); (case side2 => exact cv (HR4.out)); (case side3 => exact HC4.out); (case side4 => exact Kd.V_mk HC5.out (Kd.F_below (Kd.C_F (Kd.heap_int .i64) HR5.out) (bt))); rintro e w10 ⟨rfl, hb⟩; refine ⟨_, rfl, ?_⟩; replace HB := am (below_step (bt) hb); (try clear hb); (try clear hb2); (try clear hk); (try clear hi)))
  go_ret
  exact ⟨by first | rfl | (simp [errW_none, errW_some] <;> rfl) | (simp [*, errW_none, errW_some] <;> rfl), bt⟩

end Go.Proofs.Ytchjajbkaiefdaa.PFnMany
