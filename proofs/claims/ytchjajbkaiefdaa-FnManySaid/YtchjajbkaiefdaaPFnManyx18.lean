-- Written by a program of this workplace (wip/mp.py) out of the translation.
import Derived.Test.YtchjajbkaiefdaaPFnManyx0
import Derived.Test.YtchjajbkaiefdaaPFnManyx1
import Derived.Test.YtchjajbkaiefdaaPFnManyx3
import Derived.Test.YtchjajbkaiefdaaPFnManyx4
import Derived.Test.YtchjajbkaiefdaaPFnManyx6
import Derived.Test.YtchjajbkaiefdaaPFnManyx8
import Derived.Test.YtchjajbkaiefdaaPFnManyx16
import Derived.Test.YtchjajbkaiefdaaPFnManyx17
namespace Go.Proofs.Ytchjajbkaiefdaa.PFnMany
open Go.RowKit Go.Proofs.YtchjajbkaiefdaaW.PrintWords Go.Proofs.YtchjajbkaiefdaaW.PrintLast Go.Proofs.YtchjajbkaiefdaaW.PrintMore Go.Proofs.Ytchjajbkaiefdaa.Slim
attribute [local go_sem] max2_int min2_int max_two min_two max_three min_three max_four min_four   -- for this text's walks alone
set_option linter.unusedVariables false
set_option linter.unusedSimpArgs false

/-! ### laws_FnMany: function 7 -/
mutual
def laws_FnMany.l0 : Nat → List Int → Int → List (List Int) → Int → List Int → List (List Int) → Int → Option (Bool)
 | 0, _, _, _, _, _, _, _ => none
 | k + 1, x0, x3, x4, x5, x6, x7, x8 => if x8 < (x4.length : Int) then ((laws_at.f x0 x8).bind fun t770 => (if (Int.tmod t770 2) = 0 then (if x6.length < 17592186044416 then (if 0 ≤ x8 then (if x7.length < 5864062014805 then (laws_FnMany.l0 k x0 x3 x4 x5 (x6 ++ [x8]) (x7 ++ [rd_L1 x4 x8]) (wrap64 (x8 + 1))) else (none)) else (none)) else (none)) else ((laws_at.f x0 30).bind fun t778 => (if (x4.length : Int) = 0 then (none) else (if x8 = (Int.tmod t778 (x4.length : Int)) then (if x6.length < 17592186044416 then (if 0 ≤ x8 then (if x7.length < 5864062014805 then (laws_FnMany.l0 k x0 x3 x4 x5 (x6 ++ [x8]) (x7 ++ [rd_L1 x4 x8]) (wrap64 (x8 + 1))) else (none)) else (none)) else (none)) else (laws_FnMany.l0 k x0 x3 x4 x5 x6 x7 (wrap64 (x8 + 1)))))))) else ((impl_ManyPath.f k x3 x4 x6).bind fun bt786 => (if bt786.2 = true then ((impl_ManyProven.f k x3 x5 (x4.length : Int) x6 x7 bt786.1).bind fun t790 => (if t790 = true then ((impl_ManyFrom.f k x3 (x4.length : Int) x6 x7 bt786.1).bind fun t791 => (laws_FnMany.j1 k x0 x3 x4 x6 (t791 != x5))) else (laws_FnMany.j1 k x0 x3 x4 x6 true))) else (laws_FnMany.j1 k x0 x3 x4 x6 true)))
def laws_FnMany.j1 : Nat → List Int → Int → List (List Int) → List Int → Bool → Option (Bool)
 | 0, _, _, _, _, _ => none
 | k + 1, x0, x3, x4, x6, x100 => if x100 = true then (some false) else (if 0 < (x6.length : Int) then ((impl_Path.f k x3 x4 (rd x6 0)).bind fun bt793 => ((impl_ManyPath.f k x3 x4 (([rd x6 0] : List Int))).bind fun bt800 => (if bt793.2 = true then (if bt800.2 = true then (laws_FnMany.j2 k x0 bt793.1 bt800.1 ((bt793.1.length : Int) != (bt800.1.length : Int))) else (laws_FnMany.j2 k x0 bt793.1 bt800.1 true)) else (laws_FnMany.j2 k x0 bt793.1 bt800.1 true)))) else (none))
def laws_FnMany.j2 : Nat → List Int → List Int → List Int → Bool → Option (Bool)
 | 0, _, _, _, _ => none
 | k + 1, x0, x12, x14, x131 => if x131 = true then (some false) else (laws_FnMany.l1 k x0 x12 x14 0)
def laws_FnMany.l1 : Nat → List Int → List Int → List Int → Int → Option (Bool)
 | 0, _, _, _, _ => none
 | k + 1, x0, x12, x14, x16 => if x16 < (x12.length : Int) then (if 0 ≤ x16 then (if x16 < (x14.length : Int) then (if (rd x12 x16) = (rd x14 x16) then (laws_FnMany.l1 k x0 x12 x14 (wrap64 (x16 + 1))) else (some false)) else (none)) else (none)) else ((spec_DrawFromMany.f k x0).bind fun bt806 => ((impl_FromMany.f k bt806.1 bt806.2.1 bt806.2.2.1 bt806.2.2.2.1 bt806.2.2.2.2.1 bt806.2.2.2.2.2).bind fun bt820 => ((impl_ManyFrom.f k bt806.1 bt806.2.1 bt806.2.2.1 bt806.2.2.2.1 bt806.2.2.2.2.2).bind fun t828 => ((impl_ManyFrom.f k bt806.1 bt806.2.1 bt806.2.2.1 bt806.2.2.2.2.1 bt806.2.2.2.2.2).bind fun t829 => (if bt820.2.2 = true then ((impl_Collides.f bt806.1 bt820.1 bt820.2.1).bind fun t830 => (if t830 = true then (if t828 ≥ 0 then (some (t828 == t829)) else (some false)) else (some false))) else (if t828 < 0 then (some true) else (if t828 = t829 then ((laws_sameLists.f bt806.2.2.2.1 bt806.2.2.2.2.1).bind fun t831 => (some t831)) else (some true))))))))
end
def laws_FnMany.f (k : Nat) (l0 : List Int) : Option (Bool) := (laws_big.f l0).bind fun t758 => (if t758 = true then (some true) else ((spec_DrawLeaves.f k l0).bind fun bt759 => ((impl_TreeRoot.f k bt759.1 bt759.2).bind fun t763 => (laws_FnMany.l0 k l0 bt759.1 bt759.2 t763 (([] : List Int)) (([] : List (List Int))) 0))))
set_option maxHeartbeats 8000000 in
set_option maxRecDepth 100000 in
theorem laws_FnMany.calls (k : Nat) (A0 : Option Addr) (c0 : Nat) (l0 : List Int) (r : Bool) (w : World) (hT : Aside0 (r = true)) (hr0 : Kd.C (Kd.int .u8) w A0 l0.length l0) (hc0 : l0.length ≤ c0) (h : laws_FnMany.f k l0 = some r) :
  Calls Try.prog 7 #[.slice A0 l0.length c0] w fun e w' => e = .returned (.bool r) ∧ Below w.heap.size w w' := by
 have hu33 := Try.underlying33
 have HR0 := am hr0
 have HC0 := am hc0
 clear hr0 hc0
 have HB := am (Below.refl w.heap.size w)
 have H : ((laws_big.f l0).bind fun t758 => (if t758 = true then (some true) else ((spec_DrawLeaves.f k l0).bind fun bt759 => ((impl_TreeRoot.f k bt759.1 bt759.2).bind fun t763 => (laws_FnMany.l0 k l0 bt759.1 bt759.2 t763 (([] : List Int)) (([] : List (List Int))) 0))))) = some r := h
 clear h
 obtain ⟨t758, A2, H⟩ := bm H
 (try dsimp -simprocs only at H)
 by_cases c3 : t758 = true
 ·subst c3
  rw [if_pos rfl] at H
  obtain rfl := Option.some.inj H
  go_enter Try.func7, Try.ntmps7
  go_wp2_with (first | (go_at_call 9; (with_reducible refine (laws_big.calls _ _ l0 true _ ?side1 ?side2 A2.out).mono ?_); (case side1 => exact cv (HR0.out)); (case side2 => exact HC0.out); rintro e w' ⟨rfl, ⟨nd, rfl⟩⟩; (try first | exact ⟨rfl, _, World.drewN_drewN _ _ _⟩ | exact ⟨rfl, _, Eq.trans (World.drewN_drewN _ _ _) (congrArg (World.drewN _) (Nat.add_assoc _ _ _))⟩)))
  go_ret
  exact ⟨by first | rfl | (simp [errW_none, errW_some] <;> rfl) | (simp [*, errW_none, errW_some] <;> rfl), bt⟩
 ·replace c3 := Bool.eq_false_iff.mpr c3
  subst c3
  rw [if_neg nft] at H
  obtain ⟨⟨t759, t760⟩, A4, H⟩ := bm H
  (try dsimp -simprocs only at H)
  obtain ⟨t763, A5, H⟩ := bm H
  (try dsimp -simprocs only at H)
  obtain ⟨y764, hy764⟩ : ∃ y_ : List Int, y_ = (([] : List Int)) := ⟨_, rfl⟩
  replace H : (laws_FnMany.l0 k l0 t759 t760 t763 y764 (([] : List (List Int))) 0) = some r := by first | (rw [hy764]; exact H) | exact H
  have Ny764 := am hy764
  clear hy764
  obtain ⟨y767, hy767⟩ : ∃ y_ : List (List Int), y_ = (([] : List (List Int))) := ⟨_, rfl⟩
  replace H : (laws_FnMany.l0 k l0 t759 t760 t763 y764 y767 0) = some r := by first | (rw [hy767]; exact H) | exact H
  have Ny767 := am hy767
  clear hy767
  have H' := am H
  clear H
  go_enter Try.func7, Try.ntmps7
  go_wp2_with (first | (go_at_call 9; (with_reducible refine (laws_big.calls _ _ l0 false _ ?side1 ?side2 A2.out).mono ?_); (case side1 => exact cv (HR0.out)); (case side2 => exact HC0.out); rintro e w' ⟨rfl, ⟨nd, rfl⟩⟩; (try first | exact ⟨rfl, _, World.drewN_drewN _ _ _⟩ | exact ⟨rfl, _, Eq.trans (World.drewN_drewN _ _ _) (congrArg (World.drewN _) (Nat.add_assoc _ _ _))⟩)) | (go_at_call 38; (with_reducible refine (spec_DrawLeaves.calls k _ _ l0 t759 t760 _ ?side1 ?side2 A4.out).mono ?_); (case side1 => exact cv (HR0.out)); (case side2 => exact HC0.out); rintro e w6 ⟨v761, rfl, ho0, hb⟩; have HO762 := am (Kd.N_lower (Kd.N_mono (ok' := fun k_ => True) ho0 (fun k_ hk_ => trivial)) (below_size (bt))); replace HB := am (below_step (bt) hb); (try clear hb); (try clear hb2); (try clear hk); (try clear hi); (try clear ho0); obtain ⟨Ao7, co7, eo7⟩ := Kd.N_slice HO762.out; subst eo7) | (go_at_call 11; (with_reducible refine (impl_TreeRoot.calls k t759 _ _ t760 t763 _ ?side1 ?side2 A5.out).mono ?_); (case side1 => exact cv ((Kd.N_reads' HO762.out).2.2)); (case side2 => exact (Kd.N_reads' HO762.out).2.1); rintro e w8 ⟨rfl, hb⟩; replace HO762 := am (Kd.N_below (mv HO762.out) hb); replace HB := am (below_step (bt) hb); (try clear hb); (try clear hb2); (try clear hk); (try clear hi)) | ((with_reducible refine gate_dst (N := 37) rfl ?_); (try (refine gate_guard (by rfl) ?_; dsimp only)); refine Kd.R_lit (Kd.int .i64) _ 3 ?hg (N := 37) ?hd (xs := ([] : List Int)) (inner := []) (ok := fun _ => True) (okp := fun _ => True) ?hr ?hp (fun _ hk => hk) trivial (Below.refl _ _) (Nat.le_refl _) (by simp) ?_; (case hd => rfl); (case hg => rfl); (case hr => first | (go_simp; done) | (go_simp; rfl)); (case hp => exact (Reps.none _ _)); intro v765 w9 ho10 hb hg_ hnew_; clear hg_ hnew_; (first | rw [← Ny764.out] at ho10 | (simp only [Int.reduceToNat] at ho10; rw [← Ny764.out] at ho10)); replace HO762 := am (Kd.N_elder' (mv HO762.out) (Kd.R_base ho10) hb); have HO766 := am (Kd.R_lower ho10 (below_size (bt))); replace HB := am (below_step (bt) hb); clear hb ho10) | ((with_reducible refine gate_dst (N := 38) rfl ?_); (try (refine gate_guard (by rfl) ?_; dsimp only)); refine Kd.N_lit (Kd.slice 5 (Kd.int .u8)) _ 22 ?hg (N' := 38) ?hd (xs := ([] : List (List Int))) (inner := []) (ok := (fun k_ => nb k_ (.slice Ao7 t760.length co7) ∧ nb k_ v765)) (okp := (fun k_ => nb k_ (.slice Ao7 t760.length co7) ∧ nb k_ v765)) ?hr ?hp (fun _ hk => hk) ((show ∀ k_, w9.heap.size ≤ k_ → (fun k_ => nb k_ (.slice Ao7 t760.length co7) ∧ nb k_ v765) k_ from fun k_ hk => ⟨Kd.fresh' (Kd.N_lt (mv HO762.out)) k_ hk, Kd.fresh' (Kd.R_lt (mv HO766.out)) k_ hk⟩) _ (Nat.le_refl _)) (Below.refl _ _) (Nat.le_refl _) (by simp) ?_; (case hd => rfl); (case hg => rfl); (case hr => first | (go_simp; done) | (go_simp; rfl)); (case hp => exact (Reps.none _ _)); intro v768 w11 ho12 hb hg_ hnew_; clear hg_ hnew_; (first | rw [← Ny767.out] at ho12 | (simp only [Int.reduceToNat] at ho12; rw [← Ny767.out] at ho12)); replace HO762 := am (Kd.N_elder' (mv HO762.out) (Kd.N_base ho12) hb); replace HO766 := am (Kd.R_below (mv HO766.out) hb); have HO769 := am (Kd.N_lower ho12 (below_size (bt))); replace HB := am (below_step (bt) hb); clear hb ho12))
  go_loopg [6, 7, 8] k (fun kq v6 v7 v8 w' => ∃ (x6_1 : List Int) (x7_1 : List (List Int)) (x8_1 : Int), v8 = .int .i64 x8_1 ∧ Aside0 (laws_FnMany.l0 kq l0 t759 t760 t763 x6_1 x7_1 x8_1 = some r) ∧ Aside0 (kq ≤ k) ∧ Aside0 (Kd.N (Kd.slice 5 (Kd.int .u8)) 22 w' w.heap.size (fun k_ => nb k_ v6 ∧ nb k_ v7) (.slice Ao7 t760.length co7) t760) ∧ Aside0 (Kd.R (Kd.int .i64) 3 w' w.heap.size (fun _ => True) v6 x6_1) ∧ Aside0 (Kd.N (Kd.slice 5 (Kd.int .u8)) 22 w' w.heap.size (fun k_ => nb k_ (.slice Ao7 t760.length co7) ∧ nb k_ v6) v7 x7_1) ∧ Aside0 (Below w.heap.size w w'))
  case atStart => exact ⟨(y764), (y767), (0), e0, H', ⟨Nat.le_refl _⟩, ⟨rN (h := by exact Kd.N_mono HO762.out (fun _ hk => ⟨hk.1.2, hk.2⟩))⟩, ⟨mv HO766.out⟩, ⟨mv HO769.out⟩, ⟨bt⟩⟩
  case round =>
   clear H'
   obtain ⟨x6_1, x7_1, x8_1, rfl, HA, HK1, HO_4, HO_6, HO_7, HB⟩ := hrel
   cases gk with
   | zero => exact absurd HA.out (by simp [laws_FnMany.l0])
   | succ k1 =>
    have H := HA.out
    clear HA
    simp only [laws_FnMany.l0] at H
    by_cases c13 : x8_1 < (t760.length : Int)
    ·rw [if_pos c13] at H
     have c13b0 : decide (x8_1 < (t760.length : Int)) = true := decide_eq_true c13
     clear c13
     obtain ⟨t770, A14, H⟩ := bm H
     (try dsimp -simprocs only at H)
     by_cases c15 : (Int.tmod t770 2) = 0
     ·rw [if_pos c15] at H
      have c15b0 : ((Int.tmod t770 2) == 0) = true := beq_iff_eq.mpr c15
      have c15b1 : ((Int.tmod t770 2) != 0) = false := bne_eq_false_iff_eq.mpr c15
      clear c15
      by_cases c16 : x6_1.length < 17592186044416
      ·rw [if_pos c16] at H
       have LMc16 := am c16
       clear c16
       obtain ⟨y771, hy771⟩ : ∃ y_ : List Int, y_ = (x6_1 ++ [x8_1]) := ⟨_, rfl⟩
       replace H : (if 0 ≤ x8_1 then (if x7_1.length < 5864062014805 then (laws_FnMany.l0 k1 l0 t759 t760 t763 y771 (x7_1 ++ [rd_L1 t760 x8_1]) (wrap64 (x8_1 + 1))) else (none)) else (none)) = some r := by first | (rw [hy771]; exact H) | exact H
       have Ny771 := am hy771
       clear hy771
       by_cases c17 : 0 ≤ x8_1
       ·rw [if_pos c17] at H
        have c17b0 : decide (0 ≤ x8_1) = true := decide_eq_true c17
        clear c17
        by_cases c18 : x7_1.length < 5864062014805
        ·rw [if_pos c18] at H
         have LMc18 := am c18
         clear c18
         obtain ⟨y775, hy775⟩ : ∃ y_ : List (List Int), y_ = (x7_1 ++ [rd_L1 t760 x8_1]) := ⟨_, rfl⟩
         replace H : (laws_FnMany.l0 k1 l0 t759 t760 t763 y771 y775 (wrap64 (x8_1 + 1))) = some r := by first | (rw [hy775]; exact H) | exact H
         have Ny775 := am hy775
         clear hy775
         have H' := am H
         clear H
         go_wp2_with (first | (go_at_call 39; (with_reducible refine (laws_at.calls _ _ l0 x8_1 t770 _ ?side1 ?side2 A14.out).mono ?_); (case side1 => exact cv ((Kd.C_below HR0.out HB.out))); (case side2 => exact HC0.out); rintro e w' ⟨rfl, ⟨nd, rfl⟩⟩; (try first | exact ⟨rfl, _, World.drewN_drewN _ _ _⟩ | exact ⟨rfl, _, Eq.trans (World.drewN_drewN _ _ _) (congrArg (World.drewN _) (Nat.add_assoc _ _ _))⟩)) | ((with_reducible refine gate_builtin (b := .append) (xs := #[.tmp 59, .tmp 61]) rfl ?_); (try (refine gate_guard (by rfl) ?_; dsimp only)); at_builtin; refine Kd.R_append (Kd.int .i64) (w0 := w) w.heap.size rfl (.tmp 59) (.tmp 61) 29 3 (.int .i64 0) 8 rfl Try.underlying29 info3 rfl (by decide) (by omega) u6 x6_1 x8_1 [.int .i64 x8_1] (fun _ => True) (fun _ => False) rfl rfl ?aP (fun _ hk => hk.elim) ?aF ?aO ?aB ?aS ?aL ?_; (case aP => exact rfl); (case aB => exact (bt)); (case aF => exact (fun _ _ => trivial)); (case aO => exact (mv HO_6.out)); (case aS => exact (below_size (bt))); (case aL => have := LMc16.out; omega); intro v772 w19 ho hb hg hat; rw [← Ny771.out] at ho; replace HO_4 := am (Kd.N_afterv (ok := (fun k_ => nb k_ u7)) (rN (h := by exact Kd.N_mono HO_4.out (fun _ hk => ⟨hk.2, hk.1⟩))) hg hat); replace HO_7 := am (Kd.N_afterv (ok := (fun k_ => nb k_ (.slice Ao7 t760.length co7))) (mv HO_7.out) hg hat); replace HB := am (hb); have HO773 := am (ho); clear HO_6; clear ho hb hg hat; have p774 : 0 ≤ (x8_1 : Int) := of_decide_eq_true asm; have q774 : x8_1 < (t760.length : Int) := of_decide_eq_true asm; obtain ⟨ad774, A774_0, c774_0, e774, hx774_0, hl774_0, hi774_0⟩ := at_L1 (Kd.N_reads' HO_4.out).2.2 x8_1 p774 q774; cases e774; obtain ⟨ce774, hce774, hMe774, hcc774⟩ := Kd.N_get HO_4.out [] x8_1 p774 (by first | exact q774 | exact of_decide_eq_true asm | (have e_ := (Kd.N_reads' HO_4.out).1; omega)); obtain ⟨ua774_0, uc774_0, rfl, ul774_0, ge774_0⟩ := Kd.FK_slice_open hMe774; have hv774_0 := hcc774 0 _ rfl; rw [Nat.add_zero, show ((Kd.slice 5 (Kd.int .u8))).sz = 1 from rfl, Nat.mul_one] at hv774_0; replace hv774_0 := Option.some.inj (hv774_0.symm.trans hx774_0); injection hv774_0 with hva_ hvn_ hvc_; rw [hva_] at ge774_0; rw [hvc_] at ul774_0; have HL774_0 := am (show Kd.V (Kd.int .u8) 5 _ w.heap.size _ _ (rd_L1 t760 x8_1) from Kd.V_mk ul774_0 ge774_0); clear hva_ hvn_ hvc_ ge774_0 ul774_0; clear hcc774 hce774; have HR774_0 := am hi774_0; have HC774_0 := am hl774_0; clear hi774_0 hl774_0; replace p774 := eq_true p774; replace q774 := eq_true q774) | ((with_reducible refine gate_builtin (b := .append) (xs := #[.tmp 63, .tmp 68]) rfl ?_); (try (refine gate_guard (by rfl) ?_; dsimp only)); at_builtin; refine Kd.N_append (Kd.slice 5 (Kd.int .u8)) (w0 := w) w.heap.size rfl (.tmp 63) (.tmp 68) 24 22 (.slice none 0 0) 24 rfl Try.underlying24 info22 rfl (by decide) (by omega) u7 x7_1 (rd_L1 t760 x8_1) [.slice A774_0 (rd_L1 t760 x8_1).length c774_0] (fun k_ => nb k_ (.slice (some ad774) t760.length co7) ∧ nb k_ v772) (fun k_ => ((fun k_ => nb k_ (.slice (some ad774) t760.length co7) ∧ nb k_ v772)) k_ ∧ nb k_ u7) rfl rfl ?aP (fun _ hk => hk) ?aF ?aO ?aB ?aS ?aL ?_; (case aP => exact (Kd.FK_slice_mk (Kd.V_reads' (e := 0) (base := 0) (Kd.V_mono (e := 0) (base := 0) (ok' := (fun k_ => ((fun k_ => nb k_ (.slice (some ad774) t760.length co7) ∧ nb k_ v772)) k_ ∧ nb k_ u7)) (HL774_0.out) (fun k_ hk => ⟨⟨hk.2, hk.1.2⟩, hk.1.1⟩))).2.1 (Kd.V_F (e := 0) (base := 0) (Kd.V_mono (e := 0) (base := 0) (ok' := (fun k_ => ((fun k_ => nb k_ (.slice (some ad774) t760.length co7) ∧ nb k_ v772)) k_ ∧ nb k_ u7)) (HL774_0.out) (fun k_ hk => ⟨⟨hk.2, hk.1.2⟩, hk.1.1⟩))))); (case aB => exact (bt)); (case aF => exact (fun k_ hk => ⟨Kd.fresh' (Kd.N_lt (mv HO_4.out)) k_ hk, Kd.fresh' (Kd.R_lt (mv HO773.out)) k_ hk⟩)); (case aO => exact (mv HO_7.out)); (case aS => exact (below_size (bt))); (case aL => have := LMc18.out; omega); intro v776 w20 ho hb hg hat; rw [← Ny775.out] at ho; replace HO_4 := am (Kd.N_afterv (ok := (fun k_ => nb k_ v772)) (rN (h := by exact Kd.N_mono HO_4.out (fun _ hk => ⟨hk.2, hk.1⟩))) hg hat); replace HO773 := am (Kd.R_over' (mv HO773.out) (Kd.N_typed (mv HO_7.out)) (by decide) hg); replace HL774_0 := am (Kd.V_afterv (ok := (fun k_ => nb k_ (.slice (some ad774) t760.length co7) ∧ nb k_ v772)) (rV (h := by exact Kd.V_mono HL774_0.out (fun _ hk => ⟨⟨hk.2, hk.1.2⟩, hk.1.1⟩))) hg hat); replace HB := am (hb); have HO777 := am (ho); clear HO_7; clear ho hb hg hat))
         go_roundg k1
         case measure => have := HK1.out; omega
         case rel => exact ⟨(y771), (y775), (wrap64 (x8_1 + 1)), e0, H', ⟨by have := HK1.out; omega⟩, ⟨mv HO_4.out⟩, ⟨mv HO773.out⟩, ⟨mv HO777.out⟩, ⟨bt⟩⟩
        ·exact nh c18 H
       ·exact nh c17 H
      ·exact nh c16 H
     ·rw [if_neg c15] at H
      have c15b0 : ((Int.tmod t770 2) == 0) = false := beq_eq_false_iff_ne.mpr c15
      have c15b1 : ((Int.tmod t770 2) != 0) = true := bne_iff_ne.mpr c15
      obtain ⟨t778, A21, H⟩ := bm H
      (try dsimp -simprocs only at H)
      by_cases c22 : (t760.length : Int) = 0
      ·rw [if_pos c22] at H
       exact absurd H (by simp)
      ·rw [if_neg c22] at H
       have c22b0 : ((t760.length : Int) == 0) = false := beq_eq_false_iff_ne.mpr c22
       have c22b1 : ((t760.length : Int) != 0) = true := bne_iff_ne.mpr c22
       have c22b2 : ¬ (t760 = []) := fun h_ => c22 (by rw [h_]; rfl)
       by_cases c23 : x8_1 = (Int.tmod t778 (t760.length : Int))
       ·rw [if_pos c23] at H
        have c23b0 : (x8_1 == (Int.tmod t778 (t760.length : Int))) = true := beq_iff_eq.mpr c23
        have c23b1 : (x8_1 != (Int.tmod t778 (t760.length : Int))) = false := bne_eq_false_iff_eq.mpr c23
        clear c23
        by_cases c24 : x6_1.length < 17592186044416
        ·rw [if_pos c24] at H
         have LMc24 := am c24
         clear c24
         obtain ⟨y779, hy779⟩ : ∃ y_ : List Int, y_ = (x6_1 ++ [x8_1]) := ⟨_, rfl⟩
         replace H : (if 0 ≤ x8_1 then (if x7_1.length < 5864062014805 then (laws_FnMany.l0 k1 l0 t759 t760 t763 y779 (x7_1 ++ [rd_L1 t760 x8_1]) (wrap64 (x8_1 + 1))) else (none)) else (none)) = some r := by first | (rw [hy779]; exact H) | exact H
         have Ny779 := am hy779
         clear hy779
         by_cases c25 : 0 ≤ x8_1
         ·rw [if_pos c25] at H
          have c25b0 : decide (0 ≤ x8_1) = true := decide_eq_true c25
          clear c25
          by_cases c26 : x7_1.length < 5864062014805
          ·rw [if_pos c26] at H
           have LMc26 := am c26
           clear c26
           obtain ⟨y783, hy783⟩ : ∃ y_ : List (List Int), y_ = (x7_1 ++ [rd_L1 t760 x8_1]) := ⟨_, rfl⟩
           replace H : (laws_FnMany.l0 k1 l0 t759 t760 t763 y779 y783 (wrap64 (x8_1 + 1))) = some r := by first | (rw [hy783]; exact H) | exact H
           have Ny783 := am hy783
           clear hy783
           have H' := am H
           clear H
           go_wp2_with (first | (go_at_call 39; (with_reducible refine (laws_at.calls _ _ l0 x8_1 t770 _ ?side1 ?side2 A14.out).mono ?_); (case side1 => exact cv ((Kd.C_below HR0.out HB.out))); (case side2 => exact HC0.out); rintro e w' ⟨rfl, ⟨nd, rfl⟩⟩; (try first | exact ⟨rfl, _, World.drewN_drewN _ _ _⟩ | exact ⟨rfl, _, Eq.trans (World.drewN_drewN _ _ _) (congrArg (World.drewN _) (Nat.add_assoc _ _ _))⟩)) | (go_at_call 39; (with_reducible refine (laws_at.calls _ _ l0 30 t778 _ ?side1 ?side2 A21.out).mono ?_); (case side1 => exact cv ((Kd.C_below HR0.out (bt)))); (case side2 => exact HC0.out); rintro e w' ⟨rfl, ⟨nd, rfl⟩⟩; (try first | exact ⟨rfl, _, World.drewN_drewN _ _ _⟩ | exact ⟨rfl, _, Eq.trans (World.drewN_drewN _ _ _) (congrArg (World.drewN _) (Nat.add_assoc _ _ _))⟩)) | ((with_reducible refine gate_builtin (b := .append) (xs := #[.tmp 59, .tmp 61]) rfl ?_); (try (refine gate_guard (by rfl) ?_; dsimp only)); at_builtin; refine Kd.R_append (Kd.int .i64) (w0 := w) w.heap.size rfl (.tmp 59) (.tmp 61) 29 3 (.int .i64 0) 8 rfl Try.underlying29 info3 rfl (by decide) (by omega) u6 x6_1 x8_1 [.int .i64 x8_1] (fun _ => True) (fun _ => False) rfl rfl ?aP (fun _ hk => hk.elim) ?aF ?aO ?aB ?aS ?aL ?_; (case aP => exact rfl); (case aB => exact (bt)); (case aF => exact (fun _ _ => trivial)); (case aO => exact (mv HO_6.out)); (case aS => exact (below_size (bt))); (case aL => have := LMc24.out; omega); intro v780 w27 ho hb hg hat; rw [← Ny779.out] at ho; replace HO_4 := am (Kd.N_afterv (ok := (fun k_ => nb k_ u7)) (rN (h := by exact Kd.N_mono HO_4.out (fun _ hk => ⟨hk.2, hk.1⟩))) hg hat); replace HO_7 := am (Kd.N_afterv (ok := (fun k_ => nb k_ (.slice Ao7 t760.length co7))) (mv HO_7.out) hg hat); replace HB := am (hb); have HO781 := am (ho); clear HO_6; clear ho hb hg hat; have p782 : 0 ≤ (x8_1 : Int) := of_decide_eq_true asm; have q782 : x8_1 < (t760.length : Int) := of_decide_eq_true asm; obtain ⟨ad782, A782_0, c782_0, e782, hx782_0, hl782_0, hi782_0⟩ := at_L1 (Kd.N_reads' HO_4.out).2.2 x8_1 p782 q782; cases e782; obtain ⟨ce782, hce782, hMe782, hcc782⟩ := Kd.N_get HO_4.out [] x8_1 p782 (by first | exact q782 | exact of_decide_eq_true asm | (have e_ := (Kd.N_reads' HO_4.out).1; omega)); obtain ⟨ua782_0, uc782_0, rfl, ul782_0, ge782_0⟩ := Kd.FK_slice_open hMe782; have hv782_0 := hcc782 0 _ rfl; rw [Nat.add_zero, show ((Kd.slice 5 (Kd.int .u8))).sz = 1 from rfl, Nat.mul_one] at hv782_0; replace hv782_0 := Option.some.inj (hv782_0.symm.trans hx782_0); injection hv782_0 with hva_ hvn_ hvc_; rw [hva_] at ge782_0; rw [hvc_] at ul782_0; have HL782_0 := am (show Kd.V (Kd.int .u8) 5 _ w.heap.size _ _ (rd_L1 t760 x8_1) from Kd.V_mk ul782_0 ge782_0); clear hva_ hvn_ hvc_ ge782_0 ul782_0; clear hcc782 hce782; have HR782_0 := am hi782_0; have HC782_0 := am hl782_0; clear hi782_0 hl782_0; replace p782 := eq_true p782; replace q782 := eq_true q782) | ((with_reducible refine gate_builtin (b := .append) (xs := #[.tmp 63, .tmp 68]) rfl ?_); (try (refine gate_guard (by rfl) ?_; dsimp only)); at_builtin; refine Kd.N_append (Kd.slice 5 (Kd.int .u8)) (w0 := w) w.heap.size rfl (.tmp 63) (.tmp 68) 24 22 (.slice none 0 0) 24 rfl Try.underlying24 info22 rfl (by decide) (by omega) u7 x7_1 (rd_L1 t760 x8_1) [.slice A782_0 (rd_L1 t760 x8_1).length c782_0] (fun k_ => nb k_ (.slice (some ad782) t760.length co7) ∧ nb k_ v780) (fun k_ => ((fun k_ => nb k_ (.slice (some ad782) t760.length co7) ∧ nb k_ v780)) k_ ∧ nb k_ u7) rfl rfl ?aP (fun _ hk => hk) ?aF ?aO ?aB ?aS ?aL ?_; (case aP => exact (Kd.FK_slice_mk (Kd.V_reads' (e := 0) (base := 0) (Kd.V_mono (e := 0) (base := 0) (ok' := (fun k_ => ((fun k_ => nb k_ (.slice (some ad782) t760.length co7) ∧ nb k_ v780)) k_ ∧ nb k_ u7)) (HL782_0.out) (fun k_ hk => ⟨⟨hk.2, hk.1.2⟩, hk.1.1⟩))).2.1 (Kd.V_F (e := 0) (base := 0) (Kd.V_mono (e := 0) (base := 0) (ok' := (fun k_ => ((fun k_ => nb k_ (.slice (some ad782) t760.length co7) ∧ nb k_ v780)) k_ ∧ nb k_ u7)) (HL782_0.out) (fun k_ hk => ⟨⟨hk.2, hk.1.2⟩, hk.1.1⟩))))); (case aB => exact (bt)); (case aF => exact (fun k_ hk => ⟨Kd.fresh' (Kd.N_lt (mv HO_4.out)) k_ hk, Kd.fresh' (Kd.R_lt (mv HO781.out)) k_ hk⟩)); (case aO => exact (mv HO_7.out)); (case aS => exact (below_size (bt))); (case aL => have := LMc26.out; omega); intro v784 w28 ho hb hg hat; rw [← Ny783.out] at ho; replace HO_4 := am (Kd.N_afterv (ok := (fun k_ => nb k_ v780)) (rN (h := by exact Kd.N_mono HO_4.out (fun _ hk => ⟨hk.2, hk.1⟩))) hg hat); replace HO781 := am (Kd.R_over' (mv HO781.out) (Kd.N_typed (mv HO_7.out)) (by decide) hg); replace HL782_0 := am (Kd.V_afterv (ok := (fun k_ => nb k_ (.slice (some ad782) t760.length co7) ∧ nb k_ v780)) (rV (h := by exact Kd.V_mono HL782_0.out (fun _ hk => ⟨⟨hk.2, hk.1.2⟩, hk.1.1⟩))) hg hat); replace HB := am (hb); have HO785 := am (ho); clear HO_7; clear ho hb hg hat))
           go_roundg k1
           case measure => have := HK1.out; omega
           case rel => exact ⟨(y779), (y783), (wrap64 (x8_1 + 1)), e0, H', ⟨by have := HK1.out; omega⟩, ⟨mv HO_4.out⟩, ⟨mv HO781.out⟩, ⟨mv HO785.out⟩, ⟨bt⟩⟩
          ·exact nh c26 H
         ·exact nh c25 H
        ·exact nh c24 H
       ·rw [if_neg c23] at H
        have c23b0 : (x8_1 == (Int.tmod t778 (t760.length : Int))) = false := beq_eq_false_iff_ne.mpr c23
        have c23b1 : (x8_1 != (Int.tmod t778 (t760.length : Int))) = true := bne_iff_ne.mpr c23
        have H' := am H
        clear H
        go_wp2_with (first | (go_at_call 39; (with_reducible refine (laws_at.calls _ _ l0 x8_1 t770 _ ?side1 ?side2 A14.out).mono ?_); (case side1 => exact cv ((Kd.C_below HR0.out HB.out))); (case side2 => exact HC0.out); rintro e w' ⟨rfl, ⟨nd, rfl⟩⟩; (try first | exact ⟨rfl, _, World.drewN_drewN _ _ _⟩ | exact ⟨rfl, _, Eq.trans (World.drewN_drewN _ _ _) (congrArg (World.drewN _) (Nat.add_assoc _ _ _))⟩)) | (go_at_call 39; (with_reducible refine (laws_at.calls _ _ l0 30 t778 _ ?side1 ?side2 A21.out).mono ?_); (case side1 => exact cv ((Kd.C_below HR0.out (bt)))); (case side2 => exact HC0.out); rintro e w' ⟨rfl, ⟨nd, rfl⟩⟩; (try first | exact ⟨rfl, _, World.drewN_drewN _ _ _⟩ | exact ⟨rfl, _, Eq.trans (World.drewN_drewN _ _ _) (congrArg (World.drewN _) (Nat.add_assoc _ _ _))⟩)))
        go_roundg k1
        case measure => have := HK1.out; omega
        case rel => exact ⟨(x6_1), (x7_1), (wrap64 (x8_1 + 1)), e0, H', ⟨by have := HK1.out; omega⟩, ⟨mv HO_4.out⟩, ⟨mv HO_6.out⟩, ⟨mv HO_7.out⟩, ⟨bt⟩⟩
    ·rw [if_neg c13] at H
     have c13b0 : decide (x8_1 < (t760.length : Int)) = false := decide_eq_false c13
     clear c13
     obtain ⟨⟨t786, t789⟩, A29, H⟩ := bm H
     (try dsimp -simprocs only at H)
     have HC30 := am H
     clear H
     obtain ⟨Ao31, co31, eo31⟩ := Kd.R_slice HO_6.out
     subst eo31
     go_upto_region 14 with (first | (go_at_call 40; (with_reducible refine (impl_ManyPath.calls k1 t759 _ _ t760 (fun k_ => some k_ = (.slice Ao31 x6_1.length co31 : Value).ownBlock) _ _ x6_1 t786 t789 _ ?side1 ?side2 ?side3 A29.out).mono ?_); (case side1 => exact cv ((Kd.N_reads' HO_4.out).2.2)); (case side2 => exact (Kd.N_reads' HO_4.out).2.1); (case side3 => exact Kd.R_V (Kd.R_tight rfl (Kd.R_apart' (Kd.R_apart' (HO_6.out) (Kd.N_typed HO_4.out) (by decide)) (Kd.N_typed HO_7.out) (by decide)))); rintro e w32 ⟨v787, rfl, ho0, hb⟩; replace HO_4 := am (Kd.N_elder' (mv HO_4.out) (Kd.R_base ho0) hb); replace HO_7 := am (Kd.N_elder' (mv HO_7.out) (Kd.R_base ho0) hb); have HO788 := am (Kd.R_lower (Kd.R_new' (Kd.R_mono (ok' := fun k_ => True) ho0 (fun _ hk_ => trivial)) (Kd.R_lt (mv HO_6.out))) (below_size (bt))); replace HO_6 := am (Kd.R_elder' (mv HO_6.out) (Kd.R_base ho0) hb); replace HB := am (below_step (bt) hb); (try clear hb); (try clear hb2); (try clear hk); (try clear hi); (try clear ho0)))
     (try simp only [Act.put, List.setIfInBounds_toArray, List.set_cons_zero, List.set_cons_succ])
     go_cut [100] (fun v100 wc => ∃ (kq : Nat) (x100_29 : Bool), v100 = .bool x100_29 ∧ Aside0 (laws_FnMany.j1 kq l0 t759 t760 x6_1 x100_29 = some r) ∧ Aside0 (kq ≤ k1) ∧ Aside0 (Kd.N (Kd.slice 5 (Kd.int .u8)) 22 wc w.heap.size (fun k_ => nb k_ (.slice Ao31 x6_1.length co31)) (.slice Ao7 t760.length co7) t760) ∧ Aside0 (Kd.R (Kd.int .i64) 3 wc w.heap.size (fun _ => True) (.slice Ao31 x6_1.length co31) x6_1) ∧ Aside0 (Below w.heap.size w wc))
     case first =>
      have H := HC30.out
      clear HC30
      by_cases c33 : t789 = true
      ·subst c33
       rw [if_pos rfl] at H
       obtain ⟨t790, A34, H⟩ := bm H
       (try dsimp -simprocs only at H)
       by_cases c35 : t790 = true
       ·subst c35
        rw [if_pos rfl] at H
        obtain ⟨t791, A36, H⟩ := bm H
        (try dsimp -simprocs only at H)
        have H' := am H
        clear H
        obtain ⟨Ao37, co37, eo37⟩ := Kd.N_slice HO_7.out
        subst eo37
        obtain ⟨Ao38, co38, eo38⟩ := Kd.R_slice HO788.out
        subst eo38
        go_wp2_with (first | (go_at_call 41; (with_reducible refine (impl_ManyProven.calls k1 t759 t763 (t760.length : Int) _ _ x6_1 _ _ x7_1 _ _ t786 true _ ?side1 ?side2 ?side3 ?side4 ?side5 ?side6 A34.out).mono ?_); (case side1 => exact cv ((Kd.R_reads' HO_6.out).2.2)); (case side2 => exact (Kd.R_reads' HO_6.out).2.1); (case side3 => exact cv ((Kd.N_reads' HO_7.out).2.2)); (case side4 => exact (Kd.N_reads' HO_7.out).2.1); (case side5 => exact cv ((Kd.R_reads' HO788.out).2.2)); (case side6 => exact (Kd.R_reads' HO788.out).2.1); rintro e w39 ⟨rfl, hb⟩; replace HO_4 := am (Kd.N_below (mv HO_4.out) hb); replace HO_6 := am (Kd.R_below (mv HO_6.out) hb); replace HO_7 := am (Kd.N_below (mv HO_7.out) hb); replace HO788 := am (Kd.R_below (mv HO788.out) hb); replace HB := am (below_step (bt) hb); (try clear hb); (try clear hb2); (try clear hk); (try clear hi)) | (go_at_call 42; (with_reducible refine (impl_ManyFrom.calls k1 t759 (t760.length : Int) _ _ x6_1 _ _ x7_1 _ _ t786 t791 _ ?side1 ?side2 ?side3 ?side4 ?side5 ?side6 A36.out).mono ?_); (case side1 => exact cv ((Kd.R_reads' HO_6.out).2.2)); (case side2 => exact (Kd.R_reads' HO_6.out).2.1); (case side3 => exact cv ((Kd.N_reads' HO_7.out).2.2)); (case side4 => exact (Kd.N_reads' HO_7.out).2.1); (case side5 => exact cv ((Kd.R_reads' HO788.out).2.2)); (case side6 => exact (Kd.R_reads' HO788.out).2.1); rintro e w40 ⟨rfl, hb⟩; replace HO_4 := am (Kd.N_below (mv HO_4.out) hb); replace HO_6 := am (Kd.R_below (mv HO_6.out) hb); replace HO_7 := am (Kd.N_below (mv HO_7.out) hb); replace HO788 := am (Kd.R_below (mv HO788.out) hb); replace HB := am (below_step (bt) hb); (try clear hb); (try clear hb2); (try clear hk); (try clear hi)))
        go_meet
        case rel => exact ⟨_, ((t791 != t763)), e0, H', ⟨by have := HK1.out; first | omega | exact Nat.le_refl _⟩, ⟨rN (h := by exact Kd.N_mono HO_4.out (fun _ hk => hk.1.1))⟩, ⟨rR (h := by exact Kd.R_mono HO_6.out (fun _ hk => trivial))⟩, ⟨bt⟩⟩
       ·replace c35 := Bool.eq_false_iff.mpr c35
        subst c35
        rw [if_neg nft] at H
        have H' := am H
        clear H
        obtain ⟨Ao41, co41, eo41⟩ := Kd.N_slice HO_7.out
        subst eo41
        obtain ⟨Ao42, co42, eo42⟩ := Kd.R_slice HO788.out
        subst eo42
        go_wp2_with (first | (go_at_call 41; (with_reducible refine (impl_ManyProven.calls k1 t759 t763 (t760.length : Int) _ _ x6_1 _ _ x7_1 _ _ t786 false _ ?side1 ?side2 ?side3 ?side4 ?side5 ?side6 A34.out).mono ?_); (case side1 => exact cv ((Kd.R_reads' HO_6.out).2.2)); (case side2 => exact (Kd.R_reads' HO_6.out).2.1); (case side3 => exact cv ((Kd.N_reads' HO_7.out).2.2)); (case side4 => exact (Kd.N_reads' HO_7.out).2.1); (case side5 => exact cv ((Kd.R_reads' HO788.out).2.2)); (case side6 => exact (Kd.R_reads' HO788.out).2.1); rintro e w43 ⟨rfl, hb⟩; replace HO_4 := am (Kd.N_below (mv HO_4.out) hb); replace HO_6 := am (Kd.R_below (mv HO_6.out) hb); replace HO_7 := am (Kd.N_below (mv HO_7.out) hb); replace HO788 := am (Kd.R_below (mv HO788.out) hb); replace HB := am (below_step (bt) hb); (try clear hb); (try clear hb2); (try clear hk); (try clear hi)))
        go_meet
        case rel => exact ⟨_, (true), e0, H', ⟨by have := HK1.out; first | omega | exact Nat.le_refl _⟩, ⟨rN (h := by exact Kd.N_mono HO_4.out (fun _ hk => hk.1.1))⟩, ⟨rR (h := by exact Kd.R_mono HO_6.out (fun _ hk => trivial))⟩, ⟨bt⟩⟩
      ·replace c33 := Bool.eq_false_iff.mpr c33
       subst c33
       rw [if_neg nft] at H
       have H' := am H
       clear H
       go_wp2
       go_meet
       case rel => exact ⟨_, (true), e0, H', ⟨by have := HK1.out; first | omega | exact Nat.le_refl _⟩, ⟨rN (h := by exact Kd.N_mono HO_4.out (fun _ hk => hk.1.1))⟩, ⟨rR (h := by exact Kd.R_mono HO_6.out (fun _ hk => trivial))⟩, ⟨bt⟩⟩
     case rest =>
      clear HC30
      obtain ⟨kq, x100_29, rfl, HA, HJ29, HO_4, HO_6, HB⟩ := hcut
      cases kq with
      | zero => exact absurd HA.out (by simp [laws_FnMany.j1])
      | succ kj29 =>
       have H := HA.out
       clear HA
       simp only [laws_FnMany.j1] at H
       by_cases c44 : x100_29 = true
       ·subst c44
        rw [if_pos rfl] at H
        exact absurd ((Option.some.inj H).trans hT.out) (by decide)
       ·replace c44 := Bool.eq_false_iff.mpr c44
        subst c44
        rw [if_neg nft] at H
        by_cases c45 : 0 < (x6_1.length : Int)
        ·rw [if_pos c45] at H
         have c45b0 : decide (0 < (x6_1.length : Int)) = true := decide_eq_true c45
         have c45b1 : decide (0 < x6_1.length) = true := decide_eq_true (by omega)
         clear c45
         obtain ⟨⟨t793, t794⟩, A46, H⟩ := bm H
         (try dsimp -simprocs only at H)
         obtain ⟨y797, hy797⟩ : ∃ y_ : List Int, y_ = (([rd x6_1 0] : List Int)) := ⟨_, rfl⟩
         replace H : ((impl_ManyPath.f kj29 t759 t760 y797).bind fun bt800 => (if t794 = true then (if bt800.2 = true then (laws_FnMany.j2 kj29 l0 t793 bt800.1 ((t793.length : Int) != (bt800.1.length : Int))) else (laws_FnMany.j2 kj29 l0 t793 bt800.1 true)) else (laws_FnMany.j2 kj29 l0 t793 bt800.1 true))) = some r := by first | (rw [hy797]; exact H) | exact H
         have Ny797 := am hy797
         clear hy797
         obtain ⟨⟨t800, t803⟩, A47, H⟩ := bm H
         (try dsimp -simprocs only at H)
         have HC48 := am H
         clear H
         have p792 : 0 ≤ (0 : Int) := (by omega)
         have q792 : 0 < (x6_1.length : Int) := of_decide_eq_true asm
         obtain ⟨ad792, e792, hx792_0⟩ := Kd.at_int (Kd.R_reads' HO_6.out).2.2 0 p792 q792
         cases e792
         have qi792 : (0 < x6_1.length) = True := eq_true (by omega)
         (try rw [show ((0 : Int)).toNat = 0 from rfl] at hx792_0)
         (try rw [Addr.add_zero'] at hx792_0)
         replace p792 := eq_true p792
         replace q792 := eq_true q792
         go_upto_region 19 with (first | (go_at_call 43; (with_reducible refine (impl_Path.calls kj29 t759 _ _ t760 (rd x6_1 0) t793 t794 _ ?side1 ?side2 A46.out).mono ?_); (case side1 => exact cv ((Kd.N_reads' HO_4.out).2.2)); (case side2 => exact (Kd.N_reads' HO_4.out).2.1); rintro e w49 ⟨v795, rfl, ho0, hb⟩; replace HO_4 := am (Kd.N_elder' (mv HO_4.out) (Kd.R_base ho0) hb); have HO796 := am (Kd.R_lower (Kd.R_new' ho0 (Kd.R_lt (mv HO_6.out))) (below_size (bt))); replace HO_6 := am (Kd.R_elder' (mv HO_6.out) (Kd.R_base ho0) hb); replace HB := am (below_step (bt) hb); (try clear hb); (try clear hb2); (try clear hk); (try clear hi); (try clear ho0)) | ((with_reducible refine gate_dst (N := 115) rfl ?_); (try (refine gate_guard (by rfl) ?_; dsimp only)); refine Kd.R_lit (Kd.int .i64) _ 3 ?hg (N := 115) ?hd (xs := ([rd x6_1 0] : List Int)) (inner := [.int .i64 (rd x6_1 0)]) (ok := fun _ => True) (okp := fun _ => True) ?hr ?hp (fun _ hk => hk) trivial (Below.refl _ _) (Nat.le_refl _) (by simp) ?_; (case hd => rfl); (case hg => rfl); (case hr => first | (go_simp; done) | (go_simp; rfl)); (case hp => exact (Reps.one (show Kd.M (Kd.int .i64) _ _ _ (rd x6_1 0) [.int .i64 (rd x6_1 0)] from rfl) (Reps.none _ _))); intro v798 w50 ho51 hb hg_ hnew_; clear hg_ hnew_; (first | rw [← Ny797.out] at ho51 | (simp only [Int.reduceToNat] at ho51; rw [← Ny797.out] at ho51)); replace HO_4 := am (Kd.N_elder' (mv HO_4.out) (Kd.R_base ho51) hb); have HO799 := am (Kd.R_lower (Kd.R_new' (Kd.R_new' ho51 (Kd.R_lt (mv HO_6.out))) (Kd.R_lt (mv HO796.out))) (below_size (bt))); replace HO_6 := am (Kd.R_elder' (mv HO_6.out) (Kd.R_base ho51) hb); replace HO796 := am (Kd.R_elder' (mv HO796.out) (Kd.R_base ho51) hb); replace HB := am (below_step (bt) hb); clear hb ho51; obtain ⟨Ao52, co52, eo52⟩ := Kd.R_slice HO799.out; subst eo52) | (go_at_call 40; (with_reducible refine (impl_ManyPath.calls kj29 t759 _ _ t760 (fun k_ => some k_ = (.slice Ao52 y797.length co52 : Value).ownBlock) _ _ y797 t800 t803 _ ?side1 ?side2 ?side3 A47.out).mono ?_); (case side1 => exact cv ((Kd.N_reads' HO_4.out).2.2)); (case side2 => exact (Kd.N_reads' HO_4.out).2.1); (case side3 => exact Kd.R_V (Kd.R_tight rfl (Kd.R_apart' (HO799.out) (Kd.N_typed HO_4.out) (by decide)))); rintro e w53 ⟨v801, rfl, ho0, hb⟩; replace HO_4 := am (Kd.N_elder' (mv HO_4.out) (Kd.R_base ho0) hb); have HO802 := am (Kd.R_lower (Kd.R_new' (Kd.R_new' (Kd.R_new' (Kd.R_mono (ok' := fun k_ => True) ho0 (fun _ hk_ => trivial)) (Kd.R_lt (mv HO_6.out))) (Kd.R_lt (mv HO796.out))) (Kd.R_lt (mv HO799.out))) (below_size (bt))); replace HO_6 := am (Kd.R_elder' (mv HO_6.out) (Kd.R_base ho0) hb); replace HO796 := am (Kd.R_elder' (mv HO796.out) (Kd.R_base ho0) hb); replace HO799 := am (Kd.R_elder' (mv HO799.out) (Kd.R_base ho0) hb); replace HB := am (below_step (bt) hb); (try clear hb); (try clear hb2); (try clear hk); (try clear hi); (try clear ho0)))
         (try simp only [Act.put, List.setIfInBounds_toArray, List.set_cons_zero, List.set_cons_succ])
         go_cut [131] (fun v131 wc => ∃ (kq : Nat) (x131_47 : Bool), v131 = .bool x131_47 ∧ Aside0 (laws_FnMany.j2 kq l0 t793 t800 x131_47 = some r) ∧ Aside0 (kq ≤ kj29) ∧ Aside0 (Kd.R (Kd.int .i64) 3 wc w.heap.size (fun k_ => nb k_ v801) v795 t793) ∧ Aside0 (Kd.R (Kd.int .i64) 3 wc w.heap.size (fun k_ => nb k_ v795) v801 t800) ∧ Aside0 (Below w.heap.size w wc))
         case first =>
          have H := HC48.out
          clear HC48
          by_cases c54 : t794 = true
          ·subst c54
           rw [if_pos rfl] at H
           by_cases c55 : t803 = true
           ·subst c55
            rw [if_pos rfl] at H
            have H' := am H
            clear H
            obtain ⟨Ao56, co56, eo56⟩ := Kd.R_slice HO796.out
            subst eo56
            obtain ⟨Ao57, co57, eo57⟩ := Kd.R_slice HO802.out
            subst eo57
            go_wp2
            go_meet
            case rel => exact ⟨_, (((t793.length : Int) != (t800.length : Int))), e0, H', ⟨by have := HK1.out; have := HJ29.out; first | omega | exact Nat.le_refl _⟩, ⟨rR (h := by exact Kd.R_mono HO796.out (fun _ hk => hk.2))⟩, ⟨rR (h := by exact Kd.R_mono HO802.out (fun _ hk => hk.1.2))⟩, ⟨bt⟩⟩
           ·replace c55 := Bool.eq_false_iff.mpr c55
            subst c55
            rw [if_neg nft] at H
            have H' := am H
            clear H
            go_wp2
            go_meet
            case rel => exact ⟨_, (true), e0, H', ⟨by have := HK1.out; have := HJ29.out; first | omega | exact Nat.le_refl _⟩, ⟨rR (h := by exact Kd.R_mono HO796.out (fun _ hk => hk.2))⟩, ⟨rR (h := by exact Kd.R_mono HO802.out (fun _ hk => hk.1.2))⟩, ⟨bt⟩⟩
          ·replace c54 := Bool.eq_false_iff.mpr c54
           subst c54
           rw [if_neg nft] at H
           have H' := am H
           clear H
           go_wp2
           go_meet
           case rel => exact ⟨_, (true), e0, H', ⟨by have := HK1.out; have := HJ29.out; first | omega | exact Nat.le_refl _⟩, ⟨rR (h := by exact Kd.R_mono HO796.out (fun _ hk => hk.2))⟩, ⟨rR (h := by exact Kd.R_mono HO802.out (fun _ hk => hk.1.2))⟩, ⟨bt⟩⟩
         case rest =>
          clear HC48
          obtain ⟨kq, x131_47, rfl, HA, HJ47, HO_12, HO_14, HB⟩ := hcut
          cases kq with
          | zero => exact absurd HA.out (by simp [laws_FnMany.j2])
          | succ kj47 =>
           have H := HA.out
           clear HA
           simp only [laws_FnMany.j2] at H
           by_cases c58 : x131_47 = true
           ·subst c58
            rw [if_pos rfl] at H
            exact absurd ((Option.some.inj H).trans hT.out) (by decide)
           ·replace c58 := Bool.eq_false_iff.mpr c58
            subst c58
            rw [if_neg nft] at H
            have H' := am H
            clear H
            go_wp2
            go_loopg [16] kj47 (fun kq v16 w' => ∃ (x16_4 : Int), v16 = .int .i64 x16_4 ∧ Aside0 (laws_FnMany.l1 kq l0 t793 t800 x16_4 = some r) ∧ Aside0 (kq ≤ kj47) ∧ Aside0 (Kd.R (Kd.int .i64) 3 w' w.heap.size (fun k_ => nb k_ v801) v795 t793) ∧ Aside0 (Kd.R (Kd.int .i64) 3 w' w.heap.size (fun k_ => nb k_ v795) v801 t800) ∧ Aside0 (Below w.heap.size w w'))
            case atStart => exact ⟨(0), e0, H', ⟨Nat.le_refl _⟩, ⟨mv HO_12.out⟩, ⟨mv HO_14.out⟩, ⟨bt⟩⟩
            case round =>
             clear H'
             obtain ⟨x16_4, rfl, HA, HK4, HO_12, HO_14, HB⟩ := hrel
             cases gk with
             | zero => exact absurd HA.out (by simp [laws_FnMany.l1])
             | succ k4 =>
              have H := HA.out
              clear HA
              simp only [laws_FnMany.l1] at H
              by_cases c59 : x16_4 < (t793.length : Int)
              ·rw [if_pos c59] at H
               have c59b0 : decide (x16_4 < (t793.length : Int)) = true := decide_eq_true c59
               clear c59
               by_cases c60 : 0 ≤ x16_4
               ·rw [if_pos c60] at H
                have c60b0 : decide (0 ≤ x16_4) = true := decide_eq_true c60
                clear c60
                by_cases c61 : x16_4 < (t800.length : Int)
                ·rw [if_pos c61] at H
                 have c61b0 : decide (x16_4 < (t800.length : Int)) = true := decide_eq_true c61
                 clear c61
                 by_cases c62 : (rd t793 x16_4) = (rd t800 x16_4)
                 ·rw [if_pos c62] at H
                  have c62b0 : ((rd t793 x16_4) == (rd t800 x16_4)) = true := beq_iff_eq.mpr c62
                  have c62b1 : ((rd t793 x16_4) != (rd t800 x16_4)) = false := bne_eq_false_iff_eq.mpr c62
                  clear c62
                  have H' := am H
                  clear H
                  obtain ⟨Ao63, co63, eo63⟩ := Kd.R_slice HO_12.out
                  subst eo63
                  have p804 : 0 ≤ (x16_4 : Int) := of_decide_eq_true asm
                  have q804 : x16_4 < (t793.length : Int) := of_decide_eq_true asm
                  obtain ⟨ad804, e804, hx804_0⟩ := Kd.at_int (Kd.R_reads' HO_12.out).2.2 x16_4 p804 q804
                  cases e804
                  replace p804 := eq_true p804
                  replace q804 := eq_true q804
                  obtain ⟨Ao64, co64, eo64⟩ := Kd.R_slice HO_14.out
                  subst eo64
                  have p805 : 0 ≤ (x16_4 : Int) := of_decide_eq_true asm
                  have q805 : x16_4 < (t800.length : Int) := of_decide_eq_true asm
                  obtain ⟨ad805, e805, hx805_0⟩ := Kd.at_int (Kd.R_reads' HO_14.out).2.2 x16_4 p805 q805
                  cases e805
                  replace p805 := eq_true p805
                  replace q805 := eq_true q805
                  go_wp2
                  repeat (go_quiet (fail); try go_wp2)
                  go_roundg k4
                  case measure => have := HK1.out; have := HJ29.out; have := HJ47.out; have := HK4.out; omega
                  case rel => exact ⟨(wrap64 (x16_4 + 1)), e0, H', ⟨by have := HK1.out; have := HJ29.out; have := HJ47.out; have := HK4.out; omega⟩, ⟨mv HO_12.out⟩, ⟨mv HO_14.out⟩, ⟨bt⟩⟩
                 ·rw [if_neg c62] at H
                  have c62b0 : ((rd t793 x16_4) == (rd t800 x16_4)) = false := beq_eq_false_iff_ne.mpr c62
                  have c62b1 : ((rd t793 x16_4) != (rd t800 x16_4)) = true := bne_iff_ne.mpr c62
                  exact absurd ((Option.some.inj H).trans hT.out) (by decide)
                ·exact nh c61 H
               ·exact nh c60 H
              ·rw [if_neg c59] at H
               have c59b0 : decide (x16_4 < (t793.length : Int)) = false := decide_eq_false c59
               clear c59
               obtain ⟨⟨t806, t807, t808, t811, t814, t817⟩, A65, H⟩ := bm H
               (try dsimp -simprocs only at H)
               obtain ⟨⟨t820, t823, t826⟩, A66, H⟩ := bm H
               (try dsimp -simprocs only at H)
               obtain ⟨t828, A67, H⟩ := bm H
               (try dsimp -simprocs only at H)
               obtain ⟨t829, A68, H⟩ := bm H
               (try dsimp -simprocs only at H)
               obtain ⟨Ao73, co73, eo73⟩ := Kd.R_slice HO_12.out
               subst eo73
               have H0_ := am H
               clear H
               go_upto_region 28 with (first | (go_at_call 44; (with_reducible refine (spec_DrawFromMany.calls k4 _ _ l0 t806 t807 t808 t811 t814 t817 _ ?side1 ?side2 A65.out).mono ?_); (case side1 => exact cv ((Kd.C_below HR0.out HB.out))); (case side2 => exact HC0.out); rintro e w74 ⟨v809, v812, v815, v818, rfl, ho0, ho1, ho2, ho3, hb⟩; have HO810 := am (Kd.R_lower (Kd.R_new' (Kd.R_new' (Kd.R_mono (ok' := fun k_ => nb k_ v818) ho0 (fun _ hk_ => hk_.2)) (Kd.R_lt (mv HO_12.out))) (Kd.R_lt (mv HO_14.out))) (below_size (bt))); have HO813 := am (Kd.N_lower (Kd.N_mono (ok' := fun k_ => nb k_ v809 ∧ nb k_ v815 ∧ nb k_ v818 ∧ nb k_ (.slice Ao73 t793.length co73) ∧ nb k_ v801) ho1 (fun k_ hk_ => ⟨hk_.2.1, hk_.2.2.1, hk_.2.2.2, (Kd.fresh' (Kd.R_lt (mv HO_12.out)) k_ hk_.1), (Kd.fresh' (Kd.R_lt (mv HO_14.out)) k_ hk_.1)⟩)) (below_size (bt))); have HO816 := am (Kd.N_lower (Kd.N_mono (ok' := fun k_ => nb k_ v809 ∧ nb k_ v812 ∧ nb k_ v818 ∧ nb k_ (.slice Ao73 t793.length co73) ∧ nb k_ v801) ho2 (fun k_ hk_ => ⟨hk_.2.1, hk_.2.2.1, hk_.2.2.2, (Kd.fresh' (Kd.R_lt (mv HO_12.out)) k_ hk_.1), (Kd.fresh' (Kd.R_lt (mv HO_14.out)) k_ hk_.1)⟩)) (below_size (bt))); have HO819 := am (Kd.R_lower (Kd.R_new' (Kd.R_new' (Kd.R_mono (ok' := fun k_ => nb k_ v809) ho3 (fun _ hk_ => hk_.2)) (Kd.R_lt (mv HO_12.out))) (Kd.R_lt (mv HO_14.out))) (below_size (bt))); replace HO_12 := am (Kd.R_mono (Kd.R_told (Kd.R_told (Kd.R_old (mv HO_12.out) hb) (Kd.R_base ho0)) (Kd.R_base ho3)) (fun _ h_ => h_.1)); replace HO_14 := am (Kd.R_mono (Kd.R_told (Kd.R_told (Kd.R_old (mv HO_14.out) hb) (Kd.R_base ho0)) (Kd.R_base ho3)) (fun _ h_ => h_.1)); replace HB := am (below_step (bt) hb); (try clear hb); (try clear hb2); (try clear hk); (try clear hi); (try clear ho0); (try clear ho1); (try clear ho2); (try clear ho3); obtain ⟨Ao75, co75, eo75⟩ := Kd.R_slice HO810.out; subst eo75; obtain ⟨Ao76, co76, eo76⟩ := Kd.N_slice HO813.out; subst eo76; obtain ⟨Ao77, co77, eo77⟩ := Kd.N_slice HO816.out; subst eo77; obtain ⟨Ao78, co78, eo78⟩ := Kd.R_slice HO819.out; subst eo78) | (go_at_call 45; (with_reducible refine (impl_FromMany.calls k4 t806 t807 _ _ t808 _ _ t811 _ _ t814 _ _ t817 t820 t823 t826 _ ?side1 ?side2 ?side3 ?side4 ?side5 ?side6 ?side7 ?side8 A66.out).mono ?_); (case side1 => exact cv ((Kd.R_reads' HO810.out).2.2)); (case side2 => exact (Kd.R_reads' HO810.out).2.1); (case side3 => exact cv ((Kd.N_reads' HO813.out).2.2)); (case side4 => exact (Kd.N_reads' HO813.out).2.1); (case side5 => exact cv ((Kd.N_reads' HO816.out).2.2)); (case side6 => exact (Kd.N_reads' HO816.out).2.1); (case side7 => exact cv ((Kd.R_reads' HO819.out).2.2)); (case side8 => exact (Kd.R_reads' HO819.out).2.1); rintro e w79 ⟨v821, v824, rfl, ho0, ho1, hb⟩; replace HO_12 := am (Kd.R_below (mv HO_12.out) hb); replace HO_14 := am (Kd.R_below (mv HO_14.out) hb); replace HO810 := am (Kd.R_below (mv HO810.out) hb); replace HO813 := am (Kd.N_mono (Kd.N_told (Kd.N_told (Kd.N_old (mv HO813.out) hb) (Kd.R_base ho0)) (Kd.R_base ho1)) (fun _ h_ => h_.1)); replace HO816 := am (Kd.N_mono (Kd.N_told (Kd.N_told (Kd.N_old (mv HO816.out) hb) (Kd.R_base ho0)) (Kd.R_base ho1)) (fun _ h_ => h_.1)); replace HO819 := am (Kd.R_below (mv HO819.out) hb); have HO822 := am (Kd.R_lower ho0 (below_size (bt))); have HO825 := am (Kd.R_lower ho1 (below_size (bt))); replace HB := am (below_step (bt) hb); (try clear hb); (try clear hb2); (try clear hk); (try clear hi); (try clear ho0); (try clear ho1)) | ((with_reducible refine gate_dst (N := 23) rfl ?_); (try (refine gate_guard (by rfl) ?_; dsimp only)); refine box_event ?hg (N := 23) ?hd (cs := #[.slice none 0 0, .slice none 0 0]) (t := 33) ?hr ?_; (case hd => rfl); (case hg => rfl); (case hr => first | (go_simp; done) | (go_simp; rfl)); intro gb827 hg w80 hbox hb; replace HO_12 := am (Kd.R_below (mv HO_12.out) hb); replace HO_14 := am (Kd.R_below (mv HO_14.out) hb); replace HO810 := am (Kd.R_below (mv HO810.out) hb); replace HO813 := am (Kd.N_below (Kd.N_elderB (mv HO813.out) gb827 (Nat.le_of_eq hg.symm)) hb); replace HO816 := am (Kd.N_below (Kd.N_elderB (mv HO816.out) gb827 (Nat.le_of_eq hg.symm)) hb); replace HO819 := am (Kd.R_below (mv HO819.out) hb); replace HO822 := am (Kd.R_below (mv HO822.out) hb); replace HO825 := am (Kd.R_below (mv HO825.out) hb); have BK827 := am (hbox); have GW827 := am ((by rw [hg]; exact (below_size (bt)) : w.heap.size ≤ gb827)); have GE827 := am ((by rw [hg]; exact (below_size (bt)) : w.heap.size ≤ gb827)); replace HB := am (below_step (bt) hb); clear hb hbox hg; obtain ⟨Ao81, co81, eo81⟩ := Kd.R_slice HO822.out; subst eo81; have hcz82_0 : w80.cell? ⟨gb827, 0, none⟩ = some (.slice none 0 0) := (blk_cell BK827.out 0).trans rfl; have hcz82_1 : w80.cell? ⟨gb827, 1, none⟩ = some (.slice none 0 0) := (blk_cell BK827.out 1).trans rfl; have hfz82_0 := blk_frozen BK827.out 0; have hfz82_1 := blk_frozen BK827.out 1; obtain ⟨Ao83, co83, eo83⟩ := Kd.R_slice HO825.out; subst eo83))
               have H := H0_.out
               clear H0_
               by_cases c69 : t826 = true
               ·subst c69
                rw [if_pos rfl] at H
                obtain ⟨t830, A70, H⟩ := bm H
                (try dsimp -simprocs only at H)
                by_cases c71 : t830 = true
                ·subst c71
                 rw [if_pos rfl] at H
                 by_cases c72 : t828 ≥ 0
                 ·rw [if_pos c72] at H
                  have c72b0 : decide (0 ≤ t828) = true := decide_eq_true c72
                  clear c72
                  obtain rfl := Option.some.inj H
                  go_wp2_with (first | (go_at_call 42; (with_reducible refine (impl_ManyFrom.calls k4 t806 t807 _ _ t808 _ _ t811 _ _ t817 t828 _ ?side1 ?side2 ?side3 ?side4 ?side5 ?side6 A67.out).mono ?_); (case side1 => refine (Kd.R_reads' (e := 3) (base := w.heap.size) (ok := fun k_ => ((nb k_ (.slice Ao78 t817.length co78) ∧ nb k_ (.slice Ao73 t793.length co73)) ∧ nb k_ v801)) (n := t808.length) (c := co75) ?_).2.2; exact (rR (h := by exact (Kd.R_mono (Kd.R_far (p := ⟨gb827, 1, none⟩) (Kd.R_far (p := ⟨gb827, 0, none⟩) (Kd.R_types HO810.out BK827.out (by decide)) (fun _ hk => hk.2) (.slice Ao81 t820.length co81)) (fun _ hk => hk.2) (.slice Ao83 t823.length co83)) (fun _ h_ => h_.1))))); (case side2 => exact (Kd.R_reads' HO810.out).2.1); (case side3 => refine (Kd.N_reads' (e := 22) (base := w.heap.size) (ok := fun k_ => ((((nb k_ (.slice Ao75 t808.length co75) ∧ (nb k_ (.slice Ao77 t814.length co77) ∧ (nb k_ (.slice Ao78 t817.length co78) ∧ (nb k_ (.slice Ao73 t793.length co73) ∧ nb k_ v801)))) ∧ nb k_ (.slice Ao81 t820.length co81)) ∧ nb k_ (.slice Ao83 t823.length co83)) ∧ k_ ≠ gb827)) (n := t811.length) (c := co76) ?_).2.2; exact (rN (h := by exact (Kd.N_mono (Kd.N_far (p := ⟨gb827, 1, none⟩) (Kd.N_far (p := ⟨gb827, 0, none⟩) (Kd.N_mono HO813.out (fun k_ hk => (⟨hk, hk.2⟩ : _ ∧ k_ ≠ gb827))) (fun _ hk => hk.2) (.slice Ao81 t820.length co81)) (fun _ hk => hk.2) (.slice Ao83 t823.length co83)) (fun _ h_ => h_.1))))); (case side4 => exact (Kd.N_reads' HO813.out).2.1); (case side5 => refine (Kd.R_reads' (e := 3) (base := w.heap.size) (ok := fun k_ => ((nb k_ (.slice Ao75 t808.length co75) ∧ nb k_ (.slice Ao73 t793.length co73)) ∧ nb k_ v801)) (n := t817.length) (c := co78) ?_).2.2; exact (rR (h := by exact (Kd.R_mono (Kd.R_far (p := ⟨gb827, 1, none⟩) (Kd.R_far (p := ⟨gb827, 0, none⟩) (Kd.R_types HO819.out BK827.out (by decide)) (fun _ hk => hk.2) (.slice Ao81 t820.length co81)) (fun _ hk => hk.2) (.slice Ao83 t823.length co83)) (fun _ h_ => h_.1))))); (case side6 => exact (Kd.R_reads' HO819.out).2.1); rintro e w84 ⟨rfl, hb⟩; replace HO_12 := am (Kd.R_below (rR (h := by exact (Kd.R_mono (Kd.R_far (p := ⟨gb827, 1, none⟩) (Kd.R_far (p := ⟨gb827, 0, none⟩) (Kd.R_types HO_12.out BK827.out (by decide)) (fun _ hk => hk.2) (.slice Ao81 t820.length co81)) (fun _ hk => hk.2) (.slice Ao83 t823.length co83)) (fun _ h_ => h_.1)))) hb); replace HO_14 := am (Kd.R_below (rR (h := by exact (Kd.R_mono (Kd.R_far (p := ⟨gb827, 1, none⟩) (Kd.R_far (p := ⟨gb827, 0, none⟩) (Kd.R_types HO_14.out BK827.out (by decide)) (fun _ hk => hk.2) (.slice Ao81 t820.length co81)) (fun _ hk => hk.2) (.slice Ao83 t823.length co83)) (fun _ h_ => h_.1)))) hb); replace HO810 := am (Kd.R_below (rR (h := by exact (Kd.R_mono (Kd.R_far (p := ⟨gb827, 1, none⟩) (Kd.R_far (p := ⟨gb827, 0, none⟩) (Kd.R_types HO810.out BK827.out (by decide)) (fun _ hk => hk.2) (.slice Ao81 t820.length co81)) (fun _ hk => hk.2) (.slice Ao83 t823.length co83)) (fun _ h_ => h_.1)))) hb); replace HO813 := am (Kd.N_below (rN (h := by exact (Kd.N_mono (Kd.N_far (p := ⟨gb827, 1, none⟩) (Kd.N_far (p := ⟨gb827, 0, none⟩) (Kd.N_mono HO813.out (fun k_ hk => (⟨hk, hk.2⟩ : _ ∧ k_ ≠ gb827))) (fun _ hk => hk.2) (.slice Ao81 t820.length co81)) (fun _ hk => hk.2) (.slice Ao83 t823.length co83)) (fun _ h_ => h_.1)))) hb); replace HO816 := am (Kd.N_below (rN (h := by exact (Kd.N_mono (Kd.N_far (p := ⟨gb827, 1, none⟩) (Kd.N_far (p := ⟨gb827, 0, none⟩) (Kd.N_mono HO816.out (fun k_ hk => (⟨hk, hk.2⟩ : _ ∧ k_ ≠ gb827))) (fun _ hk => hk.2) (.slice Ao81 t820.length co81)) (fun _ hk => hk.2) (.slice Ao83 t823.length co83)) (fun _ h_ => h_.1)))) hb); replace HO819 := am (Kd.R_below (rR (h := by exact (Kd.R_mono (Kd.R_far (p := ⟨gb827, 1, none⟩) (Kd.R_far (p := ⟨gb827, 0, none⟩) (Kd.R_types HO819.out BK827.out (by decide)) (fun _ hk => hk.2) (.slice Ao81 t820.length co81)) (fun _ hk => hk.2) (.slice Ao83 t823.length co83)) (fun _ h_ => h_.1)))) hb); replace HO822 := am (Kd.R_below (rR (h := by exact (Kd.R_mono (Kd.R_far (p := ⟨gb827, 1, none⟩) (Kd.R_far (p := ⟨gb827, 0, none⟩) (Kd.R_types HO822.out BK827.out (by decide)) (fun _ hk => hk.2) (.slice Ao81 t820.length co81)) (fun _ hk => hk.2) (.slice Ao83 t823.length co83)) (fun _ h_ => h_.1)))) hb); replace HO825 := am (Kd.R_below (rR (h := by exact (Kd.R_mono (Kd.R_far (p := ⟨gb827, 1, none⟩) (Kd.R_far (p := ⟨gb827, 0, none⟩) (Kd.R_types HO825.out BK827.out (by decide)) (fun _ hk => hk.2) (.slice Ao81 t820.length co81)) (fun _ hk => hk.2) (.slice Ao83 t823.length co83)) (fun _ h_ => h_.1)))) hb); replace BK827 := am (blk_below (g := gb827) (o := .cells #[.slice Ao81 t820.length co81, .slice Ao83 t823.length co83] 33 (0, 0)) (by (with_reducible repeat (first | refine blk_drewN ?_ _ | refine blk_drew ?_ | refine blk_alloc ?_ _)); refine blk_put (cs := #[.slice Ao81 t820.length co81, .slice none 0 0]) ?_ 1 _ rfl; (with_reducible repeat (first | refine blk_drewN ?_ _ | refine blk_drew ?_ | refine blk_alloc ?_ _)); refine blk_put (cs := #[.slice none 0 0, .slice none 0 0]) ?_ 0 _ rfl; (with_reducible repeat (first | refine blk_drewN ?_ _ | refine blk_drew ?_ | refine blk_alloc ?_ _)); exact BK827.out) hb); replace HB := am (below_step (b1 GE827.out) hb); (try clear hb); (try clear hb2); (try clear hk); (try clear hi)) | (go_at_call 42; (with_reducible refine (impl_ManyFrom.calls k4 t806 t807 _ _ t808 _ _ t814 _ _ t817 t829 _ ?side1 ?side2 ?side3 ?side4 ?side5 ?side6 A68.out).mono ?_); (case side1 => exact cv ((Kd.R_reads' HO810.out).2.2)); (case side2 => exact (Kd.R_reads' HO810.out).2.1); (case side3 => exact cv ((Kd.N_reads' HO816.out).2.2)); (case side4 => exact (Kd.N_reads' HO816.out).2.1); (case side5 => exact cv ((Kd.R_reads' HO819.out).2.2)); (case side6 => exact (Kd.R_reads' HO819.out).2.1); rintro e w85 ⟨rfl, hb⟩; replace HO_12 := am (Kd.R_below (mv HO_12.out) hb); replace HO_14 := am (Kd.R_below (mv HO_14.out) hb); replace HO810 := am (Kd.R_below (mv HO810.out) hb); replace HO813 := am (Kd.N_below (mv HO813.out) hb); replace HO816 := am (Kd.N_below (mv HO816.out) hb); replace HO819 := am (Kd.R_below (mv HO819.out) hb); replace HO822 := am (Kd.R_below (mv HO822.out) hb); replace HO825 := am (Kd.R_below (mv HO825.out) hb); replace BK827 := am (blk_below (g := gb827) (o := .cells #[.slice Ao81 t820.length co81, .slice Ao83 t823.length co83] 33 (0, 0)) (mb BK827.out) hb); replace HB := am (below_step (b1 GE827.out) hb); (try clear hb); (try clear hb2); (try clear hk); (try clear hi); have hcz86_0 : w85.cell? ⟨gb827, 0, none⟩ = some (.slice Ao81 t820.length co81) := (blk_cell BK827.out 0).trans rfl; have hcz86_1 : w85.cell? ⟨gb827, 1, none⟩ = some (.slice Ao83 t823.length co83) := (blk_cell BK827.out 1).trans rfl; have hfz86_0 := blk_frozen BK827.out 0; have hfz86_1 := blk_frozen BK827.out 1) | (go_at_call 13; (with_reducible refine (impl_Collides.calls t806 _ _ t820 _ _ t823 true _ ?side1 ?side2 ?side3 ?side4 A70.out).mono ?_); (case side1 => exact cv ((Kd.R_reads' HO822.out).2.2)); (case side2 => exact (Kd.R_reads' HO822.out).2.1); (case side3 => exact cv ((Kd.R_reads' HO825.out).2.2)); (case side4 => exact (Kd.R_reads' HO825.out).2.1); rintro e w87 ⟨rfl, hb⟩; replace HO_12 := am (Kd.R_below (mv HO_12.out) hb); replace HO_14 := am (Kd.R_below (mv HO_14.out) hb); replace HO810 := am (Kd.R_below (mv HO810.out) hb); replace HO813 := am (Kd.N_below (mv HO813.out) hb); replace HO816 := am (Kd.N_below (mv HO816.out) hb); replace HO819 := am (Kd.R_below (mv HO819.out) hb); replace HO822 := am (Kd.R_below (mv HO822.out) hb); replace HO825 := am (Kd.R_below (mv HO825.out) hb); replace BK827 := am (blk_below (g := gb827) (o := .cells #[.slice Ao81 t820.length co81, .slice Ao83 t823.length co83] 33 (0, 0)) (mb BK827.out) hb); replace HB := am (below_step (b1 GE827.out) hb); (try clear hb); (try clear hb2); (try clear hk); (try clear hi)))
                  go_ret
                  exact ⟨by first | rfl | (simp [errW_none, errW_some] <;> rfl) | (simp [*, errW_none, errW_some] <;> rfl), b1 GE827.out⟩
                 ·rw [if_neg c72] at H
                  have c72b0 : decide (0 ≤ t828) = false := decide_eq_false c72
                  clear c72
                  exact absurd ((Option.some.inj H).trans hT.out) (by decide)
                ·replace c71 := Bool.eq_false_iff.mpr c71
                 subst c71
                 rw [if_neg nft] at H
                 exact absurd ((Option.some.inj H).trans hT.out) (by decide)
               ·replace c69 := Bool.eq_false_iff.mpr c69
                subst c69
                rw [if_neg nft] at H
                by_cases c88 : t828 < 0
                ·rw [if_pos c88] at H
                 have c88b0 : decide (t828 < 0) = true := decide_eq_true c88
                 clear c88
                 obtain rfl := Option.some.inj H
                 go_wp2_with (first | (go_at_call 42; (with_reducible refine (impl_ManyFrom.calls k4 t806 t807 _ _ t808 _ _ t811 _ _ t817 t828 _ ?side1 ?side2 ?side3 ?side4 ?side5 ?side6 A67.out).mono ?_); (case side1 => refine (Kd.R_reads' (e := 3) (base := w.heap.size) (ok := fun k_ => ((nb k_ (.slice Ao78 t817.length co78) ∧ nb k_ (.slice Ao73 t793.length co73)) ∧ nb k_ v801)) (n := t808.length) (c := co75) ?_).2.2; exact (rR (h := by exact (Kd.R_mono (Kd.R_far (p := ⟨gb827, 1, none⟩) (Kd.R_far (p := ⟨gb827, 0, none⟩) (Kd.R_types HO810.out BK827.out (by decide)) (fun _ hk => hk.2) (.slice Ao81 t820.length co81)) (fun _ hk => hk.2) (.slice Ao83 t823.length co83)) (fun _ h_ => h_.1))))); (case side2 => exact (Kd.R_reads' HO810.out).2.1); (case side3 => refine (Kd.N_reads' (e := 22) (base := w.heap.size) (ok := fun k_ => ((((nb k_ (.slice Ao75 t808.length co75) ∧ (nb k_ (.slice Ao77 t814.length co77) ∧ (nb k_ (.slice Ao78 t817.length co78) ∧ (nb k_ (.slice Ao73 t793.length co73) ∧ nb k_ v801)))) ∧ nb k_ (.slice Ao81 t820.length co81)) ∧ nb k_ (.slice Ao83 t823.length co83)) ∧ k_ ≠ gb827)) (n := t811.length) (c := co76) ?_).2.2; exact (rN (h := by exact (Kd.N_mono (Kd.N_far (p := ⟨gb827, 1, none⟩) (Kd.N_far (p := ⟨gb827, 0, none⟩) (Kd.N_mono HO813.out (fun k_ hk => (⟨hk, hk.2⟩ : _ ∧ k_ ≠ gb827))) (fun _ hk => hk.2) (.slice Ao81 t820.length co81)) (fun _ hk => hk.2) (.slice Ao83 t823.length co83)) (fun _ h_ => h_.1))))); (case side4 => exact (Kd.N_reads' HO813.out).2.1); (case side5 => refine (Kd.R_reads' (e := 3) (base := w.heap.size) (ok := fun k_ => ((nb k_ (.slice Ao75 t808.length co75) ∧ nb k_ (.slice Ao73 t793.length co73)) ∧ nb k_ v801)) (n := t817.length) (c := co78) ?_).2.2; exact (rR (h := by exact (Kd.R_mono (Kd.R_far (p := ⟨gb827, 1, none⟩) (Kd.R_far (p := ⟨gb827, 0, none⟩) (Kd.R_types HO819.out BK827.out (by decide)) (fun _ hk => hk.2) (.slice Ao81 t820.length co81)) (fun _ hk => hk.2) (.slice Ao83 t823.length co83)) (fun _ h_ => h_.1))))); (case side6 => exact (Kd.R_reads' HO819.out).2.1); rintro e w100 ⟨rfl, hb⟩; replace HO_12 := am (Kd.R_below (rR (h := by exact (Kd.R_mono (Kd.R_far (p := ⟨gb827, 1, none⟩) (Kd.R_far (p := ⟨gb827, 0, none⟩) (Kd.R_types HO_12.out BK827.out (by decide)) (fun _ hk => hk.2) (.slice Ao81 t820.length co81)) (fun _ hk => hk.2) (.slice Ao83 t823.length co83)) (fun _ h_ => h_.1)))) hb); replace HO_14 := am (Kd.R_below (rR (h := by exact (Kd.R_mono (Kd.R_far (p := ⟨gb827, 1, none⟩) (Kd.R_far (p := ⟨gb827, 0, none⟩) (Kd.R_types HO_14.out BK827.out (by decide)) (fun _ hk => hk.2) (.slice Ao81 t820.length co81)) (fun _ hk => hk.2) (.slice Ao83 t823.length co83)) (fun _ h_ => h_.1)))) hb); replace HO810 := am (Kd.R_below (rR (h := by exact (Kd.R_mono (Kd.R_far (p := ⟨gb827, 1, none⟩) (Kd.R_far (p := ⟨gb827, 0, none⟩) (Kd.R_types HO810.out BK827.out (by decide)) (fun _ hk => hk.2) (.slice Ao81 t820.length co81)) (fun _ hk => hk.2) (.slice Ao83 t823.length co83)) (fun _ h_ => h_.1)))) hb); replace HO813 := am (Kd.N_below (rN (h := by exact (Kd.N_mono (Kd.N_far (p := ⟨gb827, 1, none⟩) (Kd.N_far (p := ⟨gb827, 0, none⟩) (Kd.N_mono HO813.out (fun k_ hk => (⟨hk, hk.2⟩ : _ ∧ k_ ≠ gb827))) (fun _ hk => hk.2) (.slice Ao81 t820.length co81)) (fun _ hk => hk.2) (.slice Ao83 t823.length co83)) (fun _ h_ => h_.1)))) hb); replace HO816 := am (Kd.N_below (rN (h := by exact (Kd.N_mono (Kd.N_far (p := ⟨gb827, 1, none⟩) (Kd.N_far (p := ⟨gb827, 0, none⟩) (Kd.N_mono HO816.out (fun k_ hk => (⟨hk, hk.2⟩ : _ ∧ k_ ≠ gb827))) (fun _ hk => hk.2) (.slice Ao81 t820.length co81)) (fun _ hk => hk.2) (.slice Ao83 t823.length co83)) (fun _ h_ => h_.1)))) hb); replace HO819 := am (Kd.R_below (rR (h := by exact (Kd.R_mono (Kd.R_far (p := ⟨gb827, 1, none⟩) (Kd.R_far (p := ⟨gb827, 0, none⟩) (Kd.R_types HO819.out BK827.out (by decide)) (fun _ hk => hk.2) (.slice Ao81 t820.length co81)) (fun _ hk => hk.2) (.slice Ao83 t823.length co83)) (fun _ h_ => h_.1)))) hb); replace HO822 := am (Kd.R_below (rR (h := by exact (Kd.R_mono (Kd.R_far (p := ⟨gb827, 1, none⟩) (Kd.R_far (p := ⟨gb827, 0, none⟩) (Kd.R_types HO822.out BK827.out (by decide)) (fun _ hk => hk.2) (.slice Ao81 t820.length co81)) (fun _ hk => hk.2) (.slice Ao83 t823.length co83)) (fun _ h_ => h_.1)))) hb); replace HO825 := am (Kd.R_below (rR (h := by exact (Kd.R_mono (Kd.R_far (p := ⟨gb827, 1, none⟩) (Kd.R_far (p := ⟨gb827, 0, none⟩) (Kd.R_types HO825.out BK827.out (by decide)) (fun _ hk => hk.2) (.slice Ao81 t820.length co81)) (fun _ hk => hk.2) (.slice Ao83 t823.length co83)) (fun _ h_ => h_.1)))) hb); replace BK827 := am (blk_below (g := gb827) (o := .cells #[.slice Ao81 t820.length co81, .slice Ao83 t823.length co83] 33 (0, 0)) (by (with_reducible repeat (first | refine blk_drewN ?_ _ | refine blk_drew ?_ | refine blk_alloc ?_ _)); refine blk_put (cs := #[.slice Ao81 t820.length co81, .slice none 0 0]) ?_ 1 _ rfl; (with_reducible repeat (first | refine blk_drewN ?_ _ | refine blk_drew ?_ | refine blk_alloc ?_ _)); refine blk_put (cs := #[.slice none 0 0, .slice none 0 0]) ?_ 0 _ rfl; (with_reducible repeat (first | refine blk_drewN ?_ _ | refine blk_drew ?_ | refine blk_alloc ?_ _)); exact BK827.out) hb); replace HB := am (below_step (b1 GE827.out) hb); (try clear hb); (try clear hb2); (try clear hk); (try clear hi)) | (go_at_call 42; (with_reducible refine (impl_ManyFrom.calls k4 t806 t807 _ _ t808 _ _ t814 _ _ t817 t829 _ ?side1 ?side2 ?side3 ?side4 ?side5 ?side6 A68.out).mono ?_); (case side1 => exact cv ((Kd.R_reads' HO810.out).2.2)); (case side2 => exact (Kd.R_reads' HO810.out).2.1); (case side3 => exact cv ((Kd.N_reads' HO816.out).2.2)); (case side4 => exact (Kd.N_reads' HO816.out).2.1); (case side5 => exact cv ((Kd.R_reads' HO819.out).2.2)); (case side6 => exact (Kd.R_reads' HO819.out).2.1); rintro e w101 ⟨rfl, hb⟩; replace HO_12 := am (Kd.R_below (mv HO_12.out) hb); replace HO_14 := am (Kd.R_below (mv HO_14.out) hb); replace HO810 := am (Kd.R_below (mv HO810.out) hb); replace HO813 := am (Kd.N_below (mv HO813.out) hb); replace HO816 := am (Kd.N_below (mv HO816.out) hb); replace HO819 := am (Kd.R_below (mv HO819.out) hb); replace HO822 := am (Kd.R_below (mv HO822.out) hb); replace HO825 := am (Kd.R_below (mv HO825.out) hb); replace BK827 := am (blk_below (g := gb827) (o := .cells #[.slice Ao81 t820.length co81, .slice Ao83 t823.length co83] 33 (0, 0)) (mb BK827.out) hb); replace HB := am (below_step (b1 GE827.out) hb); (try clear hb); (try clear hb2); (try clear hk); (try clear hi)))
                 go_ret
                 exact ⟨by first | rfl | (simp [errW_none, errW_some] <;> rfl) | (simp [*, errW_none, errW_some] <;> rfl), b1 GE827.out⟩
                ·rw [if_neg c88] at H
                 have c88b0 : decide (t828 < 0) = false := decide_eq_false c88
                 clear c88
                 by_cases c102 : t828 = t829
                 ·rw [if_pos c102] at H
                  have c102b0 : (t828 == t829) = true := beq_iff_eq.mpr c102
                  have c102b1 : (t828 != t829) = false := bne_eq_false_iff_eq.mpr c102
                  clear c102
                  obtain ⟨t831, A103, H⟩ := bm H
                  (try dsimp -simprocs only at H)
                  obtain rfl := Option.some.inj H
                  go_wp2_with (first | (go_at_call 42; (with_reducible refine (impl_ManyFrom.calls k4 t806 t807 _ _ t808 _ _ t811 _ _ t817 t828 _ ?side1 ?side2 ?side3 ?side4 ?side5 ?side6 A67.out).mono ?_); (case side1 => refine (Kd.R_reads' (e := 3) (base := w.heap.size) (ok := fun k_ => ((nb k_ (.slice Ao78 t817.length co78) ∧ nb k_ (.slice Ao73 t793.length co73)) ∧ nb k_ v801)) (n := t808.length) (c := co75) ?_).2.2; exact (rR (h := by exact (Kd.R_mono (Kd.R_far (p := ⟨gb827, 1, none⟩) (Kd.R_far (p := ⟨gb827, 0, none⟩) (Kd.R_types HO810.out BK827.out (by decide)) (fun _ hk => hk.2) (.slice Ao81 t820.length co81)) (fun _ hk => hk.2) (.slice Ao83 t823.length co83)) (fun _ h_ => h_.1))))); (case side2 => exact (Kd.R_reads' HO810.out).2.1); (case side3 => refine (Kd.N_reads' (e := 22) (base := w.heap.size) (ok := fun k_ => ((((nb k_ (.slice Ao75 t808.length co75) ∧ (nb k_ (.slice Ao77 t814.length co77) ∧ (nb k_ (.slice Ao78 t817.length co78) ∧ (nb k_ (.slice Ao73 t793.length co73) ∧ nb k_ v801)))) ∧ nb k_ (.slice Ao81 t820.length co81)) ∧ nb k_ (.slice Ao83 t823.length co83)) ∧ k_ ≠ gb827)) (n := t811.length) (c := co76) ?_).2.2; exact (rN (h := by exact (Kd.N_mono (Kd.N_far (p := ⟨gb827, 1, none⟩) (Kd.N_far (p := ⟨gb827, 0, none⟩) (Kd.N_mono HO813.out (fun k_ hk => (⟨hk, hk.2⟩ : _ ∧ k_ ≠ gb827))) (fun _ hk => hk.2) (.slice Ao81 t820.length co81)) (fun _ hk => hk.2) (.slice Ao83 t823.length co83)) (fun _ h_ => h_.1))))); (case side4 => exact (Kd.N_reads' HO813.out).2.1); (case side5 => refine (Kd.R_reads' (e := 3) (base := w.heap.size) (ok := fun k_ => ((nb k_ (.slice Ao75 t808.length co75) ∧ nb k_ (.slice Ao73 t793.length co73)) ∧ nb k_ v801)) (n := t817.length) (c := co78) ?_).2.2; exact (rR (h := by exact (Kd.R_mono (Kd.R_far (p := ⟨gb827, 1, none⟩) (Kd.R_far (p := ⟨gb827, 0, none⟩) (Kd.R_types HO819.out BK827.out (by decide)) (fun _ hk => hk.2) (.slice Ao81 t820.length co81)) (fun _ hk => hk.2) (.slice Ao83 t823.length co83)) (fun _ h_ => h_.1))))); (case side6 => exact (Kd.R_reads' HO819.out).2.1); rintro e w115 ⟨rfl, hb⟩; replace HO_12 := am (Kd.R_below (rR (h := by exact (Kd.R_mono (Kd.R_far (p := ⟨gb827, 1, none⟩) (Kd.R_far (p := ⟨gb827, 0, none⟩) (Kd.R_types HO_12.out BK827.out (by decide)) (fun _ hk => hk.2) (.slice Ao81 t820.length co81)) (fun _ hk => hk.2) (.slice Ao83 t823.length co83)) (fun _ h_ => h_.1)))) hb); replace HO_14 := am (Kd.R_below (rR (h := by exact (Kd.R_mono (Kd.R_far (p := ⟨gb827, 1, none⟩) (Kd.R_far (p := ⟨gb827, 0, none⟩) (Kd.R_types HO_14.out BK827.out (by decide)) (fun _ hk => hk.2) (.slice Ao81 t820.length co81)) (fun _ hk => hk.2) (.slice Ao83 t823.length co83)) (fun _ h_ => h_.1)))) hb); replace HO810 := am (Kd.R_below (rR (h := by exact (Kd.R_mono (Kd.R_far (p := ⟨gb827, 1, none⟩) (Kd.R_far (p := ⟨gb827, 0, none⟩) (Kd.R_types HO810.out BK827.out (by decide)) (fun _ hk => hk.2) (.slice Ao81 t820.length co81)) (fun _ hk => hk.2) (.slice Ao83 t823.length co83)) (fun _ h_ => h_.1)))) hb); replace HO813 := am (Kd.N_below (rN (h := by exact (Kd.N_mono (Kd.N_far (p := ⟨gb827, 1, none⟩) (Kd.N_far (p := ⟨gb827, 0, none⟩) (Kd.N_mono HO813.out (fun k_ hk => (⟨hk, hk.2⟩ : _ ∧ k_ ≠ gb827))) (fun _ hk => hk.2) (.slice Ao81 t820.length co81)) (fun _ hk => hk.2) (.slice Ao83 t823.length co83)) (fun _ h_ => h_.1)))) hb); replace HO816 := am (Kd.N_below (rN (h := by exact (Kd.N_mono (Kd.N_far (p := ⟨gb827, 1, none⟩) (Kd.N_far (p := ⟨gb827, 0, none⟩) (Kd.N_mono HO816.out (fun k_ hk => (⟨hk, hk.2⟩ : _ ∧ k_ ≠ gb827))) (fun _ hk => hk.2) (.slice Ao81 t820.length co81)) (fun _ hk => hk.2) (.slice Ao83 t823.length co83)) (fun _ h_ => h_.1)))) hb); replace HO819 := am (Kd.R_below (rR (h := by exact (Kd.R_mono (Kd.R_far (p := ⟨gb827, 1, none⟩) (Kd.R_far (p := ⟨gb827, 0, none⟩) (Kd.R_types HO819.out BK827.out (by decide)) (fun _ hk => hk.2) (.slice Ao81 t820.length co81)) (fun _ hk => hk.2) (.slice Ao83 t823.length co83)) (fun _ h_ => h_.1)))) hb); replace HO822 := am (Kd.R_below (rR (h := by exact (Kd.R_mono (Kd.R_far (p := ⟨gb827, 1, none⟩) (Kd.R_far (p := ⟨gb827, 0, none⟩) (Kd.R_types HO822.out BK827.out (by decide)) (fun _ hk => hk.2) (.slice Ao81 t820.length co81)) (fun _ hk => hk.2) (.slice Ao83 t823.length co83)) (fun _ h_ => h_.1)))) hb); replace HO825 := am (Kd.R_below (rR (h := by exact (Kd.R_mono (Kd.R_far (p := ⟨gb827, 1, none⟩) (Kd.R_far (p := ⟨gb827, 0, none⟩) (Kd.R_types HO825.out BK827.out (by decide)) (fun _ hk => hk.2) (.slice Ao81 t820.length co81)) (fun _ hk => hk.2) (.slice Ao83 t823.length co83)) (fun _ h_ => h_.1)))) hb); replace BK827 := am (blk_below (g := gb827) (o := .cells #[.slice Ao81 t820.length co81, .slice Ao83 t823.length co83] 33 (0, 0)) (by (with_reducible repeat (first | refine blk_drewN ?_ _ | refine blk_drew ?_ | refine blk_alloc ?_ _)); refine blk_put (cs := #[.slice Ao81 t820.length co81, .slice none 0 0]) ?_ 1 _ rfl; (with_reducible repeat (first | refine blk_drewN ?_ _ | refine blk_drew ?_ | refine blk_alloc ?_ _)); refine blk_put (cs := #[.slice none 0 0, .slice none 0 0]) ?_ 0 _ rfl; (with_reducible repeat (first | refine blk_drewN ?_ _ | refine blk_drew ?_ | refine blk_alloc ?_ _)); exact BK827.out) hb); replace HB := am (below_step (b1 GE827.out) hb); (try clear hb); (try clear hb2); (try clear hk); (try clear hi)) | (go_at_call 42; (with_reducible refine (impl_ManyFrom.calls k4 t806 t807 _ _ t808 _ _ t814 _ _ t817 t829 _ ?side1 ?side2 ?side3 ?side4 ?side5 ?side6 A68.out).mono ?_); (case side1 => exact cv ((Kd.R_reads' HO810.out).2.2)); (case side2 => exact (Kd.R_reads' HO810.out).2.1); (case side3 => exact cv ((Kd.N_reads' HO816.out).2.2)); (case side4 => exact (Kd.N_reads' HO816.out).2.1); (case side5 => exact cv ((Kd.R_reads' HO819.out).2.2)); (case side6 => exact (Kd.R_reads' HO819.out).2.1); rintro e w116 ⟨rfl, hb⟩; replace HO_12 := am (Kd.R_below (mv HO_12.out) hb); replace HO_14 := am (Kd.R_below (mv HO_14.out) hb); replace HO810 := am (Kd.R_below (mv HO810.out) hb); replace HO813 := am (Kd.N_below (mv HO813.out) hb); replace HO816 := am (Kd.N_below (mv HO816.out) hb); replace HO819 := am (Kd.R_below (mv HO819.out) hb); replace HO822 := am (Kd.R_below (mv HO822.out) hb); replace HO825 := am (Kd.R_below (mv HO825.out) hb); replace BK827 := am (blk_below (g := gb827) (o := .cells #[.slice Ao81 t820.length co81, .slice Ao83 t823.length co83] 33 (0, 0)) (mb BK827.out) hb); replace HB := am (below_step (b1 GE827.out) hb); (try clear hb); (try clear hb2); (try clear hk); (try clear hi)) | (go_at_call 19; (with_reducible refine (laws_sameLists.calls _ _ t811 _ _ t814 t831 _ ?side1 ?side2 ?side3 ?side4 A103.out).mono ?_); (case side1 => exact cv ((Kd.N_reads' HO813.out).2.2)); (case side2 => exact (Kd.N_reads' HO813.out).2.1); (case side3 => exact cv ((Kd.N_reads' HO816.out).2.2)); (case side4 => exact (Kd.N_reads' HO816.out).2.1); rintro e w' ⟨rfl, ⟨nd, rfl⟩⟩; (try first | exact ⟨rfl, _, World.drewN_drewN _ _ _⟩ | exact ⟨rfl, _, Eq.trans (World.drewN_drewN _ _ _) (congrArg (World.drewN _) (Nat.add_assoc _ _ _))⟩)))
                  go_ret
                  exact ⟨by first | rfl | (simp [errW_none, errW_some] <;> rfl) | (simp [*, errW_none, errW_some] <;> rfl), b1 GE827.out⟩
                 ·rw [if_neg c102] at H
                  have c102b0 : (t828 == t829) = false := beq_eq_false_iff_ne.mpr c102
                  have c102b1 : (t828 != t829) = true := bne_iff_ne.mpr c102
                  obtain rfl := Option.some.inj H
                  go_wp2_with (first | (go_at_call 42; (with_reducible refine (impl_ManyFrom.calls k4 t806 t807 _ _ t808 _ _ t811 _ _ t817 t828 _ ?side1 ?side2 ?side3 ?side4 ?side5 ?side6 A67.out).mono ?_); (case side1 => refine (Kd.R_reads' (e := 3) (base := w.heap.size) (ok := fun k_ => ((nb k_ (.slice Ao78 t817.length co78) ∧ nb k_ (.slice Ao73 t793.length co73)) ∧ nb k_ v801)) (n := t808.length) (c := co75) ?_).2.2; exact (rR (h := by exact (Kd.R_mono (Kd.R_far (p := ⟨gb827, 1, none⟩) (Kd.R_far (p := ⟨gb827, 0, none⟩) (Kd.R_types HO810.out BK827.out (by decide)) (fun _ hk => hk.2) (.slice Ao81 t820.length co81)) (fun _ hk => hk.2) (.slice Ao83 t823.length co83)) (fun _ h_ => h_.1))))); (case side2 => exact (Kd.R_reads' HO810.out).2.1); (case side3 => refine (Kd.N_reads' (e := 22) (base := w.heap.size) (ok := fun k_ => ((((nb k_ (.slice Ao75 t808.length co75) ∧ (nb k_ (.slice Ao77 t814.length co77) ∧ (nb k_ (.slice Ao78 t817.length co78) ∧ (nb k_ (.slice Ao73 t793.length co73) ∧ nb k_ v801)))) ∧ nb k_ (.slice Ao81 t820.length co81)) ∧ nb k_ (.slice Ao83 t823.length co83)) ∧ k_ ≠ gb827)) (n := t811.length) (c := co76) ?_).2.2; exact (rN (h := by exact (Kd.N_mono (Kd.N_far (p := ⟨gb827, 1, none⟩) (Kd.N_far (p := ⟨gb827, 0, none⟩) (Kd.N_mono HO813.out (fun k_ hk => (⟨hk, hk.2⟩ : _ ∧ k_ ≠ gb827))) (fun _ hk => hk.2) (.slice Ao81 t820.length co81)) (fun _ hk => hk.2) (.slice Ao83 t823.length co83)) (fun _ h_ => h_.1))))); (case side4 => exact (Kd.N_reads' HO813.out).2.1); (case side5 => refine (Kd.R_reads' (e := 3) (base := w.heap.size) (ok := fun k_ => ((nb k_ (.slice Ao75 t808.length co75) ∧ nb k_ (.slice Ao73 t793.length co73)) ∧ nb k_ v801)) (n := t817.length) (c := co78) ?_).2.2; exact (rR (h := by exact (Kd.R_mono (Kd.R_far (p := ⟨gb827, 1, none⟩) (Kd.R_far (p := ⟨gb827, 0, none⟩) (Kd.R_types HO819.out BK827.out (by decide)) (fun _ hk => hk.2) (.slice Ao81 t820.length co81)) (fun _ hk => hk.2) (.slice Ao83 t823.length co83)) (fun _ h_ => h_.1))))); (case side6 => exact (Kd.R_reads' HO819.out).2.1); rintro e w128 ⟨rfl, hb⟩; replace HO_12 := am (Kd.R_below (rR (h := by exact (Kd.R_mono (Kd.R_far (p := ⟨gb827, 1, none⟩) (Kd.R_far (p := ⟨gb827, 0, none⟩) (Kd.R_types HO_12.out BK827.out (by decide)) (fun _ hk => hk.2) (.slice Ao81 t820.length co81)) (fun _ hk => hk.2) (.slice Ao83 t823.length co83)) (fun _ h_ => h_.1)))) hb); replace HO_14 := am (Kd.R_below (rR (h := by exact (Kd.R_mono (Kd.R_far (p := ⟨gb827, 1, none⟩) (Kd.R_far (p := ⟨gb827, 0, none⟩) (Kd.R_types HO_14.out BK827.out (by decide)) (fun _ hk => hk.2) (.slice Ao81 t820.length co81)) (fun _ hk => hk.2) (.slice Ao83 t823.length co83)) (fun _ h_ => h_.1)))) hb); replace HO810 := am (Kd.R_below (rR (h := by exact (Kd.R_mono (Kd.R_far (p := ⟨gb827, 1, none⟩) (Kd.R_far (p := ⟨gb827, 0, none⟩) (Kd.R_types HO810.out BK827.out (by decide)) (fun _ hk => hk.2) (.slice Ao81 t820.length co81)) (fun _ hk => hk.2) (.slice Ao83 t823.length co83)) (fun _ h_ => h_.1)))) hb); replace HO813 := am (Kd.N_below (rN (h := by exact (Kd.N_mono (Kd.N_far (p := ⟨gb827, 1, none⟩) (Kd.N_far (p := ⟨gb827, 0, none⟩) (Kd.N_mono HO813.out (fun k_ hk => (⟨hk, hk.2⟩ : _ ∧ k_ ≠ gb827))) (fun _ hk => hk.2) (.slice Ao81 t820.length co81)) (fun _ hk => hk.2) (.slice Ao83 t823.length co83)) (fun _ h_ => h_.1)))) hb); replace HO816 := am (Kd.N_below (rN (h := by exact (Kd.N_mono (Kd.N_far (p := ⟨gb827, 1, none⟩) (Kd.N_far (p := ⟨gb827, 0, none⟩) (Kd.N_mono HO816.out (fun k_ hk => (⟨hk, hk.2⟩ : _ ∧ k_ ≠ gb827))) (fun _ hk => hk.2) (.slice Ao81 t820.length co81)) (fun _ hk => hk.2) (.slice Ao83 t823.length co83)) (fun _ h_ => h_.1)))) hb); replace HO819 := am (Kd.R_below (rR (h := by exact (Kd.R_mono (Kd.R_far (p := ⟨gb827, 1, none⟩) (Kd.R_far (p := ⟨gb827, 0, none⟩) (Kd.R_types HO819.out BK827.out (by decide)) (fun _ hk => hk.2) (.slice Ao81 t820.length co81)) (fun _ hk => hk.2) (.slice Ao83 t823.length co83)) (fun _ h_ => h_.1)))) hb); replace HO822 := am (Kd.R_below (rR (h := by exact (Kd.R_mono (Kd.R_far (p := ⟨gb827, 1, none⟩) (Kd.R_far (p := ⟨gb827, 0, none⟩) (Kd.R_types HO822.out BK827.out (by decide)) (fun _ hk => hk.2) (.slice Ao81 t820.length co81)) (fun _ hk => hk.2) (.slice Ao83 t823.length co83)) (fun _ h_ => h_.1)))) hb); replace HO825 := am (Kd.R_below (rR (h := by exact (Kd.R_mono (Kd.R_far (p := ⟨gb827, 1, none⟩) (Kd.R_far (p := ⟨gb827, 0, none⟩) (Kd.R_types HO825.out BK827.out (by decide)) (fun _ hk => hk.2) (.slice Ao81 t820.length co81)) (fun _ hk => hk.2) (.slice Ao83 t823.length co83)) (fun _ h_ => h_.1)))) hb); replace BK827 := am (blk_below (g := gb827) (o := .cells #[.slice Ao81 t820.length co81, .slice Ao83 t823.length co83] 33 (0, 0)) (by (with_reducible repeat (first | refine blk_drewN ?_ _ | refine blk_drew ?_ | refine blk_alloc ?_ _)); refine blk_put (cs := #[.slice Ao81 t820.length co81, .slice none 0 0]) ?_ 1 _ rfl; (with_reducible repeat (first | refine blk_drewN ?_ _ | refine blk_drew ?_ | refine blk_alloc ?_ _)); refine blk_put (cs := #[.slice none 0 0, .slice none 0 0]) ?_ 0 _ rfl; (with_reducible repeat (first | refine blk_drewN ?_ _ | refine blk_drew ?_ | refine blk_alloc ?_ _)); exact BK827.out) hb); replace HB := am (below_step (b1 GE827.out) hb); (try clear hb); (try clear hb2); (try clear hk); (try clear hi)) | (go_at_call 42; (with_reducible refine (impl_ManyFrom.calls k4 t806 t807 _ _ t808 _ _ t814 _ _ t817 t829 _ ?side1 ?side2 ?side3 ?side4 ?side5 ?side6 A68.out).mono ?_); (case side1 => exact cv ((Kd.R_reads' HO810.out).2.2)); (case side2 => exact (Kd.R_reads' HO810.out).2.1); (case side3 => exact cv ((Kd.N_reads' HO816.out).2.2)); (case side4 => exact (Kd.N_reads' HO816.out).2.1); (case side5 => exact cv ((Kd.R_reads' HO819.out).2.2)); (case side6 => exact (Kd.R_reads' HO819.out).2.1); rintro e w129 ⟨rfl, hb⟩; replace HO_12 := am (Kd.R_below (mv HO_12.out) hb); replace HO_14 := am (Kd.R_below (mv HO_14.out) hb); replace HO810 := am (Kd.R_below (mv HO810.out) hb); replace HO813 := am (Kd.N_below (mv HO813.out) hb); replace HO816 := am (Kd.N_below (mv HO816.out) hb); replace HO819 := am (Kd.R_below (mv HO819.out) hb); replace HO822 := am (Kd.R_below (mv HO822.out) hb); replace HO825 := am (Kd.R_below (mv HO825.out) hb); replace BK827 := am (blk_below (g := gb827) (o := .cells #[.slice Ao81 t820.length co81, .slice Ao83 t823.length co83] 33 (0, 0)) (mb BK827.out) hb); replace HB := am (below_step (b1 GE827.out) hb); (try clear hb); (try clear hb2); (try clear hk); (try clear hi)))
                  go_ret
                  exact ⟨by first | rfl | (simp [errW_none, errW_some] <;> rfl) | (simp [*, errW_none, errW_some] <;> rfl), b1 GE827.out⟩
        ·exact nh c45 H

/-- THE ONE PURE STATEMENT of laws_FnMany: yours. -/
def laws_FnMany.Pure : Prop := ∀ (l0 : List Int), l0.length ≤ maxLen → l0.length * 1 ≤ 140737488351232 → (∀ x ∈ l0, (Lit.int .u8 x).wf = true) → ∃ k, laws_FnMany.f k l0 = some true
theorem laws_FnMany.walk (P : laws_FnMany.Pure) (a0 : Option Addr) (len0 cap0 : Nat) (z0 : List Int) (w : World) (w0 : (a0 = none ∧ len0 = 0 ∧ cap0 = 0 ∧ z0 = []) ∨ ∃ x, a0 = some x ∧ len0 ≤ cap0 ∧ cap0 ≤ maxLen ∧ z0.length = cap0 ∧ (∀ i, i < z0.length → w.cell? (x.add i) = some (.int .u8 (z0.getD i 0))) ∧ ∀ n ∈ z0, (Lit.int .u8 n).wf = true) (y0 : len0 * 1 ≤ 140737488351232) :
  Calls Try.prog 7 #[.slice a0 len0 cap0] w fun e w' => e = .returned (.bool true) ∧ Below w.heap.size w w' := by
 obtain ⟨l0, rfl, hr0, hm0, hw0, hc0⟩ := ReadsInt.ofRowC w0
 obtain ⟨k, h⟩ := P l0 hm0 y0 hw0
 refine (laws_FnMany.calls k _ _ l0 true w ⟨rfl⟩ (Kd.C_of_reads (d := (0 : Int)) (h1 := fun _ => rfl) hr0) hc0 h).mono ?_
 rintro e w' ⟨rfl, hd⟩
 exact ⟨rfl, hd⟩

end Go.Proofs.Ytchjajbkaiefdaa.PFnMany
