-- Written by a program of this workplace (wip/mp.py) out of the translation.
import Derived.Test.YtchjajbkaiefdaaPFnManyx0
import Derived.Test.YtchjajbkaiefdaaPFnManyx1
import Derived.Test.YtchjajbkaiefdaaPFnManyx2
import Derived.Test.YtchjajbkaiefdaaPFnManyx3
import Derived.Test.YtchjajbkaiefdaaPFnManyx5
namespace Go.Proofs.Ytchjajbkaiefdaa.PFnMany
open Go.RowKit Go.Proofs.YtchjajbkaiefdaaW.PrintWords Go.Proofs.YtchjajbkaiefdaaW.PrintLast Go.Proofs.YtchjajbkaiefdaaW.PrintMore Go.Proofs.Ytchjajbkaiefdaa.Slim
attribute [local go_sem] max2_int min2_int max_two min_two max_three min_three max_four min_four   -- for this text's walks alone
set_option maxHeartbeats 8000000
set_option maxRecDepth 100000
set_option linter.unusedVariables false
set_option linter.unusedSimpArgs false

theorem lv_after {W W' : World} {ad : Addr} {A : Option Addr} {base n c cc : Nat} {i : Int} {t : List (List Int)} {ok : Nat → Prop} {row : Option Nat} {tn : Nat} (hS : Kd.S (Kd.slice 3 (Kd.int .i64)) tn W' base ok (.slice (some ad) n c) t) (h0 : 0 ≤ i) (h1 : i < (t.length : Int))
    (hg : W.grownBy W' row) (hne : some ad.block ≠ row) (hc : W.cell? (ad.add i.toNat) = some (.slice A (rd_L3 t i).length cc)) : Kd.C (Kd.int .i64) W' A (rd_L3 t i).length (rd_L3 t i) ∧ W'.cell? (ad.add i.toNat) = some (.slice A (rd_L3 t i).length cc) ∧ 0 ≤ i ∧ i < (t.length : Int) := by
  have hb : (ad.add i.toNat).block = ad.block := add_block _ _
  have hlt := World.block_lt_of_cell? W _ hc
  have e : W'.cell? (ad.add i.toNat) = W.cell? (ad.add i.toNat) := by
    have := hg.block (ad.add i.toNat).block hlt (by rw [hb]; exact hne)
    simp [World.cell?, this]
  obtain ⟨ad', A', c', e1, hx, _, hC⟩ := at_L3 (Kd.S_reads' hS).2.2 i h0 h1
  cases e1
  rw [e, hc] at hx
  injection hx with hx
  injection hx with h2 h3 h4
  subst h2
  exact ⟨hC, e.trans hc, h0, h1⟩
/-! ### impl_ManyPath: function 40 -/
mutual
def impl_ManyPath.j0 : Nat → Int → List (List Int) → List Int → Bool → Option (List Int × Bool)
 | 0, _, _, _, _ => none
 | k + 1, x0, x1, x2, x23 => if x23 = true then (some (([] : List Int), false)) else ((impl_levels.f k x0 x1).bind fun t275 => (impl_ManyPath.l0 k x2 (([] : List Int)) t275 (t275.length : Int) 0))
def impl_ManyPath.l0 : Nat → List Int → List Int → List (List Int) → Int → Int → Option (List Int × Bool)
 | 0, _, _, _, _, _ => none
 | k + 1, x2, x8, x27, x28, x29 => if x29 < x28 then (if 0 ≤ x29 then (if x29 < (x27.length : Int) then (impl_ManyPath.l1 k x2 x8 (rd_L3 x27 x29) x27 x28 x29 x2 (x2.length : Int) 0) else (none)) else (none)) else (some (x8, true))
def impl_ManyPath.l1 : Nat → List Int → List Int → List Int → List (List Int) → Int → Int → List Int → Int → Int → Option (List Int × Bool)
 | 0, _, _, _, _, _, _, _, _, _ => none
 | k + 1, x2, x8, x10, x27, x28, x29, x33, x34, x35 => if x35 < x34 then (if 0 ≤ x35 then (if x35 < (x33.length : Int) then (if (Go.bits .xor .i64 (rd x33 x35) 1) < (x10.length : Int) then ((slices_Contains_int_int.f k x2 (Go.bits .xor .i64 (rd x33 x35) 1)).bind fun t280 => (if t280 = true then (impl_ManyPath.l1 k x2 x8 x10 x27 x28 x29 x33 x34 (wrap64 (x35 + 1))) else (if 0 ≤ (Go.bits .xor .i64 (rd x33 x35) 1) then (if x8.length < 17592186044416 then (impl_ManyPath.l1 k x2 (x8 ++ [rd x10 (Go.bits .xor .i64 (rd x33 x35) 1)]) x10 x27 x28 x29 x33 x34 (wrap64 (x35 + 1))) else (none)) else (none)))) else (impl_ManyPath.l1 k x2 x8 x10 x27 x28 x29 x33 x34 (wrap64 (x35 + 1)))) else (none)) else (none)) else ((impl_above.f x2).bind fun t285 => (impl_ManyPath.l0 k t285 x8 x27 x28 (wrap64 (x29 + 1))))
end
def impl_ManyPath.f (k : Nat) (a0 : Int) (l1 : List (List Int)) (l2 : List Int) : Option (List Int × Bool) := (impl_leavesOk.f a0 l1).bind fun t270 => (if t270 = true then ((impl_placesOk.f k l2 (l1.length : Int)).bind fun t271 => (impl_ManyPath.j0 k a0 l1 l2 (!t271))) else (impl_ManyPath.j0 k a0 l1 l2 true))
theorem impl_ManyPath.calls (k : Nat) (a0 : Int) (A1 : Option Addr) (c1 : Nat) (l1 : List (List Int)) (P2_ : Nat → Prop) (A2 : Option Addr) (c2 : Nat) (l2 : List Int) (r1 : List Int) (r2 : Bool) (w : World) (hr1 : Kd.C (Kd.slice 5 (Kd.int .u8)) w A1 l1.length l1) (hc1 : l1.length ≤ c1) (hs2 : Kd.V (Kd.int .i64) 3 w w.heap.size (fun k_ => P2_ k_) (.slice A2 l2.length c2) l2) (h : impl_ManyPath.f k a0 l1 l2 = some (r1, r2)) :
  Calls Try.prog 40 #[.int .i64 a0, .slice A1 l1.length c1, .slice A2 l2.length c2] w fun e w' => ∃ v0_ : Value, e = .returned (.tuple #[v0_, .bool r2]) ∧ Kd.R (Kd.int .i64) 3 w' w.heap.size (fun k_ => (w.heap.size ≤ k_)) v0_ r1 ∧ Below w.heap.size w w' := by
 have HR1 := am hr1
 have HC1 := am hc1
 clear hr1 hc1
 have HO2 := am (show Kd.V (Kd.int .i64) 3 w w.heap.size (fun k_ => (P2_ k_ ∨ w.heap.size ≤ k_)) (.slice A2 l2.length c2) l2 from Kd.V_mono hs2 (fun k_ hk => .inl hk))
 have HB := am (Below.refl w.heap.size w)
 have H : ((impl_leavesOk.f a0 l1).bind fun t270 => (if t270 = true then ((impl_placesOk.f k l2 (l1.length : Int)).bind fun t271 => (impl_ManyPath.j0 k a0 l1 l2 (!t271))) else (impl_ManyPath.j0 k a0 l1 l2 true))) = some (r1, r2) := h
 clear h
 have HC4 := am H
 clear H
 go_enter Try.func40, Try.ntmps40
 go_upto_region 1 with (fail)
 go_cut [23] (fun v23 wc => ∃ (kq : Nat) (x23_3 : Bool), v23 = .bool x23_3 ∧ Aside0 (impl_ManyPath.j0 kq a0 l1 l2 x23_3 = some (r1, r2)) ∧ Aside0 (kq ≤ k) ∧ Aside0 (Kd.V (Kd.int .i64) 3 wc w.heap.size (fun k_ => (P2_ k_ ∨ w.heap.size ≤ k_)) (.slice A2 l2.length c2) l2) ∧ Aside0 (Below w.heap.size w wc))
 case first =>
  have H := HC4.out
  clear HC4
  obtain ⟨t270, A5, H⟩ := bm H
  (try dsimp -simprocs only at H)
  by_cases c6 : t270 = true
  ·subst c6
   rw [if_pos rfl] at H
   obtain ⟨t271, A7, H⟩ := bm H
   (try dsimp -simprocs only at H)
   have H' := am H
   clear H
   go_wp2_with (first | ((with_reducible refine gate_callee (f := 55) rfl ?_); refine goesL_ (some 15) rfl rfl Try.func55 (by kernel_rfl) rfl #[.int .i64 a0, .slice A1 l1.length c1] rfl av ?_; (with_reducible refine (impl_leavesOk.calls a0 _ _ l1 true _ ?side1 ?side2 A5.out).mono ?_); (case side1 => exact cv ((Kd.C_below HR1.out HB.out))); (case side2 => exact HC1.out); rintro e w' ⟨rfl, ⟨nd, rfl⟩⟩; refine ⟨_, rfl, ?_⟩) | (go_at_call 89; (with_reducible refine (impl_placesOk.calls k _ _ l2 (l1.length : Int) t271 _ ?side1 ?side2 A7.out).mono ?_); (case side1 => exact cv ((Kd.V_reads' HO2.out).2.2)); (case side2 => exact (Kd.V_reads' HO2.out).2.1); rintro e w' ⟨rfl, ⟨nd, rfl⟩⟩))
   go_meet
   case rel => exact ⟨_, (!t271), e0, H', ⟨by first | omega | exact Nat.le_refl _⟩, ⟨mv HO2.out⟩, ⟨bt⟩⟩
  ·replace c6 := Bool.eq_false_iff.mpr c6
   subst c6
   rw [if_neg nft] at H
   have H' := am H
   clear H
   go_wp2_with (first | ((with_reducible refine gate_callee (f := 55) rfl ?_); refine goesL_ (some 15) rfl rfl Try.func55 (by kernel_rfl) rfl #[.int .i64 a0, .slice A1 l1.length c1] rfl av ?_; (with_reducible refine (impl_leavesOk.calls a0 _ _ l1 false _ ?side1 ?side2 A5.out).mono ?_); (case side1 => exact cv ((Kd.C_below HR1.out HB.out))); (case side2 => exact HC1.out); rintro e w' ⟨rfl, ⟨nd, rfl⟩⟩; refine ⟨_, rfl, ?_⟩))
   go_meet
   case rel => exact ⟨_, (true), e0, H', ⟨by first | omega | exact Nat.le_refl _⟩, ⟨mv HO2.out⟩, ⟨bt⟩⟩
 case rest =>
  clear HC4
  obtain ⟨kq, x23_3, rfl, HA, HJ3, HO_2, HB⟩ := hcut
  cases kq with
  | zero => exact absurd HA.out (by simp [impl_ManyPath.j0])
  | succ kj3 =>
   have H := HA.out
   clear HA
   simp only [impl_ManyPath.j0] at H
   by_cases c8 : x23_3 = true
   ·subst c8
    rw [if_pos rfl] at H
    simp only [Option.some.injEq, Prod.mk.injEq] at H
    obtain ⟨rfl, rfl⟩ := H
    go_wp2
    go_ret2
    exact ⟨_, by first | rfl | (simp [errW_none, errW_some] <;> rfl) | (simp [*, errW_none, errW_some] <;> rfl), by first | exact Kd.R_nil _ _ _ _ _ | exact Kd.N_nil _ _ _ _ _ | exact Kd.V_nil _ _ _ _ _ | exact Kd.Q_nil _ _ _ _ _ | exact Kd.S_nil _ _ _ _ _, bt⟩
   ·replace c8 := Bool.eq_false_iff.mpr c8
    subst c8
    rw [if_neg nft] at H
    obtain ⟨y272, hy272⟩ : ∃ y_ : List Int, y_ = (([] : List Int)) := ⟨_, rfl⟩
    replace H : ((impl_levels.f kj3 a0 l1).bind fun t275 => (impl_ManyPath.l0 kj3 l2 y272 t275 (t275.length : Int) 0)) = some (r1, r2) := by first | (rw [hy272]; exact H) | exact H
    have Ny272 := am hy272
    clear hy272
    obtain ⟨t275, A9, H⟩ := bm H
    (try dsimp -simprocs only at H)
    have H' := am H
    clear H
    go_wp2_with (first | ((with_reducible refine gate_dst (N := 24) rfl ?_); (try (refine gate_guard (by rfl) ?_; dsimp only)); refine Kd.R_lit (Kd.int .i64) _ 3 ?hg (N := 24) ?hd (xs := ([] : List Int)) (inner := []) (ok := fun _ => True) (okp := fun _ => True) ?hr ?hp (fun _ hk => hk) trivial (Below.refl _ _) (Nat.le_refl _) (by simp) ?_; (case hd => rfl); (case hg => rfl); (case hr => first | (go_simp; done) | (go_simp; rfl)); (case hp => exact (Reps.none _ _)); intro v273 w10 ho11 hb hg_ hnew_; clear hg_ hnew_; (first | rw [← Ny272.out] at ho11 | (simp only [Int.reduceToNat] at ho11; rw [← Ny272.out] at ho11)); replace HO_2 := am (Kd.V_elder' (mv HO_2.out) (Kd.R_base ho11) hb); have HO274 := am (Kd.R_lower (Kd.R_newM (M := fun k_ => (w.heap.size ≤ k_)) ho11 (below_size (bt)) (fun k_ h_ => h_)) (below_size (bt))); replace HB := am (below_step (bt) hb); clear hb ho11) | ((with_reducible refine gate_callee (f := 90) rfl ?_); refine goesL_ (some 27) rfl rfl Try.func90 (by kernel_rfl) rfl #[.int .i64 a0, .slice A1 l1.length c1] rfl av ?_; (with_reducible refine (impl_levels.calls kj3 a0 _ _ l1 t275 _ ?side1 ?side2 A9.out).mono ?_); (case side1 => exact cv ((Kd.C_below HR1.out HB.out))); (case side2 => exact HC1.out); rintro e w12 ⟨v276, rfl, ho0, hb⟩; refine ⟨_, rfl, ?_⟩; replace HO_2 := am (Kd.V_elder' (mv HO_2.out) (Kd.S_base ho0) hb); have HO277 := am (Kd.S_lower (Kd.S_new' (Kd.S_newM (M := fun k_ => (w.heap.size ≤ k_)) ho0 (below_size (bt)) (fun k_ h_ => h_)) (Kd.R_lt (mv HO274.out))) (below_size (bt))); replace HO274 := am (Kd.R_below (mv HO274.out) hb); replace HB := am (below_step (bt) hb); (try clear hb); (try clear hb2); (try clear hk); (try clear hi); (try clear ho0); obtain ⟨Ao13, co13, eo13⟩ := Kd.S_slice HO277.out; subst eo13))
    go_loopg [2, 8, 29] kj3 (fun kq v2 v8 v29 w' => ∃ (x2_2 : List Int) (x8_2 : List Int) (x29_2 : Int), v29 = .int .i64 x29_2 ∧ Aside0 (impl_ManyPath.l0 kq x2_2 x8_2 t275 (t275.length : Int) x29_2 = some (r1, r2)) ∧ Aside0 (kq ≤ kj3) ∧ Aside0 (Kd.V (Kd.int .i64) 3 w' w.heap.size (fun k_ => (P2_ k_ ∨ w.heap.size ≤ k_) ∧ nb k_ v8 ∧ nb k_ (.slice Ao13 t275.length co13)) v2 x2_2) ∧ Aside0 (Kd.R (Kd.int .i64) 3 w' w.heap.size (fun k_ => (w.heap.size ≤ k_)) v8 x8_2) ∧ Aside0 (Kd.S (Kd.slice 3 (Kd.int .i64)) 29 w' w.heap.size (fun k_ => (w.heap.size ≤ k_) ∧ nb k_ v8) (.slice Ao13 t275.length co13) t275) ∧ Aside0 (Below w.heap.size w w'))
    case atStart => exact ⟨(l2), (y272), (0), e0, H', ⟨Nat.le_refl _⟩, ⟨rV (h := by exact Kd.V_mono HO_2.out (fun _ hk => ⟨hk.1.1, ⟨hk.1.2, hk.2⟩⟩))⟩, ⟨rR (h := by exact Kd.R_mono HO274.out (fun _ hk => hk.1))⟩, ⟨rS (h := by exact Kd.S_mono HO277.out (fun _ hk => ⟨hk.1.1, hk.2⟩))⟩, ⟨bt⟩⟩
    case round =>
     clear H'
     obtain ⟨x2_2, x8_2, x29_2, rfl, HA, HK2, HO_2, HO_8, HO_27, HB⟩ := hrel
     cases gk with
     | zero => exact absurd HA.out (by simp [impl_ManyPath.l0])
     | succ k2 =>
      have H := HA.out
      clear HA
      simp only [impl_ManyPath.l0] at H
      by_cases c14 : x29_2 < (t275.length : Int)
      ·rw [if_pos c14] at H
       have c14b0 : decide (x29_2 < (t275.length : Int)) = true := decide_eq_true c14
       clear c14
       by_cases c15 : 0 ≤ x29_2
       ·rw [if_pos c15] at H
        have c15b0 : decide (0 ≤ x29_2) = true := decide_eq_true c15
        clear c15
        by_cases c16 : x29_2 < (t275.length : Int)
        ·rw [if_pos c16] at H
         have c16b0 : decide (x29_2 < (t275.length : Int)) = true := decide_eq_true c16
         clear c16
         have H' := am H
         clear H
         have p278 : 0 ≤ (x29_2 : Int) := of_decide_eq_true asm
         have q278 : x29_2 < (t275.length : Int) := of_decide_eq_true asm
         obtain ⟨ad278, A278_0, c278_0, e278, hx278_0, hl278_0, hi278_0⟩ := at_L3 (Kd.S_reads' HO_27.out).2.2 x29_2 p278 q278
         cases e278
         obtain ⟨ce278, hce278, hMe278, hcc278⟩ := Kd.S_get HO_27.out [] x29_2 p278 (by first | exact q278 | exact of_decide_eq_true asm | (have e_ := (Kd.S_reads' HO_27.out).1; omega))
         obtain ⟨ve278_0, rfl, ge278_0⟩ := hMe278
         have hv278_0 := hcc278 0 _ rfl
         rw [Nat.add_zero, show ((Kd.slice 3 (Kd.int .i64))).sz = 1 from rfl, Nat.mul_one] at hv278_0
         replace hv278_0 := Option.some.inj (hv278_0.symm.trans hx278_0)
         rw [hv278_0] at ge278_0
         have HL278_0 := am (show Kd.R (Kd.int .i64) 3 _ _ _ _ (rd_L3 t275 x29_2) from ge278_0)
         clear hv278_0 ge278_0
         clear hcc278 hce278
         have HR278_0 := am hi278_0
         have HC278_0 := am hl278_0
         clear hi278_0 hl278_0
         replace p278 := eq_true p278
         replace q278 := eq_true q278
         obtain ⟨Ao17, co17, eo17⟩ := Kd.V_slice HO_2.out
         subst eo17
         go_wp2
         go_loopg [8, 35] k2 (fun kq v8 v35 w' => ∃ (x8_3 : List Int) (x35_3 : Int), v35 = .int .i64 x35_3 ∧ Aside0 (impl_ManyPath.l1 kq x2_2 x8_3 (rd_L3 t275 x29_2) t275 (t275.length : Int) x29_2 x2_2 (x2_2.length : Int) x35_3 = some (r1, r2)) ∧ Aside0 (kq ≤ k2) ∧ Aside0 (Kd.V (Kd.int .i64) 3 w' w.heap.size (fun k_ => (P2_ k_ ∨ w.heap.size ≤ k_) ∧ nb k_ v8 ∧ nb k_ (.slice (some ad278) t275.length co13)) (.slice Ao17 x2_2.length co17) x2_2) ∧ Aside0 (Kd.R (Kd.int .i64) 3 w' w.heap.size (fun k_ => (w.heap.size ≤ k_)) v8 x8_3) ∧ Aside0 (Kd.S (Kd.slice 3 (Kd.int .i64)) 29 w' w.heap.size (fun k_ => (w.heap.size ≤ k_) ∧ nb k_ v8) (.slice (some ad278) t275.length co13) t275) ∧ Aside0 (Kd.V (Kd.int .i64) 3 w' w.heap.size (fun k_ => (P2_ k_ ∨ w.heap.size ≤ k_) ∧ nb k_ v8 ∧ nb k_ (.slice (some ad278) t275.length co13)) (.slice Ao17 x2_2.length co17) x2_2) ∧ Aside0 (Kd.C (Kd.int .i64) w' A278_0 (rd_L3 t275 x29_2).length (rd_L3 t275 x29_2) ∧ w'.cell? (ad278.add x29_2.toNat) = some (.slice A278_0 (rd_L3 t275 x29_2).length c278_0) ∧ 0 ≤ x29_2 ∧ x29_2 < (t275.length : Int)) ∧ Aside0 (Below w.heap.size w w'))
         case atStart => exact ⟨(x8_2), (0), e0, H', ⟨Nat.le_refl _⟩, ⟨mv HO_2.out⟩, ⟨mv HO_8.out⟩, ⟨mv HO_27.out⟩, ⟨mv HO_2.out⟩, ⟨HR278_0.out, hx278_0, of_decide_eq_true asm, of_decide_eq_true asm⟩, ⟨bt⟩⟩
         case round =>
          clear H'
          obtain ⟨x8_3, x35_3, rfl, HA, HK3, HO_2, HO_8, HO_27, HO_33, HLV, HB⟩ := hrel
          cases gk with
          | zero => exact absurd HA.out (by simp [impl_ManyPath.l1])
          | succ k3 =>
           have H := HA.out
           clear HA
           simp only [impl_ManyPath.l1] at H
           by_cases c18 : x35_3 < (x2_2.length : Int)
           ·rw [if_pos c18] at H
            have c18b0 : decide (x35_3 < (x2_2.length : Int)) = true := decide_eq_true c18
            clear c18
            by_cases c19 : 0 ≤ x35_3
            ·rw [if_pos c19] at H
             have c19b0 : decide (0 ≤ x35_3) = true := decide_eq_true c19
             clear c19
             by_cases c20 : x35_3 < (x2_2.length : Int)
             ·rw [if_pos c20] at H
              have c20b0 : decide (x35_3 < (x2_2.length : Int)) = true := decide_eq_true c20
              clear c20
              by_cases c21 : (Go.bits .xor .i64 (rd x2_2 x35_3) 1) < ((rd_L3 t275 x29_2).length : Int)
              ·rw [if_pos c21] at H
               have c21b0 : decide ((Go.bits .xor .i64 (rd x2_2 x35_3) 1) < ((rd_L3 t275 x29_2).length : Int)) = true := decide_eq_true c21
               clear c21
               obtain ⟨t280, A22, H⟩ := bm H
               (try dsimp -simprocs only at H)
               by_cases c23 : t280 = true
               ·subst c23
                rw [if_pos rfl] at H
                have H' := am H
                clear H
                have p279 : 0 ≤ (x35_3 : Int) := of_decide_eq_true asm
                have q279 : x35_3 < (x2_2.length : Int) := of_decide_eq_true asm
                obtain ⟨ad279, e279, hx279_0⟩ := Kd.at_int (Kd.V_reads' HO_33.out).2.2 x35_3 p279 q279
                cases e279
                replace p279 := eq_true p279
                replace q279 := eq_true q279
                go_wp2_with (first | (go_at_call 91; (with_reducible refine (slices_Contains_int_int.calls k3 _ _ x2_2 (Go.bits .xor .i64 (rd x2_2 x35_3) 1) true _ ?side1 ?side2 A22.out).mono ?_); (case side1 => exact cv ((Kd.V_reads' HO_2.out).2.2)); (case side2 => exact (Kd.V_reads' HO_2.out).2.1); rintro e w' ⟨rfl, ⟨nd, rfl⟩⟩))
                go_roundg k3
                case measure => have := HJ3.out; have := HK2.out; have := HK3.out; omega
                case rel => exact ⟨(x8_3), (wrap64 (x35_3 + 1)), e0, H', ⟨by have := HJ3.out; have := HK2.out; have := HK3.out; omega⟩, ⟨mv HO_2.out⟩, ⟨mv HO_8.out⟩, ⟨mv HO_27.out⟩, ⟨mv HO_33.out⟩, ⟨HLV.out.1, HLV.out.2⟩, ⟨bt⟩⟩
               ·replace c23 := Bool.eq_false_iff.mpr c23
                subst c23
                rw [if_neg nft] at H
                by_cases c24 : 0 ≤ (Go.bits .xor .i64 (rd x2_2 x35_3) 1)
                ·rw [if_pos c24] at H
                 have c24b0 : decide (0 ≤ (Go.bits .xor .i64 (rd x2_2 x35_3) 1)) = true := decide_eq_true c24
                 clear c24
                 by_cases c25 : x8_3.length < 17592186044416
                 ·rw [if_pos c25] at H
                  have LMc25 := am c25
                  clear c25
                  obtain ⟨y282, hy282⟩ : ∃ y_ : List Int, y_ = (x8_3 ++ [rd (rd_L3 t275 x29_2) (Go.bits .xor .i64 (rd x2_2 x35_3) 1)]) := ⟨_, rfl⟩
                  replace H : (impl_ManyPath.l1 k3 x2_2 y282 (rd_L3 t275 x29_2) t275 (t275.length : Int) x29_2 x2_2 (x2_2.length : Int) (wrap64 (x35_3 + 1))) = some (r1, r2) := by first | (rw [hy282]; exact H) | exact H
                  have Ny282 := am hy282
                  clear hy282
                  have H' := am H
                  clear H
                  have p279 : 0 ≤ (x35_3 : Int) := of_decide_eq_true asm
                  have q279 : x35_3 < (x2_2.length : Int) := of_decide_eq_true asm
                  obtain ⟨ad279, e279, hx279_0⟩ := Kd.at_int (Kd.V_reads' HO_33.out).2.2 x35_3 p279 q279
                  cases e279
                  replace p279 := eq_true p279
                  replace q279 := eq_true q279
                  go_wp2_with (first | (go_at_call 91; (with_reducible refine (slices_Contains_int_int.calls k3 _ _ x2_2 (Go.bits .xor .i64 (rd x2_2 x35_3) 1) false _ ?side1 ?side2 A22.out).mono ?_); (case side1 => exact cv ((Kd.V_reads' HO_2.out).2.2)); (case side2 => exact (Kd.V_reads' HO_2.out).2.1); rintro e w' ⟨rfl, ⟨nd, rfl⟩⟩; have p281 : 0 ≤ ((Go.bits .xor .i64 (rd x2_2 x35_3) 1) : Int) := of_decide_eq_true asm; have q281 : (Go.bits .xor .i64 (rd x2_2 x35_3) 1) < ((rd_L3 t275 x29_2).length : Int) := of_decide_eq_true asm; obtain ⟨ad281, e281, hx281_0⟩ := Kd.at_int HLV.out.1 (Go.bits .xor .i64 (rd x2_2 x35_3) 1) p281 q281; cases e281; replace p281 := eq_true p281; replace q281 := eq_true q281) | ((with_reducible refine gate_builtin (b := .append) (xs := #[.tmp 51, .tmp 57]) rfl ?_); (try (refine gate_guard (by rfl) ?_; dsimp only)); at_builtin; refine Kd.R_append (Kd.int .i64) (w0 := w) w.heap.size rfl (.tmp 51) (.tmp 57) 29 3 (.int .i64 0) 8 rfl Try.underlying29 info3 rfl (by decide) (by omega) u8 x8_3 (rd (rd_L3 t275 x29_2) (Go.bits .xor .i64 (rd x2_2 x35_3) 1)) [.int .i64 (rd (rd_L3 t275 x29_2) (Go.bits .xor .i64 (rd x2_2 x35_3) 1))] (fun k_ => (w.heap.size ≤ k_)) (fun _ => False) rfl rfl ?aP (fun _ hk => hk.elim) ?aF ?aO ?aB ?aS ?aL ?_; (case aP => exact rfl); (case aB => exact (bt)); (case aF => exact (fun k_ hk => (Nat.le_trans (below_size (bt)) hk))); (case aO => exact (mv HO_8.out)); (case aS => exact (below_size (bt))); (case aL => have := LMc25.out; omega); intro v283 w26 ho hb hg hat; rw [← Ny282.out] at ho; have hne_ := ((Kd.S_R HO_27.out).1 _ rfl).2; have lvc_ := HLV.out.2.1; have lv0_ := HLV.out.2.2.1; have lv1_ := HLV.out.2.2.2; replace HO_2 := am (Kd.V_afterv (ok := (fun k_ => (P2_ k_ ∨ w.heap.size ≤ k_) ∧ nb k_ (.slice (some ad278) t275.length co13))) (rV (h := by exact Kd.V_mono HO_2.out (fun _ hk => ⟨⟨hk.1, hk.2.2⟩, hk.2.1⟩))) hg hat); replace HO_27 := am (Kd.S_after (ok := (fun k_ => (w.heap.size ≤ k_))) (mv HO_27.out) hg hat); have HLV := am (lv_after HO_27.out lv0_ lv1_ hg hne_ lvc_); clear lvc_ lv0_ lv1_ hne_; replace HO_33 := am (Kd.V_afterv (ok := (fun k_ => (P2_ k_ ∨ w.heap.size ≤ k_) ∧ nb k_ (.slice (some ad278) t275.length co13))) (rV (h := by exact Kd.V_mono HO_33.out (fun _ hk => ⟨⟨hk.1, hk.2.2⟩, hk.2.1⟩))) hg hat); replace HB := am (hb); have HO284 := am (ho); clear HO_8; clear ho hb hg hat))
                  go_roundg k3
                  case measure => have := HJ3.out; have := HK2.out; have := HK3.out; omega
                  case rel => exact ⟨(y282), (wrap64 (x35_3 + 1)), e0, H', ⟨by have := HJ3.out; have := HK2.out; have := HK3.out; omega⟩, ⟨rV (h := by exact Kd.V_mono HO_2.out (fun _ hk => ⟨hk.1.1, ⟨hk.2, hk.1.2⟩⟩))⟩, ⟨mv HO284.out⟩, ⟨mv HO_27.out⟩, ⟨rV (h := by exact Kd.V_mono HO_33.out (fun _ hk => ⟨hk.1.1, ⟨hk.2, hk.1.2⟩⟩))⟩, ⟨HLV.out.1, HLV.out.2⟩, ⟨bt⟩⟩
                 ·exact nh c25 H
                ·exact nh c24 H
              ·rw [if_neg c21] at H
               have c21b0 : decide ((Go.bits .xor .i64 (rd x2_2 x35_3) 1) < ((rd_L3 t275 x29_2).length : Int)) = false := decide_eq_false c21
               clear c21
               have H' := am H
               clear H
               have p279 : 0 ≤ (x35_3 : Int) := of_decide_eq_true asm
               have q279 : x35_3 < (x2_2.length : Int) := of_decide_eq_true asm
               obtain ⟨ad279, e279, hx279_0⟩ := Kd.at_int (Kd.V_reads' HO_33.out).2.2 x35_3 p279 q279
               cases e279
               replace p279 := eq_true p279
               replace q279 := eq_true q279
               go_wp2
               go_roundg k3
               case measure => have := HJ3.out; have := HK2.out; have := HK3.out; omega
               case rel => exact ⟨(x8_3), (wrap64 (x35_3 + 1)), e0, H', ⟨by have := HJ3.out; have := HK2.out; have := HK3.out; omega⟩, ⟨mv HO_2.out⟩, ⟨mv HO_8.out⟩, ⟨mv HO_27.out⟩, ⟨mv HO_33.out⟩, ⟨HLV.out.1, HLV.out.2⟩, ⟨bt⟩⟩
             ·exact nh c20 H
            ·exact nh c19 H
           ·rw [if_neg c18] at H
            have c18b0 : decide (x35_3 < (x2_2.length : Int)) = false := decide_eq_false c18
            clear c18
            obtain ⟨t285, A27, H⟩ := bm H
            (try dsimp -simprocs only at H)
            have H' := am H
            clear H
            go_wp2_with (first | ((with_reducible refine gate_callee (f := 92) rfl ?_); refine goesL_ (some 61) rfl rfl Try.func92 (by kernel_rfl) rfl #[.slice Ao17 x2_2.length co17] rfl av ?_; (with_reducible refine (impl_above.calls _ _ x2_2 t285 _ ?side1 ?side2 A27.out).mono ?_); (case side1 => exact cv ((Kd.V_reads' HO_2.out).2.2)); (case side2 => exact (Kd.V_reads' HO_2.out).2.1); rintro e w28 ⟨v286, rfl, ho0, hb⟩; refine ⟨_, rfl, ?_⟩; replace HO_2 := am (Kd.V_elder' (mv HO_2.out) (Kd.R_base ho0) hb); replace HO_27 := am (Kd.S_elder' (mv HO_27.out) (Kd.R_base ho0) hb); replace HO_33 := am (Kd.V_elder' (mv HO_33.out) (Kd.R_base ho0) hb); have HO287 := am (Kd.R_lower (Kd.R_new' (Kd.R_newM (M := fun k_ => (w.heap.size ≤ k_)) ho0 (below_size (bt)) (fun k_ h_ => h_)) (Kd.R_lt (mv HO_8.out))) (below_size (bt))); replace HO_8 := am (Kd.R_elder' (mv HO_8.out) (Kd.R_base ho0) hb); replace HB := am (below_step (bt) hb); (try clear hb); (try clear hb2); (try clear hk); (try clear hi); (try clear ho0)))
            go_roundg k3
            case measure => have := HJ3.out; have := HK2.out; have := HK3.out; omega
            case rel => exact ⟨(t285), (x8_3), (wrap64 (x29_2 + 1)), e0, H', ⟨by have := HJ3.out; have := HK2.out; have := HK3.out; omega⟩, ⟨by have hR_ := Kd.R_apart' HO287.out (Kd.S_typed HO_27.out) (by decide); exact Kd.V_mono (Kd.R_V hR_) (fun k_ hk => ⟨.inr hk.1.1.1, hk.1.2, hk.2⟩)⟩, ⟨rR (h := by exact Kd.R_mono HO_8.out (fun _ hk => hk.1))⟩, ⟨rS (h := by exact Kd.S_mono HO_27.out (fun _ hk => ⟨hk.1.1, hk.1.2⟩))⟩, ⟨bt⟩⟩
        ·exact nh c16 H
       ·exact nh c15 H
      ·rw [if_neg c14] at H
       have c14b0 : decide (x29_2 < (t275.length : Int)) = false := decide_eq_false c14
       clear c14
       simp only [Option.some.injEq, Prod.mk.injEq] at H
       obtain ⟨rfl, rfl⟩ := H
       go_wp2
       go_ret2
       exact ⟨_, by first | rfl | (simp [errW_none, errW_some] <;> rfl) | (simp [*, errW_none, errW_some] <;> rfl), rR (h := by exact HO_8.out), bt⟩

/-! ### impl_lastOf: function 69 -/
def impl_lastOf.f (a0 : Int) (l1 : List (List Int)) (a2 : Bool) : Option (Int) := if a2 = true then (if 0 ≤ (wrap64 ((l1.length : Int) - 1)) then (if (wrap64 ((l1.length : Int) - 1)) < (l1.length : Int) then ((impl_Digest.f a0 (rd_L1 l1 (wrap64 ((l1.length : Int) - 1)))).bind fun t289 => (some t289)) else (none)) else (none)) else (some (-1))
theorem impl_lastOf.calls (a0 : Int) (A1 : Option Addr) (c1 : Nat) (l1 : List (List Int)) (a2 : Bool) (r : Int) (w : World) (hr1 : Kd.C (Kd.slice 5 (Kd.int .u8)) w A1 l1.length l1) (hc1 : l1.length ≤ c1) (h : impl_lastOf.f a0 l1 a2 = some r) :
  Calls Try.prog 69 #[.int .i64 a0, .slice A1 l1.length c1, .bool a2] w fun e w' => e = .returned (.int .i64 r) ∧ Below w.heap.size w w' := by
 have HR1 := am hr1
 have HC1 := am hc1
 clear hr1 hc1
 have HB := am (Below.refl w.heap.size w)
 have H : (if a2 = true then (if 0 ≤ (wrap64 ((l1.length : Int) - 1)) then (if (wrap64 ((l1.length : Int) - 1)) < (l1.length : Int) then ((impl_Digest.f a0 (rd_L1 l1 (wrap64 ((l1.length : Int) - 1)))).bind fun t289 => (some t289)) else (none)) else (none)) else (some (-1))) = some r := h
 clear h
 by_cases c4 : a2 = true
 ·subst c4
  rw [if_pos rfl] at H
  obtain ⟨ji5, hji5⟩ : ∃ j_ : Int, (wrap64 ((l1.length : Int) - 1)) = j_ := ⟨_, rfl⟩
  replace H : (if 0 ≤ (ji5) then (if (ji5) < (l1.length : Int) then ((impl_Digest.f a0 (rd_L1 l1 (ji5))).bind fun t289 => (some t289)) else (none)) else (none)) = some r := by first | (rw [hji5] at H; exact H) | (simp only [hji5] at H ⊢; exact H)
  have hji5w : (IntKind.i64.wrap ((l1.length : Int) - 1)) = ji5 := (i64_w _).trans hji5
  by_cases c6 : 0 ≤ (ji5)
  ·rw [if_pos c6] at H
   have c6b0 : decide (0 ≤ (ji5)) = true := decide_eq_true c6
   clear c6
   by_cases c7 : (ji5) < (l1.length : Int)
   ·rw [if_pos c7] at H
    have c7b0 : decide ((ji5) < (l1.length : Int)) = true := decide_eq_true c7
    clear c7
    obtain ⟨t289, A8, H⟩ := bm H
    (try dsimp -simprocs only at H)
    obtain rfl := Option.some.inj H
    have p288 : 0 ≤ ((ji5) : Int) := of_decide_eq_true asm
    have q288 : (ji5) < (l1.length : Int) := of_decide_eq_true asm
    obtain ⟨ad288, A288_0, c288_0, e288, hx288_0, hl288_0, hi288_0⟩ := at_L1 HR1.out (ji5) p288 q288
    cases e288
    have HR288_0 := am hi288_0
    have HC288_0 := am hl288_0
    clear hi288_0 hl288_0
    replace p288 := eq_true p288
    replace q288 := eq_true q288
    go_enter Try.func69, Try.ntmps69
    go_wp2_with (first | ((with_reducible refine gate_callee (f := 56) rfl ?_); refine goesL_ (some 16) rfl rfl Try.func56 (by kernel_rfl) rfl #[.int .i64 a0, .slice A288_0 (rd_L1 l1 (ji5)).length c288_0] rfl (by (try simp only [List.map_toArray, List.map_cons, List.map_nil]); first | done | (simp only [hji5]; rfl) | rfl | (simp only [List.length_drop, List.length_take]; rfl)) ?_; (with_reducible refine (impl_Digest.calls a0 _ _ (rd_L1 l1 (ji5)) t289 _ ?side1 ?side2 A8.out).mono ?_); (case side1 => exact cv (HR288_0.out)); (case side2 => exact HC288_0.out); rintro e w9 ⟨rfl, hb⟩; refine ⟨_, rfl, ?_⟩; replace HB := am (below_step (bt) hb); (try clear hb); (try clear hb2); (try clear hk); (try clear hi)))
    go_ret
    exact ⟨by first | rfl | (simp [errW_none, errW_some] <;> rfl) | (simp only [← hji5]; first | rfl | (simp [errW_none, errW_some] <;> rfl)) | (simp [*, errW_none, errW_some] <;> rfl), bt⟩
   ·exact nh c7 H
  ·exact nh c6 H
 ·replace c4 := Bool.eq_false_iff.mpr c4
  subst c4
  rw [if_neg nft] at H
  obtain rfl := Option.some.inj H
  go_enter Try.func69, Try.ntmps69
  go_wp2
  go_ret
  exact ⟨by first | rfl | (simp [errW_none, errW_some] <;> rfl) | (simp [*, errW_none, errW_some] <;> rfl), bt⟩

/-! ### impl_digests: function 106 -/
/-- Is it a digest of so many bits. -/
def isDig (bits x : Int) : Bool := decide ((2 ≤ bits ∧ bits ≤ 60) ∧ 0 ≤ x ∧ x < 2 ^ bits.toNat)
def impl_digests.f (a0 : Int) (l1 : List Int) : Option (Bool) := if l1.all (fun x => (impl_isDigest.f a0 x).isSome) then some (l1.all fun x => (impl_isDigest.f a0 x).getD false) else none
/-- The first number that is no digest; -1: there is none. -/
def firstNot (a0 : Int) (l : List Int) (i : Nat) : Int := match l with
 | [] => -1
 | x :: l => if (impl_isDigest.f a0 x).getD false = true then firstNot a0 l (i + 1) else (i : Int)
theorem firstNot_all (a0 : Int) (l : List Int) : ∀ i : Nat, decide (0 ≤ firstNot a0 l i) = !(l.all fun x => (impl_isDigest.f a0 x).getD false) := by
 induction l with
 | nil => intro i; rfl
 | cons x l ih =>
  intro i
  unfold firstNot
  by_cases h : (impl_isDigest.f a0 x).getD false = true
  ·rw [if_pos h, ih (i + 1)]; simp [h]
  ·rw [if_neg h]; simp [h]
set_option maxHeartbeats 4000000 in
theorem digest_lit (a0 x : Int) (v : Bool) (B : Nat) (W : World) (hc : W.cell? ⟨B, 0, none⟩ = some (.int .i64 a0)) (h : impl_isDigest.f a0 x = some v) :
  Calls Try.prog 132 #[.int .i64 x, .pointer (some ⟨B, 0, none⟩)] W fun e w' => e = .returned (.bool (!v)) ∧ Drawn0 W w' := by
 have H := am h
 clear h
 go_enter Try.func132, Try.ntmps132
 go_wp2_with (go_at_call 133; refine (impl_isDigest.calls a0 x v _ H.out).mono ?_; rintro e w' ⟨rfl, ⟨nd, rfl⟩⟩)
 go_ret
 exact ⟨rfl, by repeat (first | exact Drawn0.refl _ | apply Drawn0.step)⟩
set_option maxHeartbeats 4000000 in
set_option maxRecDepth 100000 in
theorem digests_index (a0 : Int) (A1 : Option Addr) (c1 : Nat) (l1 : List Int) (B : Nat) (w : World) (hr1 : Kd.C (Kd.int .i64) w A1 l1.length l1) (hc : w.cell? ⟨B, 0, none⟩ = some (.int .i64 a0)) (h : ∀ x ∈ l1, ∃ v, impl_isDigest.f a0 x = some v) :
  Calls Try.prog 143 #[.slice A1 l1.length c1, .func (.func 132) #[] #[.pointer (some ⟨B, 0, none⟩)]] w fun e w' => e = .returned (.int .i64 (firstNot a0 l1 0)) ∧ Drawn0 w w' := by
 have HR := am hr1
 have HC := am hc
 have HH := am h
 clear hr1 hc h
 have eg := enters_of Try.func132 (by kernel_rfl) rfl
 go_enter Try.func143, Try.ntmps143
 go_wp2
 go_loopw [8] (fun i wr => ∃ k : Nat, i = .int .i64 k ∧ Aside0 (k ≤ l1.length) ∧ Aside0 (firstNot a0 (l1.drop k) k = firstNot a0 l1 0) ∧ Drawn0 w wr) (fun i _ => l1.length - (intOf i).toNat)
 case atStart => exact ⟨0, rfl, ⟨Nat.zero_le _⟩, ⟨rfl⟩, Drawn0.refl _⟩
 case round =>
  obtain ⟨k, rfl, HK, HF, ⟨m, rfl⟩⟩ := hrel
  have HM : Aside0 (l1.length ≤ 9223372036854775807) := ⟨HR.out.2.1⟩
  by_cases hlt : k < l1.length
  ·have c0 : decide (k < l1.length) = true := decide_eq_true hlt
   have c1 : decide ((k : Int) < (l1.length : Int)) = true := decide_eq_true (by omega)
   have p1 : 0 ≤ (k : Int) := Int.natCast_nonneg k
   have q1 : (k : Int) < (l1.length : Int) := by omega
   obtain ⟨ad, e1, hx⟩ := Kd.at_int HR.out k p1 q1
   cases e1
   rw [Int.toNat_natCast] at hx
   have ed : l1.drop k = rd l1 k :: l1.drop (k + 1) := by
    unfold rd
    rw [Int.toNat_natCast, List.getD_eq_getElem?_getD, List.getElem?_eq_getElem hlt]
    exact List.drop_eq_getElem_cons hlt
   obtain ⟨v, hv⟩ := HH.out (rd l1 k) (by unfold rd; rw [Int.toNat_natCast, List.getD_eq_getElem?_getD, List.getElem?_eq_getElem hlt]; exact List.getElem_mem hlt)
   have HV := am hv
   have HD := am ed
   have HL := am hlt
   clear hlt ed hv
   generalize rd l1 (k : Int) = x at hx HV HD
   go_wp2_with fail
   refine (digest_lit a0 x v B (w.drewN m) HC.out HV.out).mono ?_
   rintro e w' ⟨rfl, ⟨nd, rfl⟩⟩
   have b2 : (k : Int) ≤ 9223372036854775806 := by have := HL.out; have := HM.out; omega
   cases v with
   | true =>
    go_wp2
    go_roundw
    case rel => exact ⟨k + 1, by go_num, ⟨HL.out⟩, ⟨by have h := HF.out; rw [HD.out] at h; simp only [firstNot, HV.out, Option.getD_some, if_true] at h; exact h⟩, by repeat (first | exact Drawn0.refl _ | apply Drawn0.step)⟩
    case measure => have := HL.out; simp [intOf]; omega
   | false =>
    go_wp2
    go_ret
    exact ⟨by have h := HF.out; rw [HD.out] at h; simp only [firstNot, HV.out, Option.getD_some] at h; rw [← h]; simp, by repeat (first | exact Drawn0.refl _ | apply Drawn0.step)⟩
  ·have c0 : decide (k < l1.length) = false := decide_eq_false hlt
   have c1 : decide ((k : Int) < (l1.length : Int)) = false := decide_eq_false (by omega)
   have e : firstNot a0 l1 0 = -1 := by
    have h := HF.out
    rw [List.drop_eq_nil_of_le (by omega)] at h
    exact h.symm
   have HE := am e
   clear hlt e
   go_wp2
   go_ret
   exact ⟨by first | (rw [HE.out]; done) | (rw [HE.out]; rfl), by repeat (first | exact Drawn0.refl _ | apply Drawn0.step)⟩
set_option maxHeartbeats 4000000 in
theorem digests_contains (a0 : Int) (A1 : Option Addr) (c1 : Nat) (l1 : List Int) (B : Nat) (w : World) (hr1 : Kd.C (Kd.int .i64) w A1 l1.length l1) (hc : w.cell? ⟨B, 0, none⟩ = some (.int .i64 a0)) (h : ∀ x ∈ l1, ∃ v, impl_isDigest.f a0 x = some v) :
  Calls Try.prog 131 #[.slice A1 l1.length c1, .func (.func 132) #[] #[.pointer (some ⟨B, 0, none⟩)]] w fun e w' => e = .returned (.bool (decide (0 ≤ firstNot a0 l1 0))) ∧ Drawn0 w w' := by
 have HI := am (digests_index a0 A1 c1 l1 B w hr1 hc h)
 clear hr1 hc h
 go_enter Try.func131, Try.ntmps131
 go_wp2_with (go_at_call 143; refine HI.out.mono ?_; rintro e w' ⟨rfl, ⟨nd, rfl⟩⟩)
 go_ret
 exact ⟨rfl, by repeat (first | exact Drawn0.refl _ | apply Drawn0.step)⟩
set_option maxHeartbeats 4000000 in
theorem impl_digests.calls (a0 : Int) (A1 : Option Addr) (c1 : Nat) (l1 : List Int) (r : Bool) (w : World) (hr1 : Kd.C (Kd.int .i64) w A1 l1.length l1) (hc1 : l1.length ≤ c1) (h : impl_digests.f a0 l1 = some r) :
  Calls Try.prog 106 #[.int .i64 a0, .slice A1 l1.length c1] w fun e w' => e = .returned (.bool r) ∧ Below w.heap.size w w' := by
 unfold impl_digests.f at h
 by_cases ha : (l1.all fun x => (impl_isDigest.f a0 x).isSome) = true
 ·rw [if_pos ha] at h
  have hr := Option.some.inj h
  have hall : ∀ x ∈ l1, ∃ v, impl_isDigest.f a0 x = some v := fun x hx => by
   have := List.all_eq_true.1 ha x hx
   exact Option.isSome_iff_exists.1 this
  have hf := firstNot_all a0 l1 0
  rw [hr] at hf
  have hb : Below w.heap.size w (w.alloc (.cells #[.int .i64 a0] 3)) := below_alloc (Below.refl _ _) _
  have hcell : (w.alloc (.cells #[.int .i64 a0] 3)).cell? ⟨w.heap.size, 0, none⟩ = some (.int .i64 a0) := by
   exact (blk_cell (blk_new w (.cells #[.int .i64 a0] 3)) 0).trans rfl
  have HC := am (digests_contains a0 A1 c1 l1 w.heap.size _ (Kd.C_below hr1 hb) hcell hall)
  have HF := am hf
  have HB := am hb
  clear h ha hr hall hf hb hcell hr1
  go_enter Try.func106, Try.ntmps106
  go_wp2_with (go_at_call 131; refine HC.out.mono ?_; rintro e w' ⟨rfl, hd⟩)
  go_ret
  exact ⟨by rw [HF.out]; simp, HB.out.trans (hd.below.mono HB.out.size)⟩
 ·rw [if_neg ha] at h
  cases h

/-! ### fake_mp_new: function 163 -/
/-- A map of whole numbers as it is told: the latest entry first. -/
abbrev Mp := List (Int × Int)
def mget : Mp → Int → Int
 | [], _ => 0
 | (a, v) :: m, k => if a = k then v else mget m k
def mhas : Mp → Int → Bool
 | [], _ => false
 | (a, _) :: m, k => if a = k then true else mhas m k
def fake_mp_new.f : Option Mp := some []
def fake_mp_get.f (m : Mp) (k : Int) : Option Int := if (Lit.int .i64 k).wf = true then some (mget m k) else none
def fake_mp_look.f (m : Mp) (k : Int) : Option (Int × Bool) := if (Lit.int .i64 k).wf = true then some (mget m k, mhas m k) else none
def fake_mp_put.f (m : Mp) (k v : Int) : Option Mp := if (Lit.int .i64 k).wf = true ∧ (Lit.int .i64 v).wf = true ∧ m.length ≤ 1000 then some ((k, v) :: m) else none
def dat : Mp → DataW Unit
 | [] => .map []
 | (k, v) :: m => (dat m).put (.int .i64 k) (.lit (.int .i64 v))
theorem dat_map : ∀ m : Mp, Go.Maps.IsMap (dat m)
 | [] => Go.Maps.isMap_empty
 | (k, v) :: m => (dat_map m).put _ _
theorem dat_get : ∀ (m : Mp) (k : Int), (dat m).atKey (.int .i64 k) (.lit (.int .i64 0)) = .lit (.int .i64 (mget m k))
 | [], k => rfl
 | (a, v) :: m, k => by
  unfold dat mget
  by_cases h : a = k
  ·rw [if_pos h, h]; exact Go.Maps.atKey_put_same (dat_map m) (show Go.WideAt.IsKeyLit (.int .i64 k) from trivial) _ _
  ·rw [if_neg h, Go.Maps.atKey_put_other (fun e => h (by injection e with _ e; exact e.symm))]; exact dat_get m k
theorem dat_has : ∀ (m : Mp) (k : Int), Go.Maps.has (dat m) (.int .i64 k) = mhas m k
 | [], k => rfl
 | (a, v) :: m, k => by
  unfold dat mhas
  by_cases h : a = k
  ·rw [if_pos h, h]; exact Go.Maps.has_put_same (dat_map m) (show Go.WideAt.IsKeyLit (.int .i64 k) from trivial) _
  ·rw [if_neg h, Go.Maps.has_put_other (fun e => h (by injection e with _ e; exact e.symm))]; exact dat_has m k
/-- Block b, the call's own, is a map that reads as m. -/
def MR (W : World) (base b : Nat) (m : Mp) : Prop := base ≤ b ∧ W.ownsMap Try.prog 3 (plainElem Try.prog 3) b m.length (dat m)
section
variable {W W1 : World} {base b b' : Nat} {m m' : Mp}
theorem MR_lt (h : MR W base b m) : b < W.heap.size := h.2.lt
theorem MR_is (h : MR W base b m) : ∃ es clock, W.heap[b]? = some (.map es clock) := by
 obtain ⟨_, es, clock, hb, _⟩ := h
 exact ⟨es, clock, hb⟩
theorem MR_grown {row : Option Nat} (h : MR W base b m) (hg : W.grownBy W1 row) (hne : some b ≠ row) : MR W1 base b m := ⟨h.1, h.2.kept hg hne⟩
theorem MR_below (h : MR W base b m) (hb : Below W.heap.size W W1) : MR W1 base b m := MR_grown h (row := none) ⟨hb.os, hb.tape, hb.output, hb.size, fun k hk _ => hb.block k hk⟩ (by simp)
theorem MR_alloc (h : MR W base b m) (o : Obj) : MR (W.alloc o) base b m := MR_below h (below_alloc (Below.refl _ _) o)
theorem MR_drew (h : MR W base b m) : MR W.drew base b m := MR_below h (below_drew (Below.refl _ _))
theorem MR_drewN (h : MR W base b m) (n : Nat) : MR (W.drewN n) base b m := MR_below h (pw_below_drewN (Below.refl _ _) n)
/-- A row of the call's own is no map. -/
theorem MR_ne {v : Value} {e : Nat} (h : MR W base b m) (ht : ∀ k, v.ownBlock = some k → ∃ cells, W.heap[k]? = some (.cells cells e (0, 0))) : some b ≠ v.ownBlock := by
 intro he
 obtain ⟨es, c, hm⟩ := MR_is h
 obtain ⟨cells, hc⟩ := ht b he.symm
 rw [hm] at hc
 cases hc
/-- W1 is W but for the entries of the map in block b. -/
structure Turn (W W1 : World) (base b : Nat) : Prop where
 lo : base ≤ b
 g : W.grownBy W1 (some b)
 m0 : ∃ es c, W.heap[b]? = some (.map es c)
 m1 : ∃ es c, W1.heap[b]? = some (.map es c)
theorem below_turn {w : World} (h : Below w.heap.size w W) (t : Turn W W1 w.heap.size b) : Below w.heap.size w W1 :=
 ⟨t.g.os.trans h.os, t.g.tape.trans h.tape, t.g.output.trans h.output, Nat.le_trans h.size t.g.size, fun k hk => (t.g.block k (Nat.lt_of_lt_of_le hk h.size) (fun e => by have := t.lo; injection e with e; omega)).trans (h.block k hk)⟩
theorem MR_turn (h : MR W base b' m) (t : Turn W W1 base b) (hne : b' ≠ b) : MR W1 base b' m := MR_grown h t.g (fun e => hne (by injection e))
theorem R_turn {α : Type} {d : Kd α} {e : Nat} {bs : Nat} {ok : Nat → Prop} {v : Value} {xs : List α} (h : d.R e W bs ok v xs) (t : Turn W W1 base b) : d.R e W1 bs ok v xs := by
 refine Kd.R_mono (Kd.R_move (Kd.R_bound h) (fun k hk => t.g.block k hk.2.2.1 (fun e => ?_))) (fun k hk => hk.1)
 obtain ⟨_, _, _, q, _, cells, hc⟩ := hk
 obtain ⟨es, c, hm⟩ := t.m0
 injection e with e
 subst e
 rw [hm] at hc
 cases hc
theorem S_turn {α : Type} {d : Kd α} {e : Nat} {bs : Nat} {ok : Nat → Prop} {v : Value} {xs : List α} (h : d.S e W bs ok v xs) (t : Turn W W1 base b) : d.S e W1 bs ok v xs := by
 obtain ⟨f, h⟩ := h
 exact ⟨f, R_turn h t⟩
theorem C_cells {A : Option Addr} {n : Nat} {xs : List Int} (hc : ∀ a v, W.cell? a = some v → W1.cell? a = some v) (h : (Kd.int .i64).C W A n xs) : (Kd.int .i64).C W1 A n xs := by
 obtain ⟨h1, h2, h3⟩ := h
 refine ⟨h1, h2, fun hp => ?_⟩
 obtain ⟨ad, ha, hr⟩ := h3 hp
 refine ⟨ad, ha, fun j p hj => ?_⟩
 obtain ⟨c, hl, hk, hcell⟩ := hr j p hj
 exact ⟨c, hl, hk, fun i u hi => hc _ _ (hcell i u hi)⟩
theorem F_turn {ok : Nat → Prop} {A : Option Addr} {n : Nat} {xs : List Int} (h : Kd.F (Kd.int .i64) W ok A n xs) (t : Turn W W1 base b) : Kd.F (Kd.int .i64) W1 ok A n xs := by
 intro W' hW
 obtain ⟨es, c, h0⟩ := t.m0
 obtain ⟨es1, c1, h1⟩ := t.m1
 have hb0 : b < W.heap.size := (Array.getElem?_eq_some_iff.1 h0).1
 by_cases hob : ok b
 ·have hb1 : W'.heap[b]? = some (.map es1 c1) := (hW b hob (Nat.lt_of_lt_of_le hb0 t.g.size)).trans h1
  have hlt : b < W'.heap.size := (Array.getElem?_eq_some_iff.1 hb1).1
  have key : Kd.C (Kd.int .i64) ({ W' with heap := W'.heap.setIfInBounds b (.map es c) } : World) A n xs := by
   refine h _ (fun k hk hlk => ?_)
   show (W'.heap.setIfInBounds b (.map es c))[k]? = _
   by_cases e : k = b
   ·subst e
    rw [Array.getElem?_setIfInBounds_self_of_lt hlt, h0]
   ·rw [Array.getElem?_setIfInBounds_ne (fun e' => e e'.symm)]
    exact (hW k hk (Nat.lt_of_lt_of_le hlk t.g.size)).trans (t.g.block k hlk (fun e' => e (by injection e')))
  refine C_cells (fun a v hv => ?_) key
  by_cases e : a.block = b
  ·have : ({ W' with heap := W'.heap.setIfInBounds b (.map es c) } : World).cell? a = none := by
    unfold World.cell?
    show (match (W'.heap.setIfInBounds b (.map es c))[a.block]? with | some (.cells c _ _) => _ | _ => none) = none
    rw [e, Array.getElem?_setIfInBounds_self_of_lt hlt]
   rw [this] at hv
   cases hv
  ·have : ({ W' with heap := W'.heap.setIfInBounds b (.map es c) } : World).cell? a = W'.cell? a := World.cell?_of_block (by show (W'.heap.setIfInBounds b (.map es c))[a.block]? = _; rw [Array.getElem?_setIfInBounds_ne (fun e' => e e'.symm)])
   rw [this] at hv
   exact hv
 ·exact h W' (fun k hk hlk => (hW k hk (Nat.lt_of_lt_of_le hlk t.g.size)).trans (t.g.block k hlk (fun e => hob (by injection e with e; rw [← e]; exact hk))))
theorem V_turn {e bs : Nat} {ok : Nat → Prop} {v : Value} {xs : List Int} (h : Kd.V (Kd.int .i64) e W bs ok v xs) (t : Turn W W1 base b) : Kd.V (Kd.int .i64) e W1 bs ok v xs := by
 obtain ⟨A, c, hv, hl, hF⟩ := h
 exact ⟨A, c, hv, hl, F_turn hF t⟩
theorem law3 : Go.Maps.Keyed Try.prog 3 := Go.Maps.int_keyed Try.underlying3
theorem zero3 (w : World) : (zeroValue 3).run Try.prog w = .ok (.int .i64 0) w := by kernel_rfl
/-- 'm[k] = v', run: the map reads as with the entry. -/
theorem MR_put {k v : Int} {m2 : Mp} (h : MR W base b m) (hA : fake_mp_put.f m k v = some m2) : ∃ W1, (Instr.mapUpdate 121 (.map (some b)) (.int .i64 k) (.int .i64 v)).run Try.prog W = .ok () W1 ∧ MR W1 base b m2 ∧ Turn W W1 base b := by
 unfold fake_mp_put.f at hA
 split at hA
 ·rename_i hw
  injection hA with hA
  subst hA
  obtain ⟨W1, hrun, ho, hg⟩ := h.2.update law3 Try.underlying121 (by have := hw.2.2; unfold maxLen; omega) (Go.Maps.keyOf_int_mk Try.underlying3 hw.1) (plainElem_int Try.underlying3 hw.2.1)
  have hM : MR W1 base b ((k, v) :: m) := ⟨h.1, ho⟩
  exact ⟨W1, hrun, hM, h.1, hg, MR_is h, MR_is hM⟩
 ·cases hA
variable {ops : Array Oper} {rest : List Oper} {o : Oper} {a : Act} {Q : Exit → Act → World → Prop}
/-- 'make(map[int]int)'. -/
theorem wp_mnew (hgd : o.guard = none) {N : Tmp} (hd : o.dst = some N) (hop : o.op = .makeMap 121 none) (base : Nat) (hbase : base ≤ W.heap.size)
  (h : ∀ b' W1, b' = W.heap.size → MR W1 base b' [] → Below W.heap.size W W1 → (∀ base2 b2 m2, MR W base2 b2 m2 → b2 ≠ b') → wpList Try.prog ops Q rest (a.put (some N) (.map (some b'))) W1) : wpList Try.prog ops Q (o :: rest) a W := by
 have hr : (execOp a.eval o).run Try.prog W = .ok (.value (.map (some W.heap.size))) (W.alloc (.map #[] 0)) := by
  simp [execOp, hop]
  rfl
 refine Kd.event_run hgd hr ?_
 rw [hd]
 exact h _ _ rfl ⟨hbase, World.ownsMap_made _ _ _ _⟩ (below_alloc (Below.refl _ _) _) (fun _ _ _ hm => Nat.ne_of_lt (MR_lt hm))
/-- 'm[k]'. -/
theorem wp_mget {k c : Int} (hgd : o.guard = none) (x y : Operand) (hop : o.op = .lookup 121 x y false) (hx : a.eval x = .map (some b)) (hy : a.eval y = .int .i64 k) (hM : MR W base b m) (hA : fake_mp_get.f m k = some c)
  (h : wpList Try.prog ops Q rest (a.put o.dst (.int .i64 c)) W) : wpList Try.prog ops Q (o :: rest) a W := by
 unfold fake_mp_get.f at hA
 split at hA
 ·rename_i hw
  injection hA with hA
  refine wpList_lookup_own_int W hgd x y _ hop 3 3 .i64 law3 Try.underlying121 Try.underlying3 (zero3 W) b _ _ hx hM.2 _ _ hy (Go.Maps.keyOf_int_mk Try.underlying3 hw) ?_
  intro c' hat _
  rw [dat_get] at hat
  injection hat with hat
  injection hat with _ hat
  rw [← hat, hA]
  exact h
 ·cases hA
/-- 'v, ok := m[k]'. -/
theorem wp_mlook {k c : Int} {q : Bool} (hgd : o.guard = none) (x y : Operand) (hop : o.op = .lookup 121 x y true) (hx : a.eval x = .map (some b)) (hy : a.eval y = .int .i64 k) (hM : MR W base b m) (hA : fake_mp_look.f m k = some (c, q))
  (h : wpList Try.prog ops Q rest (a.put o.dst (.tuple #[.int .i64 c, .bool q])) W) : wpList Try.prog ops Q (o :: rest) a W := by
 unfold fake_mp_look.f at hA
 split at hA
 ·rename_i hw
  injection hA with hA
  injection hA with hA hA2
  refine wpList_lookup_own_ok_int W hgd x y _ hop 3 3 .i64 law3 Try.underlying121 Try.underlying3 (zero3 W) b _ _ hx hM.2 _ _ hy (Go.Maps.keyOf_int_mk Try.underlying3 hw) ?_
  intro c' hat _
  rw [dat_get] at hat
  injection hat with hat
  injection hat with _ hat
  rw [← hat, hA, dat_has, hA2]
  exact h
 ·cases hA
theorem put_run {W0 W2 : World} {oi : Oper} {k v : Int} {x y z : Operand} (hop : oi.op = .mapUpdate 121 x y z) (hx : a.eval x = .map (some b)) (hy : a.eval y = .int .i64 k) (hz : a.eval z = .int .i64 v)
  (hrun : (Instr.mapUpdate 121 (.map (some b)) (.int .i64 k) (.int .i64 v)).run Try.prog W0 = .ok () W2) : (execOp a.eval oi).run Try.prog W0 = .ok .skip W2 := by
 simp [execOp, hop, hx, hy, hz, hrun, Result.andThen]
/-- 'm[k] = v'. -/
theorem wp_mput {k v : Int} {m2 : Mp} (hgd : o.guard = none) (hd : o.dst = none) (x y z : Operand) (hop : o.op = .mapUpdate 121 x y z) (hx : a.eval x = .map (some b)) (hy : a.eval y = .int .i64 k) (hz : a.eval z = .int .i64 v) (hM : MR W base b m) (hA : fake_mp_put.f m k v = some m2)
  (h : ∀ W1, MR W1 base b m2 → Turn W W1 base b → wpList Try.prog ops Q rest a W1) : wpList Try.prog ops Q (o :: rest) a W := by
 obtain ⟨W1, hrun, h1, h2⟩ := MR_put hM hA
 refine wpList_plain hgd fun K' hK' => ?_
 unfold Oper.wp
 simp [execOp, hop, hx, hy, hz, hrun, Result.andThen]
 refine hK' _ _ ?_
 have e : a.put o.dst undef = a := by rw [hd]; rfl
 rw [e]
 exact h W1 h1 h2
end

/-! ### fake_mp_get: function 164 -/


/-! ### fake_mp_look: function 165 -/


/-! ### fake_mp_put: function 166 -/


end Go.Proofs.Ytchjajbkaiefdaa.PFnMany
