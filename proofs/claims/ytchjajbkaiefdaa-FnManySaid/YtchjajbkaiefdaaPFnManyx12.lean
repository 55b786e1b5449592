-- Written by a program of this workplace (wip/mp.py) out of the translation.
import Derived.Test.YtchjajbkaiefdaaPFnManyx0
import Derived.Test.YtchjajbkaiefdaaPFnManyx4
import Derived.Test.YtchjajbkaiefdaaPFnManyx8
namespace Go.Proofs.Ytchjajbkaiefdaa.PFnMany
open Go.RowKit Go.Proofs.YtchjajbkaiefdaaW.PrintWords Go.Proofs.YtchjajbkaiefdaaW.PrintLast Go.Proofs.YtchjajbkaiefdaaW.PrintMore Go.Proofs.Ytchjajbkaiefdaa.Slim
attribute [local go_sem] max2_int min2_int max_two min_two max_three min_three max_four min_four   -- for this text's walks alone
set_option maxHeartbeats 8000000
set_option maxRecDepth 100000
set_option linter.unusedVariables false
set_option linter.unusedSimpArgs false

/-! ### spec_l2DrawPlaces: function 95 -/
def spec_l2DrawPlaces.l0 : Nat → Int → List Int → Int → List Int → Int → Int → Option (List Int × Int × Int)
 | 0, _, _, _, _, _, _ => none
 | k + 1, x1, x5, x6, x1000, x1001, x1002 => if x6 < x1 then ((spec_l1Once.f x1000 x1001 x1002 2).bind fun bt526 => (if bt526.1 = true then (if x5.length < 17592186044416 then (spec_l2DrawPlaces.l0 k x1 (x5 ++ [x6]) (wrap64 (x6 + 1)) x1000 bt526.2.1 bt526.2.2) else (none)) else (spec_l2DrawPlaces.l0 k x1 x5 (wrap64 (x6 + 1)) x1000 bt526.2.1 bt526.2.2))) else ((spec_l1Below.f x1000 x1001 x1002 15).bind fun bt532 => (if bt532.1 = 0 then (if x5.length < 17592186044416 then (some ((x5 ++ [x1]), bt532.2.1, bt532.2.2)) else (none)) else (if bt532.1 = 1 then ((spec_l1Below.f x1000 bt532.2.1 bt532.2.2 3).bind fun bt538 => ((some (([wrap64 (bt538.1 - 1)] : List Int) : List Int)).bind fun y541 => (if y541.length + x5.length < 17592186044416 then (some ((y541 ++ x5), bt538.2.1, bt538.2.2)) else (none)))) else (some (x5, bt532.2.1, bt532.2.2)))))
def spec_l2DrawPlaces.f (k : Nat) (s0_0 : List Int) (s0_1 : Int) (s0_2 : Int) (a1 : Int) : Option (List Int × Int × Int) := spec_l2DrawPlaces.l0 k a1 (([] : List Int)) 0 s0_0 s0_1 s0_2
theorem spec_l2DrawPlaces.calls (k : Nat) (g : Nat) (s0_0 : List Int) (s0_1 : Int) (s0_2 : Int) (a1 : Int) (r1 : List Int) (r2 : Int) (r3 : Int) (w0 w : World) (hI : IsS113 w0 w g s0_0 s0_1 s0_2) (hB : Below w0.heap.size w0 w) (h : spec_l2DrawPlaces.f k s0_0 s0_1 s0_2 a1 = some (r1, r2, r3)) :
  Calls Try.prog 95 #[.pointer (some ⟨g, 0, none⟩), .int .i64 a1] w fun e w' => ∃ v0_ : Value, e = .returned (v0_) ∧ Kd.R (Kd.int .i64) 3 w' w.heap.size (fun _ => True) v0_ r1 ∧ IsS113 w0 w' g s0_0 r2 r3 ∧ Below w0.heap.size w0 w' ∧ KeepBut w w' g none := by
 have HI0 := am hI
 have HK := am (KeepBut.refl w g none)
 have HL := am hB.size
 clear hI
 have HW0 := am hB.size
 have HB := am hB
 clear hB
 have H : (spec_l2DrawPlaces.l0 k a1 (([] : List Int)) 0 s0_0 s0_1 s0_2) = some (r1, r2, r3) := h
 clear h
 obtain ⟨y523, hy523⟩ : ∃ y_ : List Int, y_ = (([] : List Int)) := ⟨_, rfl⟩
 replace H : (spec_l2DrawPlaces.l0 k a1 y523 0 s0_0 s0_1 s0_2) = some (r1, r2, r3) := by first | (rw [hy523]; exact H) | exact H
 have Ny523 := am hy523
 clear hy523
 have H' := am H
 clear H
 go_enter Try.func95, Try.ntmps95
 go_wp2_with (first | ((with_reducible refine gate_dst (N := 7) rfl ?_); refine Kd.R_lit (Kd.int .i64) _ 3 ?hg (N := 7) ?hd (xs := ([] : List Int)) (inner := []) (ok := fun _ => True) (okp := fun _ => True) ?hr ?hp (fun _ hk => hk) trivial (Below.refl _ _) (Nat.le_refl _) (by simp) ?_; (case hd => rfl); (case hg => rfl); (case hr => first | (go_simp; done) | (go_simp; rfl)); (case hp => exact (Reps.none _ _)); intro v524 w3 ho4 hb hg_ hnew_; clear hg_ hnew_; (first | rw [← Ny523.out] at ho4 | (simp only [Int.reduceToNat] at ho4; rw [← Ny523.out] at ho4)); have HO525 := am (Kd.R_lower ho4 (keep_size (w := w) (g := g) (row := none) (kp))); replace HK := am (KeepBut.trans (kp) (KeepBut.of_below hb g none) (.inl rfl)); replace HB := am (below_step (b1 (IsS113.ge HI0.out)) hb); replace HI0 := am (IsS113.below (si113_) hb); clear hb ho4))
 go_loopg [5, 6] k (fun kq v5 v6 w' => ∃ (x5_1 : List Int) (x6_1 : Int) (x1001_1 : Int) (x1002_1 : Int), v6 = .int .i64 x6_1 ∧ Aside0 (spec_l2DrawPlaces.l0 kq a1 x5_1 x6_1 s0_0 x1001_1 x1002_1 = some (r1, r2, r3)) ∧ Aside0 (kq ≤ k) ∧ Aside0 (Kd.R (Kd.int .i64) 3 w' w.heap.size (fun _ => True) v5 x5_1) ∧ Aside0 (IsS113 w0 w' g s0_0 x1001_1 x1002_1) ∧ Aside0 (KeepBut w w' g none) ∧ Aside0 (Below w0.heap.size w0 w'))
 case atStart => exact ⟨(y523), (0), (s0_1), (s0_2), e0, H', ⟨Nat.le_refl _⟩, ⟨mv HO525.out⟩, ⟨si113_⟩, ⟨kp⟩, ⟨b1 (IsS113.ge HI0.out)⟩⟩
 case round =>
  clear H'
  obtain ⟨x5_1, x6_1, x1001_1, x1002_1, rfl, HA, HK1, HO_5, HI0, HK, HB⟩ := hrel
  cases gk with
  | zero => exact absurd HA.out (by simp [spec_l2DrawPlaces.l0])
  | succ k1 =>
   have H := HA.out
   clear HA
   simp only [spec_l2DrawPlaces.l0] at H
   by_cases c5 : x6_1 < a1
   ·rw [if_pos c5] at H
    have c5b0 : decide (x6_1 < a1) = true := decide_eq_true c5
    clear c5
    obtain ⟨⟨t526, t527, t528⟩, A6, H⟩ := bm H
    (try dsimp -simprocs only at H)
    by_cases c7 : t526 = true
    ·subst c7
     rw [if_pos rfl] at H
     by_cases c8 : x5_1.length < 17592186044416
     ·rw [if_pos c8] at H
      have LMc8 := am c8
      clear c8
      obtain ⟨y529, hy529⟩ : ∃ y_ : List Int, y_ = (x5_1 ++ [x6_1]) := ⟨_, rfl⟩
      replace H : (spec_l2DrawPlaces.l0 k1 a1 y529 (wrap64 (x6_1 + 1)) s0_0 t527 t528) = some (r1, r2, r3) := by first | (rw [hy529]; exact H) | exact H
      have Ny529 := am hy529
      clear hy529
      have H' := am H
      clear H
      go_wp2_with (first | ((with_reducible refine gate_callee (f := 65) rfl ?_); refine goesL_ (some 14) rfl rfl Try.func65 (by kernel_rfl) rfl #[.pointer (some ⟨g, 0, none⟩), .int .i64 2] rfl av ?_; (with_reducible refine (spec_l1Once.calls g s0_0 x1001_1 x1002_1 2 true t527 t528 w0 _ ?side1 ?side2 A6.out).mono ?_); (case side1 => exact si113_); (case side2 => exact b1 (IsS113.ge HI0.out)); rintro e w9 ⟨rfl, hi, hb, hk⟩; refine ⟨_, rfl, ?_⟩; replace HO_5 := am (rx113 (show IsS113 w0 _ g s0_0 x1001_1 x1002_1 from si113_) (mv HO_5.out) hk); replace HK := am (KeepBut.trans (kp) hk (.inl rfl)); replace HB := am (hb); replace HI0 := am (hi); (try clear hb); (try clear hb2); (try clear hk); (try clear hi)) | ((with_reducible refine gate_builtin (b := .append) (xs := #[.tmp 15, .tmp 17]) rfl ?_); at_builtin; refine Kd.R_append (Kd.int .i64) w.heap.size rfl (.tmp 15) (.tmp 17) 29 3 (.int .i64 0) 8 rfl Try.underlying29 info3 rfl (by decide) (by omega) u5 x5_1 x6_1 [.int .i64 x6_1] (fun _ => True) (fun _ => False) rfl rfl ?aP (fun _ hk => hk.elim) ?aF ?aO (Below.refl _ _) ?aS ?aL ?_; (case aP => exact rfl); (case aF => exact (fun _ _ => trivial)); (case aO => exact (mv HO_5.out)); (case aS => exact (keep_size (w := w) (g := g) (row := none) (kp))); (case aL => have := LMc8.out; omega); intro v530 w10 ho hb hg hat; rw [← Ny529.out] at ho; replace HB := am (below_weaken (b1 (IsS113.ge HI0.out)) HL.out hb); replace HI0 := am (IsS113.grown (si113_) hg (IsS113.own_ne HI0.out HO_5.out (by decide))); replace HK := am (KeepBut.trans (kp) (KeepBut.of_grown hg g) (Kd.R_base2 HO_5.out)); have HO531 := am (ho); clear HO_5; clear ho hb hg hat))
      go_roundg k1
      case measure => have := HK1.out; omega
      case rel => exact ⟨(y529), (wrap64 (x6_1 + 1)), (t527), (t528), e0, H', ⟨by have := HK1.out; omega⟩, ⟨mv HO531.out⟩, ⟨si113_⟩, ⟨kp⟩, ⟨b1 (IsS113.ge HI0.out)⟩⟩
     ·exact nh c8 H
    ·replace c7 := Bool.eq_false_iff.mpr c7
     subst c7
     rw [if_neg nft] at H
     have H' := am H
     clear H
     go_wp2_with (first | ((with_reducible refine gate_callee (f := 65) rfl ?_); refine goesL_ (some 14) rfl rfl Try.func65 (by kernel_rfl) rfl #[.pointer (some ⟨g, 0, none⟩), .int .i64 2] rfl av ?_; (with_reducible refine (spec_l1Once.calls g s0_0 x1001_1 x1002_1 2 false t527 t528 w0 _ ?side1 ?side2 A6.out).mono ?_); (case side1 => exact si113_); (case side2 => exact b1 (IsS113.ge HI0.out)); rintro e w11 ⟨rfl, hi, hb, hk⟩; refine ⟨_, rfl, ?_⟩; replace HO_5 := am (rx113 (show IsS113 w0 _ g s0_0 x1001_1 x1002_1 from si113_) (mv HO_5.out) hk); replace HK := am (KeepBut.trans (kp) hk (.inl rfl)); replace HB := am (hb); replace HI0 := am (hi); (try clear hb); (try clear hb2); (try clear hk); (try clear hi)))
     go_roundg k1
     case measure => have := HK1.out; omega
     case rel => exact ⟨(x5_1), (wrap64 (x6_1 + 1)), (t527), (t528), e0, H', ⟨by have := HK1.out; omega⟩, ⟨mv HO_5.out⟩, ⟨si113_⟩, ⟨kp⟩, ⟨b1 (IsS113.ge HI0.out)⟩⟩
   ·rw [if_neg c5] at H
    have c5b0 : decide (x6_1 < a1) = false := decide_eq_false c5
    clear c5
    obtain ⟨⟨t532, t533, t534⟩, A12, H⟩ := bm H
    (try dsimp -simprocs only at H)
    by_cases c13 : t532 = 0
    ·rw [if_pos c13] at H
     have c13b0 : (t532 == 0) = true := beq_iff_eq.mpr c13
     have c13b1 : (t532 != 0) = false := bne_eq_false_iff_eq.mpr c13
     clear c13
     by_cases c14 : x5_1.length < 17592186044416
     ·rw [if_pos c14] at H
      have LMc14 := am c14
      clear c14
      obtain ⟨y535, hy535⟩ : ∃ y_ : List Int, y_ = (x5_1 ++ [a1]) := ⟨_, rfl⟩
      replace H : (some (y535, t533, t534)) = some (r1, r2, r3) := by first | (rw [hy535]; exact H) | exact H
      have Ny535 := am hy535
      clear hy535
      simp only [Option.some.injEq, Prod.mk.injEq] at H
      obtain ⟨rfl, rfl, rfl⟩ := H
      go_wp2_with (first | ((with_reducible refine gate_callee (f := 53) rfl ?_); refine goesL_ (some 20) rfl rfl Try.func53 (by kernel_rfl) rfl #[.pointer (some ⟨g, 0, none⟩), .int .i64 15] rfl av ?_; (with_reducible refine (spec_l1Below.calls g s0_0 x1001_1 x1002_1 15 t532 t533 t534 w0 _ ?side1 ?side2 A12.out).mono ?_); (case side1 => exact si113_); (case side2 => exact b1 (IsS113.ge HI0.out)); rintro e w15 ⟨rfl, hi, hb, hk⟩; refine ⟨_, rfl, ?_⟩; replace HO_5 := am (rx113 (show IsS113 w0 _ g s0_0 x1001_1 x1002_1 from si113_) (mv HO_5.out) hk); replace HK := am (KeepBut.trans (kp) hk (.inl rfl)); replace HB := am (hb); replace HI0 := am (hi); (try clear hb); (try clear hb2); (try clear hk); (try clear hi)) | ((with_reducible refine gate_builtin (b := .append) (xs := #[.tmp 23, .tmp 25]) rfl ?_); at_builtin; refine Kd.R_append (Kd.int .i64) w.heap.size rfl (.tmp 23) (.tmp 25) 29 3 (.int .i64 0) 8 rfl Try.underlying29 info3 rfl (by decide) (by omega) u5 x5_1 a1 [.int .i64 a1] (fun _ => True) (fun _ => False) rfl rfl ?aP (fun _ hk => hk.elim) ?aF ?aO (Below.refl _ _) ?aS ?aL ?_; (case aP => exact rfl); (case aF => exact (fun _ _ => trivial)); (case aO => exact (mv HO_5.out)); (case aS => exact (keep_size (w := w) (g := g) (row := none) (kp))); (case aL => have := LMc14.out; omega); intro v536 w16 ho hb hg hat; rw [← Ny535.out] at ho; replace HB := am (below_weaken (b1 (IsS113.ge HI0.out)) HL.out hb); replace HI0 := am (IsS113.grown (si113_) hg (IsS113.own_ne HI0.out HO_5.out (by decide))); replace HK := am (KeepBut.trans (kp) (KeepBut.of_grown hg g) (Kd.R_base2 HO_5.out)); have HO537 := am (ho); clear HO_5; clear ho hb hg hat))
      go_ret
      exact ⟨_, by first | rfl | (simp [errW_none, errW_some] <;> rfl) | (simp [*, errW_none, errW_some] <;> rfl), rR (h := by exact HO537.out), si113_, b1 (IsS113.ge HI0.out), kp⟩
     ·exact nh c14 H
    ·rw [if_neg c13] at H
     have c13b0 : (t532 == 0) = false := beq_eq_false_iff_ne.mpr c13
     have c13b1 : (t532 != 0) = true := bne_iff_ne.mpr c13
     by_cases c17 : t532 = 1
     ·rw [if_pos c17] at H
      have c17b0 : (t532 == 1) = true := beq_iff_eq.mpr c17
      have c17b1 : (t532 != 1) = false := bne_eq_false_iff_eq.mpr c17
      clear c17
      obtain ⟨⟨t538, t539, t540⟩, A18, H⟩ := bm H
      (try dsimp -simprocs only at H)
      obtain ⟨y541, hy541⟩ : ∃ y_ : List Int, y_ = (([wrap64 (t538 - 1)] : List Int)) := ⟨_, rfl⟩
      replace H : (if y541.length + x5_1.length < 17592186044416 then (some ((y541 ++ x5_1), t539, t540)) else (none)) = some (r1, r2, r3) := by first | (rw [hy541]; exact H) | exact H
      have Ny541 := am hy541
      clear hy541
      by_cases c19 : y541.length + x5_1.length < 17592186044416
      ·rw [if_pos c19] at H
       have LMc19 := am c19
       clear c19
       obtain ⟨y544, hy544⟩ : ∃ y_ : List Int, y_ = (y541 ++ x5_1) := ⟨_, rfl⟩
       replace H : (some (y544, t539, t540)) = some (r1, r2, r3) := by first | (rw [hy544]; exact H) | exact H
       have Ny544 := am hy544
       clear hy544
       simp only [Option.some.injEq, Prod.mk.injEq] at H
       obtain ⟨rfl, rfl, rfl⟩ := H
       go_wp2_with (first | ((with_reducible refine gate_callee (f := 53) rfl ?_); refine goesL_ (some 20) rfl rfl Try.func53 (by kernel_rfl) rfl #[.pointer (some ⟨g, 0, none⟩), .int .i64 15] rfl av ?_; (with_reducible refine (spec_l1Below.calls g s0_0 x1001_1 x1002_1 15 t532 t533 t534 w0 _ ?side1 ?side2 A12.out).mono ?_); (case side1 => exact si113_); (case side2 => exact b1 (IsS113.ge HI0.out)); rintro e w20 ⟨rfl, hi, hb, hk⟩; refine ⟨_, rfl, ?_⟩; replace HO_5 := am (rx113 (show IsS113 w0 _ g s0_0 x1001_1 x1002_1 from si113_) (mv HO_5.out) hk); replace HK := am (KeepBut.trans (kp) hk (.inl rfl)); replace HB := am (hb); replace HI0 := am (hi); (try clear hb); (try clear hb2); (try clear hk); (try clear hi)) | ((with_reducible refine gate_callee (f := 53) rfl ?_); refine goesL_ (some 30) rfl rfl Try.func53 (by kernel_rfl) rfl #[.pointer (some ⟨g, 0, none⟩), .int .i64 3] rfl av ?_; (with_reducible refine (spec_l1Below.calls g s0_0 t533 t534 3 t538 t539 t540 w0 _ ?side1 ?side2 A18.out).mono ?_); (case side1 => exact si113_); (case side2 => exact b1 (IsS113.ge HI0.out)); rintro e w21 ⟨rfl, hi, hb, hk⟩; refine ⟨_, rfl, ?_⟩; replace HO_5 := am (rx113 (show IsS113 w0 _ g s0_0 t533 t534 from si113_) (mv HO_5.out) hk); replace HK := am (KeepBut.trans (kp) hk (.inl rfl)); replace HB := am (hb); replace HI0 := am (hi); (try clear hb); (try clear hb2); (try clear hk); (try clear hi)) | ((with_reducible refine gate_dst (N := 32) rfl ?_); refine Kd.R_lit (Kd.int .i64) _ 3 ?hg (N := 32) ?hd (xs := ([wrap64 (t538 - 1)] : List Int)) (inner := [.int .i64 (wrap64 (t538 - 1))]) (ok := fun _ => True) (okp := fun _ => True) ?hr ?hp (fun _ hk => hk) trivial (Below.refl _ _) (Nat.le_refl _) (by simp) ?_; (case hd => rfl); (case hg => rfl); (case hr => first | (go_simp; done) | (go_simp; rfl)); (case hp => exact (Reps.one (show Kd.M (Kd.int .i64) _ _ _ (wrap64 (t538 - 1)) [.int .i64 (wrap64 (t538 - 1))] from rfl) (Reps.none _ _))); intro v542 w22 ho23 hb hg_ hnew_; clear hg_ hnew_; (first | rw [← Ny541.out] at ho23 | (simp only [Int.reduceToNat] at ho23; rw [← Ny541.out] at ho23)); have HO543 := am (Kd.R_lower (Kd.R_new' ho23 (Kd.R_lt (mv HO_5.out))) (keep_size (w := w) (g := g) (row := none) (kp))); replace HO_5 := am (Kd.R_elder' (mv HO_5.out) (Kd.R_base ho23) hb); replace HK := am (KeepBut.trans (kp) (KeepBut.of_below hb g none) (.inl rfl)); replace HB := am (below_step (b1 (IsS113.ge HI0.out)) hb); replace HI0 := am (IsS113.below (si113_) hb); clear hb ho23; obtain ⟨Ao25, co25, eo25⟩ := Kd.R_slice HO_5.out; subst eo25) | ((with_reducible refine gate_builtin (b := .append) (xs := #[.tmp 32, .tmp 33]) rfl ?_); at_builtin; refine Kd.R_append_rows (Kd.int .i64) w.heap.size rfl (.tmp 32) (.tmp 33) 29 3 (.int .i64 0) 8 rfl Try.underlying29 info3 rfl (by decide) (by omega) v542 y541 x5_1 _ _ _ (fun k_ => nb k_ (.slice Ao25 x5_1.length co25)) (fun _ => False) rfl rfl ?aO ?aR (fun _ _ h => h) (fun _ h => h.elim) ?aF (Below.refl _ _) ?aS ?aL ?_; (case aR => exact cv ((Kd.R_reads' HO_5.out).2.2)); (case aF => exact (fun k_ hk => Kd.fresh' (Kd.R_lt (mv HO_5.out)) k_ hk)); (case aO => exact (rR (h := by exact Kd.R_mono HO543.out (fun _ hk => hk.2)))); (case aS => exact (keep_size (w := w) (g := g) (row := none) (kp))); (case aL => have := LMc19.out; omega); intro v545 w24 ho hb hg hat; rw [← Ny544.out] at ho; replace HO_5 := am (Kd.R_after (ok := (fun _ => True)) (mv HO_5.out) hg hat); replace HB := am (below_weaken (b1 (IsS113.ge HI0.out)) HL.out hb); replace HI0 := am (IsS113.grown (si113_) hg (IsS113.own_ne HI0.out HO543.out (by decide))); replace HK := am (KeepBut.trans (kp) (KeepBut.of_grown hg g) (Kd.R_base2 HO543.out)); have HO546 := am (ho); clear HO543; clear ho hb hg hat))
       go_ret
       exact ⟨_, by first | rfl | (simp [errW_none, errW_some] <;> rfl) | (simp [*, errW_none, errW_some] <;> rfl), rR (h := by exact Kd.R_mono HO546.out (fun _ hk => trivial)), si113_, b1 (IsS113.ge HI0.out), kp⟩
      ·exact nh c19 H
     ·rw [if_neg c17] at H
      have c17b0 : (t532 == 1) = false := beq_eq_false_iff_ne.mpr c17
      have c17b1 : (t532 != 1) = true := bne_iff_ne.mpr c17
      simp only [Option.some.injEq, Prod.mk.injEq] at H
      obtain ⟨rfl, rfl, rfl⟩ := H
      go_wp2_with (first | ((with_reducible refine gate_callee (f := 53) rfl ?_); refine goesL_ (some 20) rfl rfl Try.func53 (by kernel_rfl) rfl #[.pointer (some ⟨g, 0, none⟩), .int .i64 15] rfl av ?_; (with_reducible refine (spec_l1Below.calls g s0_0 x1001_1 x1002_1 15 t532 t533 t534 w0 _ ?side1 ?side2 A12.out).mono ?_); (case side1 => exact si113_); (case side2 => exact b1 (IsS113.ge HI0.out)); rintro e w26 ⟨rfl, hi, hb, hk⟩; refine ⟨_, rfl, ?_⟩; replace HO_5 := am (rx113 (show IsS113 w0 _ g s0_0 x1001_1 x1002_1 from si113_) (mv HO_5.out) hk); replace HK := am (KeepBut.trans (kp) hk (.inl rfl)); replace HB := am (hb); replace HI0 := am (hi); (try clear hb); (try clear hb2); (try clear hk); (try clear hi)))
      go_ret
      exact ⟨_, by first | rfl | (simp [errW_none, errW_some] <;> rfl) | (simp [*, errW_none, errW_some] <;> rfl), rR (h := by exact HO_5.out), si113_, b1 (IsS113.ge HI0.out), kp⟩

/-! ### spec_l2Places: function 123 -/
def spec_l2Places.l0 : Nat → Int → List Int → Int → Option (Bool)
 | 0, _, _, _ => none
 | k + 1, x0, x1, x5 => if x5 < (x1.length : Int) then (if 0 ≤ x5 then ((spec_l1In.f (rd x1 x5) 0 (wrap64 (x0 - 1))).bind fun t548 => (if t548 = true then (if x5 > 0 then (if 0 ≤ (wrap64 (x5 - 1)) then (if (wrap64 (x5 - 1)) < (x1.length : Int) then (if (rd x1 (wrap64 (x5 - 1))) ≥ (rd x1 x5) then (some false) else (spec_l2Places.l0 k x0 x1 (wrap64 (x5 + 1)))) else (none)) else (none)) else (spec_l2Places.l0 k x0 x1 (wrap64 (x5 + 1)))) else (some false))) else (none)) else (some (decide ((x1.length : Int) > 0)))
def spec_l2Places.f (k : Nat) (a0 : Int) (l1 : List Int) : Option (Bool) := spec_l2Places.l0 k a0 l1 0
theorem spec_l2Places.calls (k : Nat) (a0 : Int) (A1 : Option Addr) (c1 : Nat) (l1 : List Int) (r : Bool) (w : World) (hr1 : Kd.C (Kd.int .i64) w A1 l1.length l1) (hc1 : l1.length ≤ c1) (h : spec_l2Places.f k a0 l1 = some r) :
  Calls Try.prog 123 #[.int .i64 a0, .slice A1 l1.length c1] w fun e w' => e = .returned (.bool r) ∧ Drawn0 w w' := by
 have HR1 := am hr1
 have HC1 := am hc1
 clear hr1 hc1
 have H : (spec_l2Places.l0 k a0 l1 0) = some r := h
 clear h
 have H' := am H
 clear H
 go_enter Try.func123, Try.ntmps123
 go_wp2
 go_loopg [5] k (fun kq v5 w' => ∃ (x5_1 : Int), v5 = .int .i64 x5_1 ∧ Aside0 (spec_l2Places.l0 kq a0 l1 x5_1 = some r) ∧ Aside0 (kq ≤ k) ∧ Drawn0 w w')
 case atStart => exact ⟨(0), e0, H', ⟨Nat.le_refl _⟩, by repeat (first | exact Drawn0.refl _ | apply Drawn0.step)⟩
 case round =>
  clear H'
  obtain ⟨x5_1, rfl, HA, HK1, ⟨m1, rfl⟩⟩ := hrel
  cases gk with
  | zero => exact absurd HA.out (by simp [spec_l2Places.l0])
  | succ k1 =>
   have H := HA.out
   clear HA
   simp only [spec_l2Places.l0] at H
   by_cases c3 : x5_1 < (l1.length : Int)
   ·rw [if_pos c3] at H
    have c3b0 : decide (x5_1 < (l1.length : Int)) = true := decide_eq_true c3
    clear c3
    by_cases c4 : 0 ≤ x5_1
    ·rw [if_pos c4] at H
     have c4b0 : decide (0 ≤ x5_1) = true := decide_eq_true c4
     clear c4
     obtain ⟨t548, A5, H⟩ := bm H
     (try dsimp -simprocs only at H)
     by_cases c6 : t548 = true
     ·subst c6
      rw [if_pos rfl] at H
      by_cases c7 : x5_1 > 0
      ·rw [if_pos c7] at H
       have c7b0 : decide (0 < x5_1) = true := decide_eq_true c7
       clear c7
       obtain ⟨ji8, hji8⟩ : ∃ j_ : Int, (wrap64 (x5_1 - 1)) = j_ := ⟨_, rfl⟩
       replace H : (if 0 ≤ (ji8) then (if (ji8) < (l1.length : Int) then (if (rd l1 (ji8)) ≥ (rd l1 x5_1) then (some false) else (spec_l2Places.l0 k1 a0 l1 (wrap64 (x5_1 + 1)))) else (none)) else (none)) = some r := by first | (rw [hji8] at H; exact H) | (simp only [hji8] at H ⊢; exact H)
       (try rw [hji8] at A5)
       have hji8w : (IntKind.i64.wrap (x5_1 - 1)) = ji8 := (i64_w _).trans hji8
       by_cases c9 : 0 ≤ (ji8)
       ·rw [if_pos c9] at H
        have c9b0 : decide (0 ≤ (ji8)) = true := decide_eq_true c9
        clear c9
        by_cases c10 : (ji8) < (l1.length : Int)
        ·rw [if_pos c10] at H
         have c10b0 : decide ((ji8) < (l1.length : Int)) = true := decide_eq_true c10
         clear c10
         by_cases c11 : (rd l1 (ji8)) ≥ (rd l1 x5_1)
         ·rw [if_pos c11] at H
          have c11b0 : decide ((rd l1 x5_1) ≤ (rd l1 (ji8))) = true := decide_eq_true c11
          clear c11
          obtain rfl := Option.some.inj H
          have p547 : 0 ≤ (x5_1 : Int) := of_decide_eq_true asm
          have q547 : x5_1 < (l1.length : Int) := of_decide_eq_true asm
          obtain ⟨ad547, e547, hx547_0⟩ := Kd.at_int HR1.out x5_1 p547 q547
          cases e547
          (try (have pj_ : 0 ≤ (ji8 : Int) := of_decide_eq_true (by assumption); have qj_ : ji8 < (l1.length : Int) := of_decide_eq_true (by assumption); obtain ⟨adj_, ej_, hxj_⟩ := Kd.at_int HR1.out ji8 pj_ qj_; cases ej_; replace pj_ := eq_true pj_; replace qj_ := eq_true qj_))
          replace p547 := eq_true p547
          replace q547 := eq_true q547
          go_wp2_with (first | (go_at_call 97; (with_reducible refine (spec_l1In.calls (rd l1 x5_1) 0 (wrap64 (a0 - 1)) true _ A5.out).mono ?_); rintro e w' ⟨rfl, ⟨nd, rfl⟩⟩; (try first | exact ⟨rfl, _, World.drewN_drewN _ _ _⟩ | exact ⟨rfl, _, Eq.trans (World.drewN_drewN _ _ _) (congrArg (World.drewN _) (Nat.add_assoc _ _ _))⟩); have p549 : 0 ≤ ((ji8) : Int) := of_decide_eq_true asm; have q549 : (ji8) < (l1.length : Int) := of_decide_eq_true asm; obtain ⟨ad549, e549, hx549_0⟩ := Kd.at_int HR1.out (ji8) p549 q549; obtain rfl : ad547 = ad549 := (by injection e549); replace p549 := eq_true p549; replace q549 := eq_true q549; have p550 : 0 ≤ (x5_1 : Int) := of_decide_eq_true asm; have q550 : x5_1 < (l1.length : Int) := of_decide_eq_true asm; obtain ⟨ad550, e550, hx550_0⟩ := Kd.at_int HR1.out x5_1 p550 q550; obtain rfl : ad547 = ad550 := (by injection e550); replace p550 := eq_true p550; replace q550 := eq_true q550))
          repeat (go_quiet (first | (go_at_call 97; (with_reducible refine (spec_l1In.calls (rd l1 x5_1) 0 (wrap64 (a0 - 1)) true _ A5.out).mono ?_); rintro e w' ⟨rfl, ⟨nd, rfl⟩⟩; (try first | exact ⟨rfl, _, World.drewN_drewN _ _ _⟩ | exact ⟨rfl, _, Eq.trans (World.drewN_drewN _ _ _) (congrArg (World.drewN _) (Nat.add_assoc _ _ _))⟩))); try go_wp2)
          go_ret
          exact ⟨by first | rfl | (simp; done) | (simp only [← hji8] <;> (first | rfl | simp)) | (simp [*]; done), by repeat (first | exact Drawn0.refl _ | apply Drawn0.step)⟩
         ·rw [if_neg c11] at H
          have c11b0 : decide ((rd l1 x5_1) ≤ (rd l1 (ji8))) = false := decide_eq_false c11
          clear c11
          have H' := am H
          clear H
          have p547 : 0 ≤ (x5_1 : Int) := of_decide_eq_true asm
          have q547 : x5_1 < (l1.length : Int) := of_decide_eq_true asm
          obtain ⟨ad547, e547, hx547_0⟩ := Kd.at_int HR1.out x5_1 p547 q547
          cases e547
          (try (have pj_ : 0 ≤ (ji8 : Int) := of_decide_eq_true (by assumption); have qj_ : ji8 < (l1.length : Int) := of_decide_eq_true (by assumption); obtain ⟨adj_, ej_, hxj_⟩ := Kd.at_int HR1.out ji8 pj_ qj_; cases ej_; replace pj_ := eq_true pj_; replace qj_ := eq_true qj_))
          replace p547 := eq_true p547
          replace q547 := eq_true q547
          go_wp2_with (first | (go_at_call 97; (with_reducible refine (spec_l1In.calls (rd l1 x5_1) 0 (wrap64 (a0 - 1)) true _ A5.out).mono ?_); rintro e w' ⟨rfl, ⟨nd, rfl⟩⟩; (try first | exact ⟨rfl, _, World.drewN_drewN _ _ _⟩ | exact ⟨rfl, _, Eq.trans (World.drewN_drewN _ _ _) (congrArg (World.drewN _) (Nat.add_assoc _ _ _))⟩); have p549 : 0 ≤ ((ji8) : Int) := of_decide_eq_true asm; have q549 : (ji8) < (l1.length : Int) := of_decide_eq_true asm; obtain ⟨ad549, e549, hx549_0⟩ := Kd.at_int HR1.out (ji8) p549 q549; obtain rfl : ad547 = ad549 := (by injection e549); replace p549 := eq_true p549; replace q549 := eq_true q549; have p550 : 0 ≤ (x5_1 : Int) := of_decide_eq_true asm; have q550 : x5_1 < (l1.length : Int) := of_decide_eq_true asm; obtain ⟨ad550, e550, hx550_0⟩ := Kd.at_int HR1.out x5_1 p550 q550; obtain rfl : ad547 = ad550 := (by injection e550); replace p550 := eq_true p550; replace q550 := eq_true q550))
          repeat (go_quiet (first | (go_at_call 97; (with_reducible refine (spec_l1In.calls (rd l1 x5_1) 0 (wrap64 (a0 - 1)) true _ A5.out).mono ?_); rintro e w' ⟨rfl, ⟨nd, rfl⟩⟩; (try first | exact ⟨rfl, _, World.drewN_drewN _ _ _⟩ | exact ⟨rfl, _, Eq.trans (World.drewN_drewN _ _ _) (congrArg (World.drewN _) (Nat.add_assoc _ _ _))⟩))); try go_wp2)
          go_roundg k1
          case measure => have := HK1.out; omega
          case rel => exact ⟨(wrap64 (x5_1 + 1)), e0, H', ⟨by have := HK1.out; omega⟩, by repeat (first | exact Drawn0.refl _ | apply Drawn0.step)⟩
        ·exact nh c10 H
       ·exact nh c9 H
      ·rw [if_neg c7] at H
       have c7b0 : decide (0 < x5_1) = false := decide_eq_false c7
       clear c7
       have H' := am H
       clear H
       have p547 : 0 ≤ (x5_1 : Int) := of_decide_eq_true asm
       have q547 : x5_1 < (l1.length : Int) := of_decide_eq_true asm
       obtain ⟨ad547, e547, hx547_0⟩ := Kd.at_int HR1.out x5_1 p547 q547
       cases e547
       (try (have pj_ : 0 ≤ (ji8 : Int) := of_decide_eq_true (by assumption); have qj_ : ji8 < (l1.length : Int) := of_decide_eq_true (by assumption); obtain ⟨adj_, ej_, hxj_⟩ := Kd.at_int HR1.out ji8 pj_ qj_; cases ej_; replace pj_ := eq_true pj_; replace qj_ := eq_true qj_))
       replace p547 := eq_true p547
       replace q547 := eq_true q547
       go_wp2_with (first | (go_at_call 97; (with_reducible refine (spec_l1In.calls (rd l1 x5_1) 0 (wrap64 (a0 - 1)) true _ A5.out).mono ?_); rintro e w' ⟨rfl, ⟨nd, rfl⟩⟩; (try first | exact ⟨rfl, _, World.drewN_drewN _ _ _⟩ | exact ⟨rfl, _, Eq.trans (World.drewN_drewN _ _ _) (congrArg (World.drewN _) (Nat.add_assoc _ _ _))⟩)))
       repeat (go_quiet (first | (go_at_call 97; (with_reducible refine (spec_l1In.calls (rd l1 x5_1) 0 (wrap64 (a0 - 1)) true _ A5.out).mono ?_); rintro e w' ⟨rfl, ⟨nd, rfl⟩⟩; (try first | exact ⟨rfl, _, World.drewN_drewN _ _ _⟩ | exact ⟨rfl, _, Eq.trans (World.drewN_drewN _ _ _) (congrArg (World.drewN _) (Nat.add_assoc _ _ _))⟩))); try go_wp2_with (first | (go_at_call 97; (with_reducible refine (spec_l1In.calls (rd l1 x5_1) 0 (wrap64 (a0 - 1)) true _ A5.out).mono ?_); rintro e w' ⟨rfl, ⟨nd, rfl⟩⟩; (try first | exact ⟨rfl, _, World.drewN_drewN _ _ _⟩ | exact ⟨rfl, _, Eq.trans (World.drewN_drewN _ _ _) (congrArg (World.drewN _) (Nat.add_assoc _ _ _))⟩))))
       go_roundg k1
       case measure => have := HK1.out; omega
       case rel => exact ⟨(wrap64 (x5_1 + 1)), e0, H', ⟨by have := HK1.out; omega⟩, by repeat (first | exact Drawn0.refl _ | apply Drawn0.step)⟩
     ·replace c6 := Bool.eq_false_iff.mpr c6
      subst c6
      rw [if_neg nft] at H
      obtain rfl := Option.some.inj H
      have p547 : 0 ≤ (x5_1 : Int) := of_decide_eq_true asm
      have q547 : x5_1 < (l1.length : Int) := of_decide_eq_true asm
      obtain ⟨ad547, e547, hx547_0⟩ := Kd.at_int HR1.out x5_1 p547 q547
      cases e547
      (try (have pj_ : 0 ≤ (ji8 : Int) := of_decide_eq_true (by assumption); have qj_ : ji8 < (l1.length : Int) := of_decide_eq_true (by assumption); obtain ⟨adj_, ej_, hxj_⟩ := Kd.at_int HR1.out ji8 pj_ qj_; cases ej_; replace pj_ := eq_true pj_; replace qj_ := eq_true qj_))
      replace p547 := eq_true p547
      replace q547 := eq_true q547
      go_wp2_with (first | (go_at_call 97; (with_reducible refine (spec_l1In.calls (rd l1 x5_1) 0 (wrap64 (a0 - 1)) false _ A5.out).mono ?_); rintro e w' ⟨rfl, ⟨nd, rfl⟩⟩; (try first | exact ⟨rfl, _, World.drewN_drewN _ _ _⟩ | exact ⟨rfl, _, Eq.trans (World.drewN_drewN _ _ _) (congrArg (World.drewN _) (Nat.add_assoc _ _ _))⟩)))
      repeat (go_quiet (first | (go_at_call 97; (with_reducible refine (spec_l1In.calls (rd l1 x5_1) 0 (wrap64 (a0 - 1)) false _ A5.out).mono ?_); rintro e w' ⟨rfl, ⟨nd, rfl⟩⟩; (try first | exact ⟨rfl, _, World.drewN_drewN _ _ _⟩ | exact ⟨rfl, _, Eq.trans (World.drewN_drewN _ _ _) (congrArg (World.drewN _) (Nat.add_assoc _ _ _))⟩))); try go_wp2_with (first | (go_at_call 97; (with_reducible refine (spec_l1In.calls (rd l1 x5_1) 0 (wrap64 (a0 - 1)) false _ A5.out).mono ?_); rintro e w' ⟨rfl, ⟨nd, rfl⟩⟩; (try first | exact ⟨rfl, _, World.drewN_drewN _ _ _⟩ | exact ⟨rfl, _, Eq.trans (World.drewN_drewN _ _ _) (congrArg (World.drewN _) (Nat.add_assoc _ _ _))⟩))))
      go_ret
      exact ⟨e0, by repeat (first | exact Drawn0.refl _ | apply Drawn0.step)⟩
    ·exact nh c4 H
   ·rw [if_neg c3] at H
    have c3b0 : decide (x5_1 < (l1.length : Int)) = false := decide_eq_false c3
    clear c3
    obtain rfl := Option.some.inj H
    go_wp2
    go_ret
    exact ⟨e0, by repeat (first | exact Drawn0.refl _ | apply Drawn0.step)⟩

/-! ### spec_l2Has: function 124 -/
def spec_l2Has.l0 : Nat → List Int → Int → Int → Option (Int)
 | 0, _, _, _ => none
 | k + 1, x0, x1, x5 => if x5 < (x0.length : Int) then (if 0 ≤ x5 then (if (rd x0 x5) = x1 then (some x5) else (spec_l2Has.l0 k x0 x1 (wrap64 (x5 + 1)))) else (none)) else (some (-1))
def spec_l2Has.f (k : Nat) (l0 : List Int) (a1 : Int) : Option (Int) := spec_l2Has.l0 k l0 a1 0
theorem spec_l2Has.calls (k : Nat) (A0 : Option Addr) (c0 : Nat) (l0 : List Int) (a1 : Int) (r : Int) (w : World) (hr0 : Kd.C (Kd.int .i64) w A0 l0.length l0) (hc0 : l0.length ≤ c0) (h : spec_l2Has.f k l0 a1 = some r) :
  Calls Try.prog 124 #[.slice A0 l0.length c0, .int .i64 a1] w fun e w' => e = .returned (.int .i64 r) ∧ Drawn0 w w' := by
 have HR0 := am hr0
 have HC0 := am hc0
 clear hr0 hc0
 have H : (spec_l2Has.l0 k l0 a1 0) = some r := h
 clear h
 have H' := am H
 clear H
 go_enter Try.func124, Try.ntmps124
 go_wp2
 go_loopg [5] k (fun kq v5 w' => ∃ (x5_1 : Int), v5 = .int .i64 x5_1 ∧ Aside0 (spec_l2Has.l0 kq l0 a1 x5_1 = some r) ∧ Aside0 (kq ≤ k) ∧ Drawn0 w w')
 case atStart => exact ⟨(0), e0, H', ⟨Nat.le_refl _⟩, by repeat (first | exact Drawn0.refl _ | apply Drawn0.step)⟩
 case round =>
  clear H'
  obtain ⟨x5_1, rfl, HA, HK1, ⟨m1, rfl⟩⟩ := hrel
  cases gk with
  | zero => exact absurd HA.out (by simp [spec_l2Has.l0])
  | succ k1 =>
   have H := HA.out
   clear HA
   simp only [spec_l2Has.l0] at H
   by_cases c3 : x5_1 < (l0.length : Int)
   ·rw [if_pos c3] at H
    have c3b0 : decide (x5_1 < (l0.length : Int)) = true := decide_eq_true c3
    clear c3
    by_cases c4 : 0 ≤ x5_1
    ·rw [if_pos c4] at H
     have c4b0 : decide (0 ≤ x5_1) = true := decide_eq_true c4
     clear c4
     by_cases c5 : (rd l0 x5_1) = a1
     ·rw [if_pos c5] at H
      have c5b0 : ((rd l0 x5_1) == a1) = true := beq_iff_eq.mpr c5
      have c5b1 : ((rd l0 x5_1) != a1) = false := bne_eq_false_iff_eq.mpr c5
      clear c5
      obtain rfl := Option.some.inj H
      have p551 : 0 ≤ (x5_1 : Int) := of_decide_eq_true asm
      have q551 : x5_1 < (l0.length : Int) := of_decide_eq_true asm
      obtain ⟨ad551, e551, hx551_0⟩ := Kd.at_int HR0.out x5_1 p551 q551
      cases e551
      replace p551 := eq_true p551
      replace q551 := eq_true q551
      go_wp2
      go_ret
      exact ⟨e0, by repeat (first | exact Drawn0.refl _ | apply Drawn0.step)⟩
     ·rw [if_neg c5] at H
      have c5b0 : ((rd l0 x5_1) == a1) = false := beq_eq_false_iff_ne.mpr c5
      have c5b1 : ((rd l0 x5_1) != a1) = true := bne_iff_ne.mpr c5
      have H' := am H
      clear H
      have p551 : 0 ≤ (x5_1 : Int) := of_decide_eq_true asm
      have q551 : x5_1 < (l0.length : Int) := of_decide_eq_true asm
      obtain ⟨ad551, e551, hx551_0⟩ := Kd.at_int HR0.out x5_1 p551 q551
      cases e551
      replace p551 := eq_true p551
      replace q551 := eq_true q551
      go_wp2
      go_roundg k1
      case measure => have := HK1.out; omega
      case rel => exact ⟨(wrap64 (x5_1 + 1)), e0, H', ⟨by have := HK1.out; omega⟩, by repeat (first | exact Drawn0.refl _ | apply Drawn0.step)⟩
    ·exact nh c4 H
   ·rw [if_neg c3] at H
    have c3b0 : decide (x5_1 < (l0.length : Int)) = false := decide_eq_false c3
    clear c3
    obtain rfl := Option.some.inj H
    go_wp2
    go_ret
    exact ⟨e0, by repeat (first | exact Drawn0.refl _ | apply Drawn0.step)⟩

end Go.Proofs.Ytchjajbkaiefdaa.PFnMany
