-- Written by a program of this workplace (wip/mp.py) out of the translation.
import Derived.Test.YtaacidhgnappdaaPFnExactFromManyx0
import Derived.Test.YtaacidhgnappdaaPFnExactFromManyx6
import Derived.Test.YtaacidhgnappdaaPFnExactFromManyx8
namespace Go.Proofs.Ytaacidhgnappdaa.PFnExactFromMany
open Go.RowKit Go.Proofs.YtaacidhgnappdaaW.PrintWords Go.Proofs.YtaacidhgnappdaaW.PrintLast Go.Proofs.YtaacidhgnappdaaW.PrintMore Go.Proofs.Ytaacidhgnappdaa.Slim
attribute [local go_sem] max2_int min2_int max_two min_two max_three min_three max_four min_four   -- for this text's walks alone
set_option linter.unusedVariables false
set_option linter.unusedSimpArgs false

/-! ### impl_high: function 124 -/
def impl_high.l0 : Nat → Int → List Int → Int → Option (List Int)
 | 0, _, _, _ => none
 | k + 1, x0, x5, x6 => if x6 ≥ 0 then (if 0 ≤ x6 then (if x6 < (x5.length : Int) then (impl_high.l0 k (x0 / 256) (x5.set (x6 : Int).toNat ((x0) % 256)) (wrap64 (x6 - 1))) else (none)) else (none)) else (some x5)
def impl_high.f (k : Nat) (a0 : Int) (a1 : Int) : Option (List Int) := if 0 ≤ a1 then (if (a1 : Int).toNat ≤ 281474976710656 then (impl_high.l0 k a0 (List.replicate (a1 : Int).toNat 0) (wrap64 (a1 - 1))) else (none)) else (none)
set_option maxHeartbeats 8000000 in
set_option maxRecDepth 100000 in
theorem impl_high.calls (k : Nat) (a0 : Int) (a1 : Int) (r : List Int) (w : World) (h : impl_high.f k a0 a1 = some r) :
  Calls Try.prog 124 #[.int .i64 a0, .int .i64 a1] w fun e w' => ∃ v0_ : Value, e = .returned (v0_) ∧ Kd.R (Kd.int .u8) 5 w' w.heap.size (fun _ => True) v0_ r ∧ Below w.heap.size w w' := by
 have HB := Aside0.mk (Below.refl w.heap.size w)
 have H : (if 0 ≤ a1 then (if (a1 : Int).toNat ≤ 281474976710656 then (impl_high.l0 k a0 (List.replicate (a1 : Int).toNat 0) (wrap64 (a1 - 1))) else (none)) else (none)) = some r := h
 clear h
 by_cases c3 : 0 ≤ a1
 ·rw [if_pos c3] at H
  have c3b0 := eq_true c3
  have c3b1 : decide (0 ≤ a1) = true := decide_eq_true c3
  clear c3
  by_cases c4 : (a1 : Int).toNat ≤ 281474976710656
  ·rw [if_pos c4] at H
   have c4b0 := eq_true c4
   have c4b1 : decide ((a1 : Int).toNat ≤ 281474976710656) = true := decide_eq_true c4
   clear c4
   obtain ⟨y357, hy357⟩ : ∃ y_ : List Int, y_ = (List.replicate (a1 : Int).toNat 0) := ⟨_, rfl⟩
   replace H : (impl_high.l0 k a0 y357 (wrap64 (a1 - 1))) = some r := by first | (rw [hy357]; exact H) | exact H
   have Ny357 := Aside0.mk hy357
   clear hy357
   have H' := Aside0.mk H
   clear H
   go_enter Try.func124, Try.ntmps124
   go_wp2_with (first | ((with_reducible refine gate_dst (N := 8) rfl ?_); refine Kd.R_make (Kd.int .u8) _ 5 rfl (N := 8) rfl 22 _ _ rfl a1 rfl rfl Try.underlying22 (.int .u8 0) 1 info5 rfl (by decide) (by omega) 0 (ok := fun _ => True) (okp := fun _ => True) rfl (fun _ hk => hk) trivial (of_decide_eq_true asm) (Nat.le_trans (Nat.mul_le_mul_right _ (of_decide_eq_true asm : a1.toNat ≤ 281474976710656)) (by omega)) (Below.refl _ _) (Nat.le_refl _) ?_; intro v358 w5 ho6 hb hg_ hnew_; clear hg_ hnew_; (first | rw [← Ny357.out] at ho6 | (simp only [Int.reduceToNat] at ho6; rw [← Ny357.out] at ho6)); have HO359 := Aside0.mk (Kd.R_lower ho6 (below_size (bt))); replace HB := Aside0.mk (below_step (bt) hb); clear hb ho6))
   go_loopg [0, 6] k (fun kq v0 v6 w' => ∃ (x0_1 : Int) (x5_1 : List Int) (x6_1 : Int), v0 = .int .i64 x0_1 ∧ v6 = .int .i64 x6_1 ∧ Aside0 (impl_high.l0 kq x0_1 x5_1 x6_1 = some r) ∧ Aside0 (kq ≤ k) ∧ Aside0 (Kd.R (Kd.int .u8) 5 w' w.heap.size (fun _ => True) v358 x5_1) ∧ Aside0 (Below w.heap.size w w'))
   case atStart => exact ⟨(a0), (y357), (wrap64 (a1 - 1)), (by first | rfl | (simp; done) | (simp [*]; done)), (by first | rfl | (simp; done) | (simp [*]; done)), H', ⟨Nat.le_refl _⟩, ⟨mv HO359.out⟩, ⟨bt⟩⟩
   case round =>
    clear H'
    try clear c1
    try clear p2
    try clear c3
    try clear c3b0
    try clear c3b1
    try clear c4
    try clear c4b0
    try clear c4b1
    try clear p6
    obtain ⟨x0_1, x5_1, x6_1, rfl, rfl, HA, HK1, HO_5, HB⟩ := hrel
    cases gk with
    | zero => exact absurd HA.out (by simp [impl_high.l0])
    | succ k1 =>
     have H := HA.out
     clear HA
     simp only [impl_high.l0] at H
     by_cases c7 : x6_1 ≥ 0
     ·rw [if_pos c7] at H
      have c7b0 : decide (0 ≤ x6_1) = true := decide_eq_true c7
      clear c7
      by_cases c8 : 0 ≤ x6_1
      ·rw [if_pos c8] at H
       have c8b0 : decide (0 ≤ x6_1) = true := decide_eq_true c8
       clear c8
       by_cases c9 : x6_1 < (x5_1.length : Int)
       ·rw [if_pos c9] at H
        have c9b0 : decide (x6_1 < (x5_1.length : Int)) = true := decide_eq_true c9
        clear c9
        obtain ⟨y360, hy360⟩ : ∃ y_ : List Int, y_ = (x5_1.set (x6_1 : Int).toNat ((x0_1) % 256)) := ⟨_, rfl⟩
        replace H : (impl_high.l0 k1 (x0_1 / 256) y360 (wrap64 (x6_1 - 1))) = some r := by first | (rw [hy360]; exact H) | exact H
        have Ny360 := Aside0.mk hy360
        clear hy360
        have H' := Aside0.mk H
        clear H
        have p10 : 0 ≤ (x6_1 : Int) := of_decide_eq_true asm
        have q10 : (x6_1 : Int) < ((x5_1.length : Int) : Int) := of_decide_eq_true asm
        obtain ⟨go10, co10, eo10, gb10, gl10, cl10, HG10⟩ := Kd.R_form HO_5.out (by omega)
        (first | cases eo10 | (injection eo10 with ea_ en_ ec_; (first | subst ea_ | (injection ea_ with ea_; subst ea_)); subst ec_; clear en_))
        have GB10 := Aside0.mk gb10
        have GG10 := Aside0.mk HG10
        clear gb10 gl10 HG10
        obtain ⟨hx10_0, hf10_0⟩ := Kd.R_celln 0 HO_5.out (x6_1 : Int) p10 q10
        replace p10 := eq_true p10
        replace q10 := eq_true q10
        have HP11 := Kd.R_putg HO_5.out (x6_1 : Int) ((x0_1) % 256)
        go_wp2_with (first | ((with_reducible refine gate_store (t := 5) (p := 19) rfl ?_); refine store_event (t := 5) (p := 19) (v := ?vo_w12) (w1 := (wr.setCell ⟨go10, (x6_1 : Int).toNat, none⟩ (.int .u8 ((x0_1) % 256)))) ?hg ?ho ?hn ?hr ?_; (case ho => rfl); (case hg => rfl); (case hn => rfl); (case hr => first | (go_simp; done) | (go_simp; rfl)); intro w12 hw; have hg : wr.grownBy w12 (some go10) := (by rw [hw]; exact HP11.2); have hp_ : Kd.R (Kd.int .u8) 5 w12 w.heap.size (fun _ => True) (.slice (some ⟨go10, 0, none⟩) x5_1.length co10) y360 := (by rw [hw, Ny360.out]; exact HP11.1); clear HP11; replace HO_5 := Aside0.mk (hp_); replace HB := Aside0.mk ((by rw [hw]; exact below_set (HB.out) GB10.out : Below w.heap.size w w12)); clear hg hw hp_))
        go_roundg k1
        case measure => have := HK1.out; omega
        case rel => exact ⟨(x0_1 / 256), (y360), (wrap64 (x6_1 - 1)), (by first | rfl | (simp; done) | (simp [*]; done)), (by first | rfl | (simp; done) | (simp [*]; done)), H', ⟨by have := HK1.out; omega⟩, ⟨mv HO_5.out⟩, ⟨bt⟩⟩
       ·rw [if_neg c9] at H
        exact absurd H (by simp)
      ·rw [if_neg c8] at H
       exact absurd H (by simp)
     ·rw [if_neg c7] at H
      have c7b0 : decide (0 ≤ x6_1) = false := decide_eq_false c7
      clear c7
      obtain rfl := Option.some.inj H
      go_wp2
      go_ret
      exact ⟨_, by first | rfl | (simp [errW_none, errW_some] <;> rfl) | (simp [*, errW_none, errW_some] <;> rfl), by (with_reducible repeat (first | apply Kd.R_alloc | apply Kd.R_drewN | apply Kd.R_drew)); exact HO_5.out, bt⟩
  ·rw [if_neg c4] at H
   exact absurd H (by simp)
 ·rw [if_neg c3] at H
  exact absurd H (by simp)

/-! ### impl_Eight: function 107 -/
def impl_Eight.f (k : Nat) (a0 : Int) : Option (List Int) := if a0 < 0 then (some ([] : List Int)) else ((impl_high.f k a0 8).bind fun t361 => (some t361))
set_option maxHeartbeats 8000000 in
set_option maxRecDepth 100000 in
theorem impl_Eight.calls (k : Nat) (a0 : Int) (r : List Int) (w : World) (h : impl_Eight.f k a0 = some r) :
  Calls Try.prog 107 #[.int .i64 a0] w fun e w' => ∃ v0_ : Value, e = .returned (v0_) ∧ Kd.R (Kd.int .u8) 5 w' w.heap.size (fun _ => True) v0_ r ∧ Below w.heap.size w w' := by
 have HB := Aside0.mk (Below.refl w.heap.size w)
 have H : (if a0 < 0 then (some ([] : List Int)) else ((impl_high.f k a0 8).bind fun t361 => (some t361))) = some r := h
 clear h
 by_cases c2 : a0 < 0
 ·rw [if_pos c2] at H
  have c2b0 : decide (a0 < 0) = true := decide_eq_true c2
  clear c2
  obtain rfl := Option.some.inj H
  go_enter Try.func107, Try.ntmps107
  go_wp2
  go_ret
  exact ⟨_, by first | rfl | (simp [errW_none, errW_some] <;> rfl) | (simp [*, errW_none, errW_some] <;> rfl), by first | exact Kd.R_nil _ _ _ _ _ | exact Kd.N_nil _ _ _ _ _ | exact Kd.V_nil _ _ _ _ _ | exact Kd.Q_nil _ _ _ _ _ | exact Kd.S_nil _ _ _ _ _, bt⟩
 ·rw [if_neg c2] at H
  have c2b0 : decide (a0 < 0) = false := decide_eq_false c2
  clear c2
  replace H := Option.bind_eq_some_iff.mp H
  obtain ⟨t361, A30, H⟩ := H
  (try dsimp -simprocs only at H)
  have A3 := Aside0.mk A30
  clear A30
  obtain rfl := Option.some.inj H
  go_enter Try.func107, Try.ntmps107
  go_wp2_with (first | ((with_reducible refine gate_callee (f := 124) rfl ?_); refine goesL_ (some 6) rfl rfl Try.func124 (by kernel_rfl) rfl #[.int .i64 a0, .int .i64 8] rfl av ?_; (with_reducible refine (impl_high.calls k a0 8 t361 _ A3.out).mono ?_); rintro e w4 ⟨v362, rfl, ho0, hb⟩; refine ⟨_, rfl, ?_⟩; have HO363 := Aside0.mk (Kd.R_lower ho0 (below_size (bt))); replace HB := Aside0.mk (below_step (bt) hb); (try clear hb); (try clear hb2); (try clear hk); (try clear hi); (try clear ho0)))
  go_ret
  exact ⟨_, by first | rfl | (simp [errW_none, errW_some] <;> rfl) | (simp [*, errW_none, errW_some] <;> rfl), by (with_reducible repeat (first | apply Kd.R_alloc | apply Kd.R_drewN | apply Kd.R_drew)); exact HO363.out, bt⟩

/-! ### impl_nodeInput: function 72 -/
def impl_nodeInput.f (k : Nat) (a0 : Int) (a1 : Int) : Option (List Int) := (impl_Eight.f k a0).bind fun t367 => ((impl_Eight.f k a1).bind fun t370 => ((slices_Concat_byte_byte.f (([(([1] : List Int)), t367, t370] : List (List Int)))).bind fun t376 => (some t376)))
set_option maxHeartbeats 8000000 in
set_option maxRecDepth 100000 in
theorem impl_nodeInput.calls (k : Nat) (a0 : Int) (a1 : Int) (r : List Int) (w : World) (h : impl_nodeInput.f k a0 a1 = some r) :
  Calls Try.prog 72 #[.int .i64 a0, .int .i64 a1] w fun e w' => ∃ v0_ : Value, e = .returned (v0_) ∧ Kd.R (Kd.int .u8) 5 w' w.heap.size (fun _ => True) v0_ r ∧ Below w.heap.size w w' := by
 have HB := Aside0.mk (Below.refl w.heap.size w)
 have H : ((impl_Eight.f k a0).bind fun t367 => ((impl_Eight.f k a1).bind fun t370 => ((slices_Concat_byte_byte.f (([(([1] : List Int)), t367, t370] : List (List Int)))).bind fun t376 => (some t376)))) = some r := h
 clear h
 obtain ⟨y364, hy364⟩ : ∃ y_ : List Int, y_ = (([1] : List Int)) := ⟨_, rfl⟩
 replace H : ((impl_Eight.f k a0).bind fun t367 => ((impl_Eight.f k a1).bind fun t370 => ((slices_Concat_byte_byte.f (([y364, t367, t370] : List (List Int)))).bind fun t376 => (some t376)))) = some r := by first | (rw [hy364]; exact H) | exact H
 have Ny364 := Aside0.mk hy364
 clear hy364
 replace H := Option.bind_eq_some_iff.mp H
 obtain ⟨t367, A30, H⟩ := H
 (try dsimp -simprocs only at H)
 have A3 := Aside0.mk A30
 clear A30
 replace H := Option.bind_eq_some_iff.mp H
 obtain ⟨t370, A40, H⟩ := H
 (try dsimp -simprocs only at H)
 have A4 := Aside0.mk A40
 clear A40
 obtain ⟨y373, hy373⟩ : ∃ y_ : List (List Int), y_ = (([y364, t367, t370] : List (List Int))) := ⟨_, rfl⟩
 replace H : ((slices_Concat_byte_byte.f y373).bind fun t376 => (some t376)) = some r := by first | (rw [hy373]; exact H) | exact H
 have Ny373 := Aside0.mk hy373
 clear hy373
 replace H := Option.bind_eq_some_iff.mp H
 obtain ⟨t376, A50, H⟩ := H
 (try dsimp -simprocs only at H)
 have A5 := Aside0.mk A50
 clear A50
 obtain rfl := Option.some.inj H
 go_enter Try.func72, Try.ntmps72
 go_wp2_with (first | ((with_reducible refine gate_dst (N := 5) rfl ?_); refine Kd.R_lit (Kd.int .u8) _ 5 ?hg (N := 5) ?hd (xs := ([1] : List Int)) (inner := [.int .u8 1]) (ok := fun _ => True) (okp := fun _ => True) ?hr ?hp (fun _ hk => hk) trivial (Below.refl _ _) (Nat.le_refl _) (by simp) ?_; (case hd => rfl); (case hg => rfl); (case hr => first | (go_simp; done) | (go_simp; rfl)); (case hp => exact (Reps.one (show Kd.M (Kd.int .u8) _ _ _ 1 [.int .u8 1] from rfl) (Reps.none _ _))); intro v365 w6 ho7 hb hg_ hnew_; clear hg_ hnew_; (first | rw [← Ny364.out] at ho7 | (simp only [Int.reduceToNat] at ho7; rw [← Ny364.out] at ho7)); have HO366 := Aside0.mk (Kd.R_lower ho7 (below_size (bt))); replace HB := Aside0.mk (below_step (bt) hb); clear hb ho7) | ((with_reducible refine gate_callee (f := 107) rfl ?_); refine goesL_ (some 7) rfl rfl Try.func107 (by kernel_rfl) rfl #[.int .i64 a0] rfl av ?_; (with_reducible refine (impl_Eight.calls k a0 t367 _ A3.out).mono ?_); rintro e w8 ⟨v368, rfl, ho0, hb⟩; refine ⟨_, rfl, ?_⟩; have HO369 := Aside0.mk (Kd.R_lower (Kd.R_new' ho0 (Kd.R_lt (mv HO366.out))) (below_size (bt))); replace HO366 := Aside0.mk (Kd.R_elder' (mv HO366.out) (Kd.R_base ho0) hb); replace HB := Aside0.mk (below_step (bt) hb); (try clear hb); (try clear hb2); (try clear hk); (try clear hi); (try clear ho0)) | ((with_reducible refine gate_callee (f := 107) rfl ?_); refine goesL_ (some 9) rfl rfl Try.func107 (by kernel_rfl) rfl #[.int .i64 a1] rfl av ?_; (with_reducible refine (impl_Eight.calls k a1 t370 _ A4.out).mono ?_); rintro e w9 ⟨v371, rfl, ho0, hb⟩; refine ⟨_, rfl, ?_⟩; have HO372 := Aside0.mk (Kd.R_lower (Kd.R_new' (Kd.R_new' ho0 (Kd.R_lt (mv HO366.out))) (Kd.R_lt (mv HO369.out))) (below_size (bt))); replace HO366 := Aside0.mk (Kd.R_elder' (mv HO366.out) (Kd.R_base ho0) hb); replace HO369 := Aside0.mk (Kd.R_elder' (mv HO369.out) (Kd.R_base ho0) hb); replace HB := Aside0.mk (below_step (bt) hb); (try clear hb); (try clear hb2); (try clear hk); (try clear hi); (try clear ho0); obtain ⟨Ao10, co10, eo10⟩ := Kd.R_slice HO366.out; subst eo10; obtain ⟨Ao11, co11, eo11⟩ := Kd.R_slice HO369.out; subst eo11; obtain ⟨Ao12, co12, eo12⟩ := Kd.R_slice HO372.out; subst eo12) | ((with_reducible refine gate_dst (N := 10) rfl ?_); refine Kd.N_lit (Kd.slice 5 (Kd.int .u8)) _ 22 ?hg (N' := 10) ?hd (xs := ([y364, t367, t370] : List (List Int))) (inner := [.slice Ao10 y364.length co10, .slice Ao11 t367.length co11, .slice Ao12 t370.length co12]) (ok := (fun _ => True)) (okp := (fun _ => True)) ?hr ?hp (fun _ hk => hk) ((show ∀ k_, w9.heap.size ≤ k_ → (fun _ => True) k_ from fun k_ hk => trivial) _ (Nat.le_refl _)) (Below.refl _ _) (Nat.le_refl _) (by simp) ?_; (case hd => rfl); (case hg => rfl); (case hr => first | (go_simp; done) | (go_simp; rfl)); (case hp => exact (Reps.one (show Kd.FK (Kd.slice 5 (Kd.int .u8)) _ _ y364 [.slice Ao10 y364.length co10] from (Kd.FK_slice_mk (Kd.R_reads' (Kd.R_mono (ok' := (fun _ => True)) (HO366.out) (fun k_ hk => trivial))).2.1 (Kd.R_F (Kd.R_mono (ok' := (fun _ => True)) (HO366.out) (fun k_ hk => trivial))))) (Reps.one (show Kd.FK (Kd.slice 5 (Kd.int .u8)) _ _ t367 [.slice Ao11 t367.length co11] from (Kd.FK_slice_mk (Kd.R_reads' (Kd.R_mono (ok' := (fun _ => True)) (HO369.out) (fun k_ hk => trivial))).2.1 (Kd.R_F (Kd.R_mono (ok' := (fun _ => True)) (HO369.out) (fun k_ hk => trivial))))) (Reps.one (show Kd.FK (Kd.slice 5 (Kd.int .u8)) _ _ t370 [.slice Ao12 t370.length co12] from (Kd.FK_slice_mk (Kd.R_reads' (Kd.R_mono (ok' := (fun _ => True)) (HO372.out) (fun k_ hk => trivial))).2.1 (Kd.R_F (Kd.R_mono (ok' := (fun _ => True)) (HO372.out) (fun k_ hk => trivial))))) (Reps.none _ _))))); intro v374 w13 ho14 hb hg_ hnew_; clear hg_ hnew_; (first | rw [← Ny373.out] at ho14 | (simp only [Int.reduceToNat] at ho14; rw [← Ny373.out] at ho14)); have HO375 := Aside0.mk (Kd.N_lower ho14 (below_size (bt))); replace HB := Aside0.mk (below_step (bt) hb); clear HO366 HO369 HO372; clear hb ho14; obtain ⟨Ao15, co15, eo15⟩ := Kd.N_slice HO375.out; subst eo15) | ((with_reducible refine gate_callee (f := 106) rfl ?_); refine goesL_ (some 11) rfl rfl Try.func106 (by kernel_rfl) rfl #[.slice Ao15 y373.length co15] rfl av ?_; (with_reducible refine (slices_Concat_byte_byte.calls _ _ y373 t376 _ ?side1 ?side2 A5.out).mono ?_); (case side1 => exact cv ((Kd.N_reads' HO375.out).2.2)); (case side2 => exact (Kd.N_reads' HO375.out).2.1); rintro e w16 ⟨v377, rfl, ho0, hb⟩; refine ⟨_, rfl, ?_⟩; replace HO375 := Aside0.mk (Kd.N_elder' (mv HO375.out) (Kd.R_base ho0) hb); have HO378 := Aside0.mk (Kd.R_lower ho0 (below_size (bt))); replace HB := Aside0.mk (below_step (bt) hb); (try clear hb); (try clear hb2); (try clear hk); (try clear hi); (try clear ho0)))
 go_ret
 exact ⟨_, by first | rfl | (simp [errW_none, errW_some] <;> rfl) | (simp [*, errW_none, errW_some] <;> rfl), by (with_reducible repeat (first | apply Kd.R_alloc | apply Kd.R_drewN | apply Kd.R_drew)); exact HO378.out, bt⟩

/-! ### impl_placesOk: function 93 -/
def impl_placesOk.l0 : Nat → List Int → Int → List Int → Int → Int → Option (Bool)
 | 0, _, _, _, _, _ => none
 | k + 1, x0, x1, x7, x8, x9 => if x9 < x8 then (if 0 ≤ x9 then (if x9 < (x7.length : Int) then ((impl_in.f (rd x7 x9) 0 (wrap64 (x1 - 1))).bind fun t380 => (if t380 = true then (if x9 > 0 then (if 0 ≤ (wrap64 (x9 - 1)) then (if (wrap64 (x9 - 1)) < (x0.length : Int) then (if (rd x0 (wrap64 (x9 - 1))) ≥ (rd x7 x9) then (some false) else (impl_placesOk.l0 k x0 x1 x7 x8 (wrap64 (x9 + 1)))) else (none)) else (none)) else (impl_placesOk.l0 k x0 x1 x7 x8 (wrap64 (x9 + 1)))) else (some false))) else (none)) else (none)) else (some (decide ((x0.length : Int) > 0)))
def impl_placesOk.f (k : Nat) (l0 : List Int) (a1 : Int) : Option (Bool) := impl_placesOk.l0 k l0 a1 l0 (l0.length : Int) 0
set_option maxHeartbeats 8000000 in
set_option maxRecDepth 100000 in
theorem impl_placesOk.calls (k : Nat) (A0 : Option Addr) (c0 : Nat) (l0 : List Int) (a1 : Int) (r : Bool) (w : World) (hr0 : Kd.C (Kd.int .i64) w A0 l0.length l0) (hc0 : l0.length ≤ c0) (h : impl_placesOk.f k l0 a1 = some r) :
  Calls Try.prog 93 #[.slice A0 l0.length c0, .int .i64 a1] w fun e w' => e = .returned (.bool r) ∧ Drawn0 w w' := by
 have HR0 := Aside0.mk hr0
 have HC0 := Aside0.mk hc0
 clear hr0 hc0
 have H : (impl_placesOk.l0 k l0 a1 l0 (l0.length : Int) 0) = some r := h
 clear h
 have H' := Aside0.mk H
 clear H
 go_enter Try.func93, Try.ntmps93
 go_wp2
 go_loopg [9] k (fun kq v9 w' => ∃ (x9_1 : Int), v9 = .int .i64 x9_1 ∧ Aside0 (impl_placesOk.l0 kq l0 a1 l0 (l0.length : Int) x9_1 = some r) ∧ Aside0 (kq ≤ k) ∧ Drawn0 w w')
 case atStart => exact ⟨(0), (by first | rfl | (simp; done) | (simp [*]; done)), H', ⟨Nat.le_refl _⟩, by repeat (first | exact Drawn0.refl _ | apply Drawn0.step)⟩
 case round =>
  clear H'
  try clear p2
  obtain ⟨x9_1, rfl, HA, HK1, ⟨m1, rfl⟩⟩ := hrel
  cases gk with
  | zero => exact absurd HA.out (by simp [impl_placesOk.l0])
  | succ k1 =>
   have H := HA.out
   clear HA
   simp only [impl_placesOk.l0] at H
   by_cases c3 : x9_1 < (l0.length : Int)
   ·rw [if_pos c3] at H
    have c3b0 : decide (x9_1 < (l0.length : Int)) = true := decide_eq_true c3
    clear c3
    by_cases c4 : 0 ≤ x9_1
    ·rw [if_pos c4] at H
     have c4b0 : decide (0 ≤ x9_1) = true := decide_eq_true c4
     clear c4
     by_cases c5 : x9_1 < (l0.length : Int)
     ·rw [if_pos c5] at H
      have c5b0 : decide (x9_1 < (l0.length : Int)) = true := decide_eq_true c5
      clear c5
      replace H := Option.bind_eq_some_iff.mp H
      obtain ⟨t380, A60, H⟩ := H
      (try dsimp -simprocs only at H)
      have A6 := Aside0.mk A60
      clear A60
      by_cases c7 : t380 = true
      ·subst c7
       rw [if_pos rfl] at H
       by_cases c8 : x9_1 > 0
       ·rw [if_pos c8] at H
        have c8b0 : decide (0 < x9_1) = true := decide_eq_true c8
        clear c8
        obtain ⟨ji9, hji9⟩ : ∃ j_ : Int, (wrap64 (x9_1 - 1)) = j_ := ⟨_, rfl⟩
        replace H : (if 0 ≤ (ji9) then (if (ji9) < (l0.length : Int) then (if (rd l0 (ji9)) ≥ (rd l0 x9_1) then (some false) else (impl_placesOk.l0 k1 l0 a1 l0 (l0.length : Int) (wrap64 (x9_1 + 1)))) else (none)) else (none)) = some r := by first | (rw [hji9] at H; exact H) | (simp only [hji9] at H ⊢; exact H)
        (try rw [hji9] at A6)
        have hji9w : (IntKind.i64.wrap (x9_1 - 1)) = ji9 := (i64_w _).trans hji9
        by_cases c10 : 0 ≤ (ji9)
        ·rw [if_pos c10] at H
         have c10b0 : decide (0 ≤ (ji9)) = true := decide_eq_true c10
         clear c10
         by_cases c11 : (ji9) < (l0.length : Int)
         ·rw [if_pos c11] at H
          have c11b0 : decide ((ji9) < (l0.length : Int)) = true := decide_eq_true c11
          clear c11
          by_cases c12 : (rd l0 (ji9)) ≥ (rd l0 x9_1)
          ·rw [if_pos c12] at H
           have c12b0 : decide ((rd l0 x9_1) ≤ (rd l0 (ji9))) = true := decide_eq_true c12
           clear c12
           obtain rfl := Option.some.inj H
           have p379 : 0 ≤ (x9_1 : Int) := of_decide_eq_true asm
           have q379 : x9_1 < (l0.length : Int) := of_decide_eq_true asm
           obtain ⟨ad379, e379, hx379_0⟩ := Kd.at_int HR0.out x9_1 p379 q379
           cases e379
           replace p379 := eq_true p379
           replace q379 := eq_true q379
           go_wp2_with (first | ((with_reducible refine gate_callee (f := 65) rfl ?_); refine goesL_ (some 17) rfl rfl Try.func65 (by kernel_rfl) rfl #[.int .i64 (rd l0 x9_1), .int .i64 0, .int .i64 (wrap64 (a1 - 1))] rfl av ?_; (with_reducible refine (impl_in.calls (rd l0 x9_1) 0 (wrap64 (a1 - 1)) true _ A6.out).mono ?_); rintro e w' ⟨rfl, ⟨nd, rfl⟩⟩; refine ⟨_, rfl, ?_⟩; have p381 : 0 ≤ ((ji9) : Int) := of_decide_eq_true asm; have q381 : (ji9) < (l0.length : Int) := of_decide_eq_true asm; obtain ⟨ad381, e381, hx381_0⟩ := Kd.at_int HR0.out (ji9) p381 q381; obtain rfl : ad379 = ad381 := (by injection e381); replace p381 := eq_true p381; replace q381 := eq_true q381))
           go_ret
           exact ⟨by first | rfl | (simp; done) | (simp only [← hji9] <;> (first | rfl | simp)) | (simp [*]; done), by repeat (first | exact Drawn0.refl _ | apply Drawn0.step)⟩
          ·rw [if_neg c12] at H
           have c12b0 : decide ((rd l0 x9_1) ≤ (rd l0 (ji9))) = false := decide_eq_false c12
           clear c12
           have H' := Aside0.mk H
           clear H
           have p379 : 0 ≤ (x9_1 : Int) := of_decide_eq_true asm
           have q379 : x9_1 < (l0.length : Int) := of_decide_eq_true asm
           obtain ⟨ad379, e379, hx379_0⟩ := Kd.at_int HR0.out x9_1 p379 q379
           cases e379
           replace p379 := eq_true p379
           replace q379 := eq_true q379
           go_wp2_with (first | ((with_reducible refine gate_callee (f := 65) rfl ?_); refine goesL_ (some 17) rfl rfl Try.func65 (by kernel_rfl) rfl #[.int .i64 (rd l0 x9_1), .int .i64 0, .int .i64 (wrap64 (a1 - 1))] rfl av ?_; (with_reducible refine (impl_in.calls (rd l0 x9_1) 0 (wrap64 (a1 - 1)) true _ A6.out).mono ?_); rintro e w' ⟨rfl, ⟨nd, rfl⟩⟩; refine ⟨_, rfl, ?_⟩; have p381 : 0 ≤ ((ji9) : Int) := of_decide_eq_true asm; have q381 : (ji9) < (l0.length : Int) := of_decide_eq_true asm; obtain ⟨ad381, e381, hx381_0⟩ := Kd.at_int HR0.out (ji9) p381 q381; obtain rfl : ad379 = ad381 := (by injection e381); replace p381 := eq_true p381; replace q381 := eq_true q381))
           go_roundg k1
           case measure => have := HK1.out; omega
           case rel => exact ⟨(wrap64 (x9_1 + 1)), (by first | rfl | (simp; done) | (simp [*]; done)), H', ⟨by have := HK1.out; omega⟩, by repeat (first | exact Drawn0.refl _ | apply Drawn0.step)⟩
         ·rw [if_neg c11] at H
          exact absurd H (by simp)
        ·rw [if_neg c10] at H
         exact absurd H (by simp)
       ·rw [if_neg c8] at H
        have c8b0 : decide (0 < x9_1) = false := decide_eq_false c8
        clear c8
        have H' := Aside0.mk H
        clear H
        have p379 : 0 ≤ (x9_1 : Int) := of_decide_eq_true asm
        have q379 : x9_1 < (l0.length : Int) := of_decide_eq_true asm
        obtain ⟨ad379, e379, hx379_0⟩ := Kd.at_int HR0.out x9_1 p379 q379
        cases e379
        replace p379 := eq_true p379
        replace q379 := eq_true q379
        go_wp2_with (first | ((with_reducible refine gate_callee (f := 65) rfl ?_); refine goesL_ (some 17) rfl rfl Try.func65 (by kernel_rfl) rfl #[.int .i64 (rd l0 x9_1), .int .i64 0, .int .i64 (wrap64 (a1 - 1))] rfl av ?_; (with_reducible refine (impl_in.calls (rd l0 x9_1) 0 (wrap64 (a1 - 1)) true _ A6.out).mono ?_); rintro e w' ⟨rfl, ⟨nd, rfl⟩⟩; refine ⟨_, rfl, ?_⟩))
        go_roundg k1
        case measure => have := HK1.out; omega
        case rel => exact ⟨(wrap64 (x9_1 + 1)), (by first | rfl | (simp; done) | (simp [*]; done)), H', ⟨by have := HK1.out; omega⟩, by repeat (first | exact Drawn0.refl _ | apply Drawn0.step)⟩
      ·replace c7 := Bool.eq_false_iff.mpr c7
       subst c7
       rw [if_neg (show ¬ (false = true) by decide)] at H
       obtain rfl := Option.some.inj H
       have p379 : 0 ≤ (x9_1 : Int) := of_decide_eq_true asm
       have q379 : x9_1 < (l0.length : Int) := of_decide_eq_true asm
       obtain ⟨ad379, e379, hx379_0⟩ := Kd.at_int HR0.out x9_1 p379 q379
       cases e379
       replace p379 := eq_true p379
       replace q379 := eq_true q379
       go_wp2_with (first | ((with_reducible refine gate_callee (f := 65) rfl ?_); refine goesL_ (some 17) rfl rfl Try.func65 (by kernel_rfl) rfl #[.int .i64 (rd l0 x9_1), .int .i64 0, .int .i64 (wrap64 (a1 - 1))] rfl av ?_; (with_reducible refine (impl_in.calls (rd l0 x9_1) 0 (wrap64 (a1 - 1)) false _ A6.out).mono ?_); rintro e w' ⟨rfl, ⟨nd, rfl⟩⟩; refine ⟨_, rfl, ?_⟩))
       go_ret
       exact ⟨by first | rfl | (simp; done) | (simp [*]; done), by repeat (first | exact Drawn0.refl _ | apply Drawn0.step)⟩
     ·rw [if_neg c5] at H
      exact absurd H (by simp)
    ·rw [if_neg c4] at H
     exact absurd H (by simp)
   ·rw [if_neg c3] at H
    have c3b0 : decide (x9_1 < (l0.length : Int)) = false := decide_eq_false c3
    clear c3
    obtain rfl := Option.some.inj H
    go_wp2
    go_ret
    exact ⟨by first | rfl | (simp; done) | (simp [*]; done), by repeat (first | exact Drawn0.refl _ | apply Drawn0.step)⟩

/-! ### impl_above: function 96 -/
/-- Of each run of alike numbers the first. -/
def compact : List Int → List Int
 | x :: y :: l => if x = y then compact (y :: l) else x :: compact (y :: l)
 | l => l
theorem compact_snoc (l : List Int) (x u : Int) : ∃ v, (l ++ [x]).getD l.length 0 = x ∧ v = compact (l ++ [x]) ∧ compact (l ++ [x, u]) = if x = u then v else v ++ [u] := by
 induction l with
 | nil =>
  refine ⟨[x], rfl, rfl, ?_⟩
  by_cases h : x = u
  ·subst h; simp [compact]
  ·simp [compact, h]
 | cons a l ih =>
  obtain ⟨v, h1, h2, h3⟩ := ih
  refine ⟨_, by simp, rfl, ?_⟩
  cases l with
  | nil =>
   by_cases h : a = x
   ·subst h
    by_cases h4 : a = u
    ·subst h4; simp [compact]
    ·simp [compact, h4]
   ·by_cases h4 : x = u
    ·subst h4; simp [compact, h]
    ·simp [compact, h, h4]
  | cons c l =>
   simp only [List.cons_append] at h2 h3 ⊢
   unfold compact
   by_cases h : a = c
   ·rw [if_pos h, if_pos h, ← h2, h3]
   ·rw [if_neg h, if_neg h, ← h2, h3]
    by_cases h4 : x = u
    ·rw [if_pos h4, if_pos h4]
    ·rw [if_neg h4, if_neg h4]; rfl
theorem take_two (xs : List Int) (m : Nat) (h : m + 1 < xs.length) : xs.take (m + 2) = xs.take m ++ [xs.getD m 0, xs.getD (m + 1) 0] ∧ xs.take (m + 1) = xs.take m ++ [xs.getD m 0] := by
 have e1 : xs.take (m + 1) = xs.take m ++ [xs.getD m 0] := by
  rw [List.take_succ_eq_append_getElem (by omega), List.getD_eq_getElem?_getD, List.getElem?_eq_getElem (by omega)]; rfl
 have e2 : xs.take (m + 2) = xs.take (m + 1) ++ [xs.getD (m + 1) 0] := by
  rw [List.take_succ_eq_append_getElem (by omega), List.getD_eq_getElem?_getD, List.getElem?_eq_getElem (by omega)]; rfl
 refine ⟨?_, e1⟩
 rw [e2, e1, List.append_assoc]
 rfl
theorem compact_take (xs : List Int) (m : Nat) (h : m + 1 < xs.length) : compact (xs.take (m + 2)) = if xs.getD (m + 1) 0 = xs.getD m 0 then compact (xs.take (m + 1)) else compact (xs.take (m + 1)) ++ [xs.getD (m + 1) 0] := by
 obtain ⟨e1, e2⟩ := take_two xs m h
 obtain ⟨v, _, h2, h3⟩ := compact_snoc (xs.take m) (xs.getD m 0) (xs.getD (m + 1) 0)
 rw [e1, e2, h3, h2]
 by_cases h4 : xs.getD m 0 = xs.getD (m + 1) 0
 ·rw [if_pos h4, if_pos h4.symm]
 ·rw [if_neg h4, if_neg (fun e => h4 e.symm)]
/-- No two neighbours among the first are alike. -/
theorem compact_none (xs : List Int) : ∀ m : Nat, m + 1 ≤ xs.length → (∀ j, j + 1 ≤ m → xs.getD (j + 1) 0 ≠ xs.getD j 0) → compact (xs.take (m + 1)) = xs.take (m + 1) := by
 intro m
 induction m with
 | zero =>
  intro h _
  match xs, h with
  | x :: xs, _ => rfl
 | succ m ih =>
  intro h hn
  rw [compact_take xs m (by omega), if_neg (hn m (by omega)), ih (by omega) (fun j hj => hn j (by omega))]
  obtain ⟨e1, e2⟩ := take_two xs m (by omega)
  rw [e1, e2, List.append_assoc]
  rfl
theorem compact_short {xs : List Int} (h : xs.length < 2) : compact xs = xs := by
 match xs, h with
 | [], _ => rfl
 | [x], _ => rfl
theorem wrap_small {z : Int} (h0 : 0 ≤ z) (h1 : z ≤ 9223372036854775807) : IntKind.i64.wrap z = z := by
 rw [IntKind.wrap_i64]
 omega
theorem cell_R {w : World} {base g n cap : Nat} {ok : Nat → Prop} {xs : List Int} (h : (Kd.int .i64).R 3 w base ok (.slice (some ⟨g, 0, none⟩) n cap) xs) (i : Nat) (hi : i < xs.length) :
  w.cell? ⟨g, i, none⟩ = some (.int .i64 (xs.getD i 0)) ∧ w.frozen? ⟨g, i, none⟩ = false := by
 obtain ⟨g', cap', hv, hb, hl, cells, hc⟩ := Kd.R_form h (by omega)
 injection hv with hv1 hv2 hv3
 injection hv1 with hv1
 injection hv1 with hv1
 subst hv1
 obtain ⟨_, _, hC⟩ := Kd.R_reads' h
 obtain ⟨ad, c, e, hlen, hK, hcell⟩ := ReadsRow.get_ hC (0 : Int) (i : Int) (Int.natCast_nonneg i) (by omega)
 injection e with e
 subst e
 have hK' : c = [.int .i64 (xs.getD i 0)] := by
  rw [Int.toNat_natCast] at hK
  exact hK
 subst hK'
 have h4 := hcell 0 _ rfl
 refine ⟨?_, blk_frozen hc i⟩
 rw [Int.toNat_natCast] at h4
 have e1 : (Addr.mk g 0 none).add (i * (Kd.int .i64).sz + 0) = ⟨g, i, none⟩ := by
  have e2 : i * (Kd.int .i64).sz + 0 = i := Nat.mul_one i
  rw [e2]
  cases i <;> simp [Addr.add]
 rw [e1] at h4
 exact h4
theorem R_setCells {base g cap n : Nat} {ok : Nat → Prop} {w0 : World} (hg : base ≤ g) (m : Nat) : ∀ (w : World) (xs : List Int) (i : Nat), (Kd.int .i64).R 3 w base ok (.slice (some ⟨g, 0, none⟩) n cap) xs → Below base w0 w →
  ∃ ys, (Kd.int .i64).R 3 (w.setCells g i (List.replicate m (.int .i64 0))) base ok (.slice (some ⟨g, 0, none⟩) n cap) ys ∧ ys.take i = xs.take i ∧ ys.length = xs.length ∧ Below base w0 (w.setCells g i (List.replicate m (.int .i64 0))) := by
 induction m with
 | zero => intro w xs i h hb; exact ⟨xs, h, rfl, rfl, hb⟩
 | succ m ih =>
  intro w xs i h hb
  have h1 := Kd.R_putn h ((i : Nat) : Int) (0 : Int)
  rw [Int.toNat_natCast] at h1
  obtain ⟨ys, h2, h3, h4, h5⟩ := ih (w.setCell ⟨g, i, none⟩ (.int .i64 0)) (xs.set i 0) (i + 1) h1 (hb.setCell hg _)
  refine ⟨ys, h2, ?_, by rw [h4, List.length_set], h5⟩
  have h6 := congrArg (List.take i) h3
  rw [List.take_take, List.take_take, Nat.min_eq_left (by omega), List.take_set] at h6
  rw [h6]
  exact List.set_eq_of_length_le (by rw [List.length_take]; omega)
theorem take_put (ys : List Int) (k : Nat) (a : Int) (h : k < ys.length) : (ys.set k a).take (k + 1) = ys.take k ++ [a] := by
 rw [List.take_succ_eq_append_getElem (by rw [List.length_set]; exact h), List.getElem_set_self, List.take_set, List.set_eq_of_length_le (by rw [List.length_take]; omega)]
set_option maxHeartbeats 4000000 in
set_option maxRecDepth 100000 in
theorem compact_walk (g cap n base : Nat) (ok : Nat → Prop) (xs : List Int) (w0 w : World) (hr : (Kd.int .i64).R 3 w base ok (.slice (some ⟨g, 0, none⟩) n cap) xs) (hn : n = xs.length) (hm : n ≤ 1000000) (hc : n ≤ cap) (hB : Below base w0 w) (hg : base ≤ g) :
  Calls Try.prog 119 #[.slice (some ⟨g, 0, none⟩) n cap] w fun e w' => e = .returned (.slice (some ⟨g, 0, none⟩) (compact xs).length cap) ∧ (Kd.int .i64).R 3 w' base ok (.slice (some ⟨g, 0, none⟩) (compact xs).length cap) (compact xs) ∧ Below base w0 w' := by
 have HR := Aside0.mk hr
 have HB := Aside0.mk hB
 have HN := Aside0.mk hn
 have HM := Aside0.mk hm
 have HC := Aside0.mk hc
 clear hr hB hn hm hc
 by_cases h2 : n < 2
 ·have c2 : decide (n < 2) = true := decide_eq_true h2
  have c3 : decide ((n : Int) < 2) = true := decide_eq_true (by omega)
  have e : compact xs = xs := compact_short (by have := HN.out; omega)
  rw [e]
  clear h2 e
  go_enter Try.func119, Try.ntmps119
  go_wp2
  go_ret
  exact ⟨by rw [HN.out]; rfl, by have h := HR.out; rw [HN.out] at h; exact h, HB.out⟩
 ·have c2 : decide (n < 2) = false := decide_eq_false h2
  have c3 : decide ((n : Int) < 2) = false := decide_eq_false (by omega)
  have H2 := Aside0.mk h2
  clear h2
  go_enter Try.func119, Try.ntmps119
  go_wp2
  go_loopw [3] (fun i wr => ∃ k : Nat, i = .int .i64 ((k : Int) + 1) ∧ Aside0 (k + 1 ≤ n) ∧ Aside0 (∀ j, j + 1 ≤ k → xs.getD (j + 1) 0 ≠ xs.getD j 0) ∧ Aside0 ((Kd.int .i64).R 3 wr base ok (.slice (some ⟨g, 0, none⟩) n cap) xs) ∧ Aside0 (Below base w0 wr)) (fun i _ => n - (intOf i).toNat)
  case atStart => exact ⟨0, by go_num, ⟨by have := H2.out; omega⟩, ⟨fun j hj => by omega⟩, HR, HB⟩
  case round =>
   obtain ⟨k, rfl, HK, HX, HR1, HB1⟩ := hrel
   have p1 : 0 ≤ (k : Int) := Int.natCast_nonneg k
   have p2 : (k : Int) ≤ 1000000 := by have := HK.out; have := HM.out; omega
   have p3 : 0 ≤ (k : Int) + 1 := by omega
   have p4 : IntKind.i64.wrap (k : Int) = (k : Int) := wrap_small p1 (by omega)
   by_cases hlt : k + 1 < n
   ·have d1 : decide ((k : Int) + 1 < (n : Int)) = true := decide_eq_true (by omega)
    have q1 : (k : Int) + 1 < (n : Int) := by omega
    have q2 : (k : Int) < (n : Int) := by omega
    have HL := Aside0.mk hlt
    obtain ⟨x1, f1⟩ := cell_R HR1.out (k + 1) (by have := HN.out; omega)
    obtain ⟨x0, f0⟩ := cell_R HR1.out k (by have := HN.out; omega)
    clear hlt
    obtain ⟨u, hu⟩ : ∃ u, u = xs.getD (k + 1) 0 := ⟨_, rfl⟩
    obtain ⟨v, hv⟩ : ∃ v, v = xs.getD k 0 := ⟨_, rfl⟩
    rw [← hu] at x1
    rw [← hv] at x0
    have HU := Aside0.mk hu
    have HV := Aside0.mk hv
    clear hu hv
    by_cases huv : u = v
    ·have e1 : (u == v) = true := beq_iff_eq.mpr huv
     have HE := Aside0.mk huv
     clear huv
     --L2
     have q3 : k + 1 ≤ n := by have := HL.out; omega
     have q4 : k + 1 ≤ cap := by have := HL.out; have := HC.out; omega
     have q5 : (k : Int) + 1 ≤ (n : Int) := by have := HL.out; omega
     have q6 : (k : Int) + 1 ≤ (cap : Int) := by have := HL.out; have := HC.out; omega
     have q7 : ¬ cap = k + 1 := by have := HL.out; have := HC.out; omega
     have q8 : k + 1 < cap := by omega
     have q9 : (k : Int) + 1 < (cap : Int) := by omega
     go_wp2
     go_still (by kernel_rfl)
     go_wp2
     clear x0 x1 f0 f1
     go_loopw [3, 5] (fun s i wr => ∃ (kk j : Nat) (ys : List Int), s = .int .i64 ((kk : Int) + 1) ∧ i = .int .i64 ((j : Int) + 1) ∧ Aside0 (k + j + 2 ≤ n) ∧ Aside0 (kk ≤ k + j) ∧ Aside0 (ys.length = n) ∧ Aside0 (ys.take (kk + 1) = compact (xs.take (k + j + 2))) ∧ Aside0 (∀ a, kk + 1 ≤ a → ys.getD a 0 = xs.getD a 0) ∧ Aside0 ((Kd.int .i64).R 3 wr base ok (.slice (some ⟨g, 0, none⟩) n cap) ys) ∧ Aside0 (Below base w0 wr)) (fun _ i _ => n - (intOf i).toNat)
     case atStart =>
      refine ⟨k, 0, xs, rfl, by go_num, ⟨HL.out⟩, ⟨Nat.le_refl _⟩, ⟨HN.out.symm⟩, ⟨?_⟩, ⟨fun a _ => rfl⟩, ⟨Kd.R_drew HR1.out⟩, ⟨below_drew HB1.out⟩⟩
      have hL := HL.out
      have hN := HN.out
      rw [show k + 0 + 2 = k + 2 from rfl, compact_take xs k (by omega), if_pos (by rw [← HU.out, ← HV.out]; exact HE.out), compact_none xs k (by omega) HX.out]
     case round =>
      obtain ⟨kk, j, ys, rfl, rfl, HJ, HKK, HYL, HT, HH, HR2, HB2⟩ := hrel
      have r1 : 0 ≤ (j : Int) := Int.natCast_nonneg j
      have r2 : (j : Int) ≤ 1000000 := by have := HJ.out; have := HM.out; omega
      have r3 : 0 ≤ (j : Int) + 1 := by omega
      have r4 : IntKind.i64.wrap (j : Int) = (j : Int) := wrap_small r1 (by omega)
      have s1 : 0 ≤ (kk : Int) := Int.natCast_nonneg kk
      have s2 : (kk : Int) ≤ 1000000 := by have := HKK.out; have := HJ.out; have := HM.out; omega
      have s3 : 0 ≤ (kk : Int) + 1 := by omega
      by_cases hlt : k + j + 2 < n
      ·have d2 : decide ((j : Int) + 1 < ((n - (k + 1) : Nat) : Int)) = true := decide_eq_true (by omega)
       have t1 : (j : Int) + 1 < ((n - (k + 1) : Nat) : Int) := by omega
       have t2 : (j : Int) < ((n - (k + 1) : Nat) : Int) := by omega
       have t3 : (kk : Int) + 1 < (n : Int) := by have := HKK.out; omega
       have HLT := Aside0.mk hlt
       obtain ⟨x1, f1⟩ := cell_R HR2.out (k + 1 + (j + 1)) (by have := HYL.out; omega)
       obtain ⟨x0, f0⟩ := cell_R HR2.out (k + 1 + j) (by have := HYL.out; omega)
       obtain ⟨xk, fk⟩ := cell_R HR2.out (kk + 1) (by have := HYL.out; have := HKK.out; omega)
       rw [HH.out _ (by have := HKK.out; omega)] at x1 x0
       clear hlt
       obtain ⟨a, ha⟩ : ∃ a, a = xs.getD (k + 1 + (j + 1)) 0 := ⟨_, rfl⟩
       obtain ⟨b, hb⟩ : ∃ b, b = xs.getD (k + 1 + j) 0 := ⟨_, rfl⟩
       obtain ⟨d, hd⟩ : ∃ d, d = ys.getD (kk + 1) 0 := ⟨_, rfl⟩
       rw [← ha] at x1
       rw [← hb] at x0
       rw [← hd] at xk
       have HA := Aside0.mk ha
       have HBB := Aside0.mk hb
       clear ha hb hd
       by_cases hab : a = b
       ·have e2 : (a != b) = false := bne_eq_false_iff_eq.mpr hab
        have HE2 := Aside0.mk hab
        clear hab
        go_wp2
        go_still (by kernel_rfl)
        go_wp2
        go_roundw
        case rel =>
         refine ⟨kk, j + 1, ys, rfl, by go_num, ⟨by have := HLT.out; omega⟩, ⟨by have := HKK.out; omega⟩, HYL, ⟨?_⟩, HH, ⟨Kd.R_drew HR2.out⟩, ⟨below_drew HB2.out⟩⟩
         have hL := HLT.out
         have hN := HN.out
         have hc := compact_take xs (k + j + 1) (by omega)
         rw [show k + (j + 1) + 2 = k + j + 1 + 2 by omega, hc, if_pos (by have := HE2.out; rw [HA.out, HBB.out] at this; rw [show k + j + 1 + 1 = k + 1 + (j + 1) by omega, show k + j + 1 = k + 1 + j by omega]; exact this)]
         exact HT.out
        case measure => have := HLT.out; simp [intOf]; omega
       ·have e2 : (a != b) = true := bne_iff_ne.mpr hab
        have HE2 := Aside0.mk hab
        clear hab
        go_wp2
        go_still (by kernel_rfl)
        go_wp2
        go_roundw
        case rel =>
         have hL := HLT.out
         have hN := HN.out
         have hK := HKK.out
         have hY := HYL.out
         have h := Kd.R_putn HR2.out ((kk + 1 : Nat) : Int) a
         rw [Int.toNat_natCast] at h
         refine ⟨kk + 1, j + 1, ys.set (kk + 1) a, by go_num, by go_num, ⟨by omega⟩, ⟨by omega⟩, ⟨by rw [List.length_set]; exact hY⟩, ⟨?_⟩, ⟨fun z hz => ?_⟩, ⟨Kd.R_drew h⟩, ⟨below_drew (HB2.out.setCell hg _)⟩⟩
         ·have hc := compact_take xs (k + j + 1) (by omega)
          rw [take_put ys (kk + 1) a (by omega), HT.out, show k + (j + 1) + 2 = k + j + 1 + 2 by omega, hc, if_neg (by have := HE2.out; rw [HA.out, HBB.out] at this; rw [show k + j + 1 + 1 = k + 1 + (j + 1) by omega, show k + j + 1 = k + 1 + j by omega]; exact this), HA.out, show k + j + 1 + 1 = k + 1 + (j + 1) by omega]
         ·rw [List.getD_eq_getElem?_getD, List.getElem?_set_ne (by omega), ← List.getD_eq_getElem?_getD]
          exact HH.out z (by omega)
        case measure => have := HLT.out; simp [intOf]; omega
      ·have d2 : decide ((j : Int) + 1 < ((n - (k + 1) : Nat) : Int)) = false := decide_eq_false (by have := HJ.out; omega)
       have em : k + j + 2 = n := by have := HJ.out; omega
       have t3 : kk + 1 < n := by have := HKK.out; omega
       have t4 : kk + 1 ≤ n := by omega
       have t5 : kk + 1 ≤ cap := by have := HC.out; omega
       have t6 : ¬ cap = kk + 1 := by have := HC.out; omega
       have t7 : (kk : Int) + 1 < (n : Int) := by omega
       have t8 : (kk : Int) + 1 < (cap : Int) := by have := HC.out; omega
       have t9 : (kk : Int) + 1 ≤ (n : Int) := by omega
       have t10 : (kk : Int) + 1 ≤ (cap : Int) := by omega
       have hY := HYL.out
       have hcl : ∀ ty, (Builtin.clear_ #[23] ty #[.slice (some ⟨g, kk + 1, none⟩) (n - (kk + 1)) (cap - (kk + 1))]).run Try.prog wr = .ok (.tuple #[]) (wr.setCells g (kk + 1) (List.replicate (n - (kk + 1)) (.int .i64 0))) := fun ty =>
        Go.Lib.run_clear_slice wr 23 3 ty _ Try.underlying23 Try.zeroValue3 rfl rfl g (kk + 1) _ _ (by omega) (fun z hz => by rw [(cell_R HR2.out (kk + 1 + z) (by omega)).1]; rfl) (fun z hz => (cell_R HR2.out (kk + 1 + z) (by omega)).2)
       have HEM := Aside0.mk em
       have HY2 := Aside0.mk hY
       clear hlt em hY
       go_wp2
       go_ret
       have hT := HT.out
       rw [HEM.out, List.take_of_length_le (l := xs) (by have := HN.out; omega)] at hT
       have hlen : (compact xs).length = kk + 1 := by
        rw [← hT, List.length_take, HY2.out]
        omega
       obtain ⟨zs, z1, z2, z3, z4⟩ := R_setCells hg (n - (kk + 1)) wr ys (kk + 1) HR2.out HB2.out
       have z5 := Kd.R_take z1 (m := kk + 1) (by rw [z3, HY2.out]; omega)
       rw [z2, hT] at z5
       rw [hlen]
       exact ⟨rfl, z5, z4⟩
    ·have e1 : (u == v) = false := beq_eq_false_iff_ne.mpr huv
     have HE := Aside0.mk huv
     clear huv
     go_wp2
     go_still (by kernel_rfl)
     go_wp2
     go_roundw
     case rel =>
      refine ⟨k + 1, by go_num, ⟨HL.out⟩, ⟨fun j hj => ?_⟩, ⟨Kd.R_drew HR1.out⟩, ⟨below_drew HB1.out⟩⟩
      by_cases e : j = k
      ·subst e
       have := HE.out
       rw [HU.out, HV.out] at this
       exact this
      ·exact HX.out j (by omega)
     case measure => have := HL.out; simp [intOf]; omega
   ·have d1 : decide ((k : Int) + 1 < (n : Int)) = false := decide_eq_false (by omega)
    have ek : k + 1 = n := by have := HK.out; omega
    have hc := compact_none xs k (by have := HN.out; omega) HX.out
    rw [List.take_of_length_le (by have := HN.out; omega)] at hc
    have HCE := Aside0.mk hc
    clear hlt ek hc
    go_wp2
    go_ret
    exact ⟨by rw [HCE.out, HN.out]; rfl, by have h := HR1.out; rw [HCE.out]; rw [HN.out] at h; exact h, HB1.out⟩
set_option maxHeartbeats 4000000 in
theorem compact_small (A : Option Addr) (n cap : Nat) (w : World) (hn : n < 2) : Calls Try.prog 119 #[.slice A n cap] w fun e w' => e = .returned (.slice A n cap) ∧ w' = w := by
 have c2 : decide (n < 2) = true := decide_eq_true hn
 have c3 : decide ((n : Int) < 2) = true := decide_eq_true (by omega)
 clear hn
 go_enter Try.func119, Try.ntmps119
 go_wp2
 go_ret
 exact ⟨rfl, rfl⟩
def half (x : Int) : Int := wrap64 (Int.tdiv x 2)
def impl_above.f (l0 : List Int) : Option (List Int) := if l0.length ≤ 1000000 then some (compact (l0.map half)) else none
theorem lit0' (w : World) : Kd.R (Kd.int .i64) 3 (w.alloc (.cells #[] 3)) w.heap.size (fun _ => True) (.slice (some ⟨w.heap.size, 0, none⟩) 0 0) [] := by
 refine ⟨fun _ _ => trivial, [], ?_, Reps.none _ _⟩
 have h2 := World.ownsRow_lit (base := w.heap.size) (e := 3) (size := (Kd.int .i64).sz) w (#[] : Array Value) 0 (Nat.le_refl _) (by simp) (by simp)
 exact h2
set_option maxHeartbeats 4000000 in
set_option maxRecDepth 100000 in
theorem impl_above.calls (A0 : Option Addr) (c0 : Nat) (l0 : List Int) (r : List Int) (w : World) (hr0 : Kd.C (Kd.int .i64) w A0 l0.length l0) (hc0 : l0.length ≤ c0) (h : impl_above.f l0 = some r) :
  Calls Try.prog 96 #[.slice A0 l0.length c0] w fun e w' => ∃ v0_ : Value, e = .returned v0_ ∧ Kd.R (Kd.int .i64) 3 w' w.heap.size (fun _ => True) v0_ r ∧ Below w.heap.size w w' := by
 unfold impl_above.f at h
 by_cases hs : l0.length ≤ 1000000
 ·rw [if_pos hs] at h
  have hr := Option.some.inj h
  have HR := Aside0.mk hr
  have HC := Aside0.mk hr0
  have HS := Aside0.mk hs
  clear h hs hr hr0
  go_enter Try.func96, Try.ntmps96
  go_wp2
  have HR0 := Aside0.mk (lit0' w)
  have HB0 := Aside0.mk (below_alloc (Below.refl w.heap.size w) (.cells #[] 3))
  go_loopw [3, 9] (fun v i wr => ∃ k : Nat, i = .int .i64 k ∧ Aside0 (k ≤ l0.length) ∧ Aside0 (Below w.heap.size w wr) ∧ Aside0 (Kd.R (Kd.int .i64) 3 wr w.heap.size (fun _ => True) v ((l0.take k).map half))) (fun _ i _ => l0.length - (intOf i).toNat)
  case atStart => exact ⟨0, rfl, ⟨Nat.zero_le _⟩, HB0, HR0⟩
  case round =>
   obtain ⟨k, rfl, HK, HB1, HR1⟩ := hrel
   have p1 : 0 ≤ (k : Int) := Int.natCast_nonneg k
   have p2 : (k : Int) ≤ 1000000 := by have := HK.out; have := HS.out; omega
   by_cases hlt : k < l0.length
   ·have c0' : decide (k < l0.length) = true := decide_eq_true hlt
    have c1' : decide ((k : Int) < (l0.length : Int)) = true := decide_eq_true (by omega)
    have q1 : (k : Int) < (l0.length : Int) := by omega
    have HL := Aside0.mk hlt
    obtain ⟨ad, c, e, hlen, hK, hcell⟩ := ReadsRow.get_ (Kd.C_below HC.out HB1.out) (0 : Int) (k : Int) p1 q1
    cases e
    have hK' : c = [.int .i64 (l0.getD k 0)] := by
     rw [Int.toNat_natCast] at hK
     exact hK
    subst hK'
    have hx := hcell 0 _ rfl
    have e1 : k * (Kd.int .i64).sz + 0 = k := Nat.mul_one k
    rw [Int.toNat_natCast, e1] at hx
    have et : (l0.take (k + 1)).map half = (l0.take k).map half ++ [half (l0.getD k 0)] := by
     rw [List.take_succ_eq_append_getElem hlt, List.map_append, List.getD_eq_getElem?_getD, List.getElem?_eq_getElem hlt]
     rfl
    have HT := Aside0.mk et
    have HYL : Aside0 (((l0.take k).map half).length = k) := ⟨by rw [List.length_map, List.length_take]; omega⟩
    clear hlen hK hcell e1 et hlt
    generalize l0.getD k 0 = x at hx HT
    generalize (l0.take k).map half = ys at HR1 HT HYL
    have hz : decide ((2 : Int) = 0) = false := by decide
    go_wp2_with (at_builtin; refine Kd.R_append (Kd.int .i64) (w0 := w) w.heap.size rfl (.tmp 13) (.tmp 16) 23 3 (.int .i64 0) 8 rfl Try.underlying23 info3 rfl (by decide) (by omega) _ ys (half x) [.int .i64 (half x)] (fun _ => True) (fun _ => False) rfl rfl rfl (fun _ hk => hk.elim) (fun _ _ => trivial) HR1.out HB1.out HB1.out.size (by have := HYL.out; have := HL.out; have := HS.out; omega) ?_; intro v1 w5 ho hb hg hat; have HR2 := Aside0.mk ho; have HB2 := Aside0.mk hb; clear ho hb hg hat)
    go_roundw
    case rel => exact ⟨k + 1, by go_num, ⟨HL.out⟩, HB2, ⟨by rw [HT.out]; exact HR2.out⟩⟩
    case measure => have := HL.out; simp [intOf]; omega
   ·have c0' : decide (k < l0.length) = false := decide_eq_false hlt
    have c1' : decide ((k : Int) < (l0.length : Int)) = false := decide_eq_false (by omega)
    have ek : k = l0.length := Nat.le_antisymm HK.out (Nat.le_of_not_lt hlt)
    subst ek
    have HR3 : Aside0 (Kd.R (Kd.int .i64) 3 wr w.heap.size (fun _ => True) u3 (l0.map half)) := ⟨by have h := HR1.out; rw [List.take_length] at h; exact h⟩
    clear hlt HR1
    generalize hm : l0.map half = ms at HR HR3
    have HML : Aside0 (ms.length = l0.length) := ⟨by rw [← hm, List.length_map]⟩
    clear hm
    by_cases hs2 : l0.length < 2
    ·obtain ⟨A3, c3, hv3⟩ := Kd.R_slice HR3.out
     subst hv3
     have H3 := Aside0.mk (compact_small A3 ms.length c3 wr (by rw [HML.out]; exact hs2))
     have HE : Aside0 (compact ms = ms) := ⟨compact_short (by rw [HML.out]; exact hs2)⟩
     clear hs2
     go_wp2_with (go_at_call 119; refine H3.out.mono ?_; rintro e w' ⟨rfl, rfl⟩)
     go_ret
     exact ⟨_, rfl, by rw [← HR.out, HE.out]; exact HR3.out, HB1.out⟩
    ·obtain ⟨g, cap, hv3, hg, _, _⟩ := Kd.R_form HR3.out (by rw [HML.out]; exact Nat.lt_of_lt_of_le (by decide) (Nat.le_of_not_lt hs2))
     subst hv3
     have H3 := Aside0.mk (compact_walk g cap ms.length w.heap.size (fun _ => True) ms w wr HR3.out rfl (by rw [HML.out]; exact HS.out) (Kd.R_reads' HR3.out).2.1 HB1.out hg)
     clear hs2 hg
     go_wp2_with (go_at_call 119; refine H3.out.mono ?_; rintro e w' ⟨rfl, ho, hb⟩)
     go_ret
     exact ⟨_, rfl, by rw [← HR.out]; exact ho, hb⟩
 ·rw [if_neg hs] at h
  cases h

/-! ### impl_topInput: function 104 -/
def impl_topInput.f (k : Nat) (a0 : Int) (a1 : Int) : Option (List Int) := (some (([2, (a0) % 256] : List Int) : List Int)).bind fun y382 => ((impl_Eight.f k a1).bind fun t385 => (if y382.length + t385.length < 140737488355328 then (some (y382 ++ t385)) else (none)))
set_option maxHeartbeats 8000000 in
set_option maxRecDepth 100000 in
theorem impl_topInput.calls (k : Nat) (a0 : Int) (a1 : Int) (r : List Int) (w : World) (h : impl_topInput.f k a0 a1 = some r) :
  Calls Try.prog 104 #[.int .i64 a0, .int .i64 a1] w fun e w' => ∃ v0_ : Value, e = .returned (v0_) ∧ Kd.R (Kd.int .u8) 5 w' w.heap.size (fun _ => True) v0_ r ∧ Below w.heap.size w w' := by
 have HB := Aside0.mk (Below.refl w.heap.size w)
 have H : ((some (([2, (a0) % 256] : List Int) : List Int)).bind fun y382 => ((impl_Eight.f k a1).bind fun t385 => (if y382.length + t385.length < 140737488355328 then (some (y382 ++ t385)) else (none)))) = some r := h
 clear h
 obtain ⟨y382, hy382⟩ : ∃ y_ : List Int, y_ = (([2, (a0) % 256] : List Int)) := ⟨_, rfl⟩
 replace H : ((impl_Eight.f k a1).bind fun t385 => (if y382.length + t385.length < 140737488355328 then (some (y382 ++ t385)) else (none))) = some r := by first | (rw [hy382]; exact H) | exact H
 have Ny382 := Aside0.mk hy382
 clear hy382
 replace H := Option.bind_eq_some_iff.mp H
 obtain ⟨t385, A30, H⟩ := H
 (try dsimp -simprocs only at H)
 have A3 := Aside0.mk A30
 clear A30
 by_cases c4 : y382.length + t385.length < 140737488355328
 ·rw [if_pos c4] at H
  have LMc4 := Aside0.mk c4
  clear c4
  obtain ⟨y388, hy388⟩ : ∃ y_ : List Int, y_ = (y382 ++ t385) := ⟨_, rfl⟩
  replace H : (some y388) = some r := by first | (rw [hy388]; exact H) | exact H
  have Ny388 := Aside0.mk hy388
  clear hy388
  obtain rfl := Option.some.inj H
  go_enter Try.func104, Try.ntmps104
  go_wp2_with (first | ((with_reducible refine gate_dst (N := 7) rfl ?_); refine Kd.R_lit (Kd.int .u8) _ 5 ?hg (N := 7) ?hd (xs := ([2, (a0) % 256] : List Int)) (inner := [.int .u8 2, .int .u8 ((a0) % 256)]) (ok := fun _ => True) (okp := fun _ => True) ?hr ?hp (fun _ hk => hk) trivial (Below.refl _ _) (Nat.le_refl _) (by simp) ?_; (case hd => rfl); (case hg => rfl); (case hr => first | (go_simp; done) | (go_simp; rfl)); (case hp => exact (Reps.one (show Kd.M (Kd.int .u8) _ _ _ 2 [.int .u8 2] from rfl) (Reps.one (show Kd.M (Kd.int .u8) _ _ _ ((a0) % 256) [.int .u8 ((a0) % 256)] from rfl) (Reps.none _ _)))); intro v383 w5 ho6 hb hg_ hnew_; clear hg_ hnew_; (first | rw [← Ny382.out] at ho6 | (simp only [Int.reduceToNat] at ho6; rw [← Ny382.out] at ho6)); have HO384 := Aside0.mk (Kd.R_lower ho6 (below_size (bt))); replace HB := Aside0.mk (below_step (bt) hb); clear hb ho6) | ((with_reducible refine gate_callee (f := 107) rfl ?_); refine goesL_ (some 9) rfl rfl Try.func107 (by kernel_rfl) rfl #[.int .i64 a1] rfl av ?_; (with_reducible refine (impl_Eight.calls k a1 t385 _ A3.out).mono ?_); rintro e w7 ⟨v386, rfl, ho0, hb⟩; refine ⟨_, rfl, ?_⟩; have HO387 := Aside0.mk (Kd.R_lower (Kd.R_new' ho0 (Kd.R_lt (mv HO384.out))) (below_size (bt))); replace HO384 := Aside0.mk (Kd.R_elder' (mv HO384.out) (Kd.R_base ho0) hb); replace HB := Aside0.mk (below_step (bt) hb); (try clear hb); (try clear hb2); (try clear hk); (try clear hi); (try clear ho0); obtain ⟨Ao9, co9, eo9⟩ := Kd.R_slice HO387.out; subst eo9) | ((with_reducible refine gate_builtin (b := .append) (xs := #[.tmp 7, .tmp 9]) rfl ?_); at_builtin; refine Kd.R_append_rows (Kd.int .u8) (w0 := w) w.heap.size rfl (.tmp 7) (.tmp 9) 22 5 (.int .u8 0) 1 rfl Try.underlying22 info5 rfl (by decide) (by omega) v383 y382 t385 _ _ _ (fun k_ => some k_ ≠ (.slice Ao9 t385.length co9 : Value).ownBlock) (fun _ => False) rfl rfl ?aO ?aR (fun _ _ h => h) (fun _ h => h.elim) ?aF ?aB ?aS ?aL ?_; (case aR => exact cv ((Kd.R_reads' HO387.out).2.2)); (case aB => exact (bt)); (case aF => exact (fun k_ hk => Kd.fresh' (Kd.R_lt (mv HO387.out)) k_ hk)); (case aO => exact (by (with_reducible repeat (first | apply Kd.R_alloc | apply Kd.R_drewN | apply Kd.R_drew)); exact Kd.R_mono HO384.out (fun _ hk => hk.2))); (case aS => exact (below_size (bt))); (case aL => have := LMc4.out; omega); intro v389 w8 ho hb hg hat; rw [← Ny388.out] at ho; replace HO387 := Aside0.mk (Kd.R_after (ok := (fun _ => True)) (mv HO387.out) hg hat); replace HB := Aside0.mk (hb); have HO390 := Aside0.mk (ho); clear HO384; clear ho hb hg hat))
  go_ret
  exact ⟨_, by first | rfl | (simp [errW_none, errW_some] <;> rfl) | (simp [*, errW_none, errW_some] <;> rfl), by (with_reducible repeat (first | apply Kd.R_alloc | apply Kd.R_drewN | apply Kd.R_drew)); exact Kd.R_mono HO390.out (fun _ hk => trivial), bt⟩
 ·rw [if_neg c4] at H
  exact absurd H (by simp)

/-! ### impl_isDigest: function 71 -/
def impl_isDigest.f (a0 : Int) (a1 : Int) : Option (Bool) := (impl_bitsOk.f a0).bind fun t391 => (if t391 = true then (if 0 ≤ a0 then ((impl_in.f a1 0 (wrap64 ((shl .i64 1 a0) - 1))).bind fun t392 => (some t392)) else (none)) else (some false))
set_option maxHeartbeats 8000000 in
set_option maxRecDepth 100000 in
theorem impl_isDigest.calls (a0 : Int) (a1 : Int) (r : Bool) (w : World) (h : impl_isDigest.f a0 a1 = some r) :
  Calls Try.prog 71 #[.int .i64 a0, .int .i64 a1] w fun e w' => e = .returned (.bool r) ∧ Drawn0 w w' := by
 have H : ((impl_bitsOk.f a0).bind fun t391 => (if t391 = true then (if 0 ≤ a0 then ((impl_in.f a1 0 (wrap64 ((shl .i64 1 a0) - 1))).bind fun t392 => (some t392)) else (none)) else (some false))) = some r := h
 clear h
 replace H := Option.bind_eq_some_iff.mp H
 obtain ⟨t391, A30, H⟩ := H
 (try dsimp -simprocs only at H)
 have A3 := Aside0.mk A30
 clear A30
 by_cases c4 : t391 = true
 ·subst c4
  rw [if_pos rfl] at H
  by_cases c5 : 0 ≤ a0
  ·rw [if_pos c5] at H
   have c5b0 := eq_true c5
   have c5b1 : decide (0 ≤ a0) = true := decide_eq_true c5
   clear c5
   obtain ⟨ji6, hji6⟩ : ∃ j_ : Int, (shl .i64 1 a0) = j_ := ⟨_, rfl⟩
   replace H : ((impl_in.f a1 0 (wrap64 ((ji6) - 1))).bind fun t392 => (some t392)) = some r := by first | (rw [hji6] at H; exact H) | (simp only [hji6] at H ⊢; exact H)
   (try rw [hji6] at A3)
   have hji6_ : (IntKind.i64.wrap (1 * 2 ^ min a0.toNat 64)) = ji6 := hji6
   have hji6z : a0 ≤ 64 → (IntKind.i64.wrap (1 * 2 ^ a0.toNat)) = ji6 := shl_small hji6
   have hji6u : (IntKind.i64.wrap (2 ^ min a0.toNat 64)) = ji6 := by have h_ := hji6_; rw [Int.one_mul] at h_; exact h_
   have hji6v : a0 ≤ 64 → (IntKind.i64.wrap (2 ^ a0.toNat)) = ji6 := fun hle_ => by have h_ := hji6z hle_; rw [Int.one_mul] at h_; exact h_
   have hji6y : (wrap64 (1 * 2 ^ min a0.toNat 64)) = ji6 := (i64_w _).symm.trans hji6_
   have hji6x : a0 ≤ 64 → (wrap64 (1 * 2 ^ a0.toNat)) = ji6 := fun h_ => (i64_w _).symm.trans (hji6z h_)
   replace H := Option.bind_eq_some_iff.mp H
   obtain ⟨t392, A70, H⟩ := H
   (try dsimp -simprocs only at H)
   have A7 := Aside0.mk A70
   clear A70
   obtain rfl := Option.some.inj H
   go_enter Try.func71, Try.ntmps71
   go_wp2_with (first | ((with_reducible refine gate_callee (f := 103) rfl ?_); refine goesL_ (some 6) rfl rfl Try.func103 (by kernel_rfl) rfl #[.int .i64 a0] rfl av ?_; (with_reducible refine (impl_bitsOk.calls a0 true _ A3.out).mono ?_); rintro e w' ⟨rfl, ⟨nd, rfl⟩⟩; refine ⟨_, rfl, ?_⟩) | (go_at_call 65; (with_reducible refine (impl_in.calls a1 0 (wrap64 ((ji6) - 1)) t392 _ A7.out).mono ?_); rintro e w' ⟨rfl, ⟨nd, rfl⟩⟩))
   go_ret
   exact ⟨by first | rfl | (simp; done) | (simp only [← hji6] <;> (first | rfl | simp)) | (simp [*]; done), by repeat (first | exact Drawn0.refl _ | apply Drawn0.step)⟩
  ·rw [if_neg c5] at H
   exact absurd H (by simp)
 ·replace c4 := Bool.eq_false_iff.mpr c4
  subst c4
  rw [if_neg (show ¬ (false = true) by decide)] at H
  obtain rfl := Option.some.inj H
  go_enter Try.func71, Try.ntmps71
  go_wp2_with (first | ((with_reducible refine gate_callee (f := 103) rfl ?_); refine goesL_ (some 6) rfl rfl Try.func103 (by kernel_rfl) rfl #[.int .i64 a0] rfl av ?_; (with_reducible refine (impl_bitsOk.calls a0 false _ A3.out).mono ?_); rintro e w' ⟨rfl, ⟨nd, rfl⟩⟩; refine ⟨_, rfl, ?_⟩))
  go_ret
  exact ⟨by first | rfl | (simp; done) | (simp [*]; done), by repeat (first | exact Drawn0.refl _ | apply Drawn0.step)⟩

end Go.Proofs.Ytaacidhgnappdaa.PFnExactFromMany
