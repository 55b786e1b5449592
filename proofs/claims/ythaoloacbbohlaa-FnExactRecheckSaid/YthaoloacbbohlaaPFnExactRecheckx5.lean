-- Written by a program of this workplace (wip/mp.py) out of the translation.
import Derived.Test.YthaoloacbbohlaaPFnExactRecheckx0
import Derived.Test.YthaoloacbbohlaaPFnExactRecheckx3
import Derived.Test.YthaoloacbbohlaaPFnExactRecheckx4
namespace Go.Proofs.Ythaoloacbbohlaa.PFnExactRecheck
open Go.RowKit Go.Proofs.YthaoloacbbohlaaW.PrintWords Go.Proofs.YthaoloacbbohlaaW.PrintLast Go.Proofs.YthaoloacbbohlaaW.PrintMore Go.Proofs.Ythaoloacbbohlaa.Slim
attribute [local go_sem] max2_int min2_int max_two min_two max_three min_three max_four min_four   -- for this text's walks alone
set_option linter.unusedVariables false
set_option linter.unusedSimpArgs false

/-! ### impl_byPlaces: function 86 -/
def impl_byPlaces.l0 : Nat → List (List Int) → List Int → List Int → Int → Int → Option (List Int)
 | 0, _, _, _, _, _ => none
 | k + 1, x1, x7, x17, x18, x19 => if x19 < x18 then (if 0 ≤ x19 then (if x19 < (x17.length : Int) then (if x19 < (x1.length : Int) then ((impl_GfAxpy.f k x7 (rd x17 x19) (rd_L1 x1 x19)).bind fun bt235 => (impl_byPlaces.l0 k x1 bt235.1 x17 x18 (wrap64 (x19 + 1)))) else (none)) else (none)) else (none)) else (some x7)
def impl_byPlaces.f (k : Nat) (l0 : List Int) (l1 : List (List Int)) (a2 : Int) : Option (List Int) := if 0 < (l1.length : Int) then (if 0 ≤ ((rd_L1 l1 0).length : Int) then (if (((rd_L1 l1 0).length : Int) : Int).toNat ≤ 281474976710656 then ((impl_weights.f k l0 a2).bind fun t230 => (impl_byPlaces.l0 k l1 (List.replicate (((rd_L1 l1 0).length : Int) : Int).toNat 0) t230 (t230.length : Int) 0)) else (none)) else (none)) else (none)
set_option maxHeartbeats 8000000 in
set_option maxRecDepth 100000 in
theorem impl_byPlaces.calls (k : Nat) (A0 : Option Addr) (c0 : Nat) (l0 : List Int) (A1 : Option Addr) (c1 : Nat) (l1 : List (List Int)) (a2 : Int) (r : List Int) (w : World) (hr0 : Kd.C (Kd.int .u8) w A0 l0.length l0) (hc0 : l0.length ≤ c0) (hr1 : Kd.C (Kd.slice 5 (Kd.int .u8)) w A1 l1.length l1) (hc1 : l1.length ≤ c1) (h : impl_byPlaces.f k l0 l1 a2 = some r) :
  Calls Try.prog 86 #[.slice A0 l0.length c0, .slice A1 l1.length c1, .int .u8 a2] w fun e w' => ∃ v0_ : Value, e = .returned (v0_) ∧ Kd.R (Kd.int .u8) 5 w' w.heap.size (fun _ => True) v0_ r ∧ Below w.heap.size w w' := by
 have HR0 := Aside0.mk hr0
 have HC0 := Aside0.mk hc0
 clear hr0 hc0
 have HR1 := Aside0.mk hr1
 have HC1 := Aside0.mk hc1
 clear hr1 hc1
 have HB := Aside0.mk (Below.refl w.heap.size w)
 have H : (if 0 < (l1.length : Int) then (if 0 ≤ ((rd_L1 l1 0).length : Int) then (if (((rd_L1 l1 0).length : Int) : Int).toNat ≤ 281474976710656 then ((impl_weights.f k l0 a2).bind fun t230 => (impl_byPlaces.l0 k l1 (List.replicate (((rd_L1 l1 0).length : Int) : Int).toNat 0) t230 (t230.length : Int) 0)) else (none)) else (none)) else (none)) = some r := h
 clear h
 by_cases c4 : 0 < (l1.length : Int)
 ·rw [if_pos c4] at H
  have c4b0 : decide (0 < (l1.length : Int)) = true := decide_eq_true c4
  have c4b1 : decide (0 < l1.length) = true := decide_eq_true (by omega)
  clear c4
  by_cases c5 : 0 ≤ ((rd_L1 l1 0).length : Int)
  ·rw [if_pos c5] at H
   have c5b0 := eq_true c5
   have c5b1 : decide (0 ≤ ((rd_L1 l1 0).length : Int)) = true := decide_eq_true c5
   clear c5
   by_cases c6 : (((rd_L1 l1 0).length : Int) : Int).toNat ≤ 281474976710656
   ·rw [if_pos c6] at H
    have c6b0 := eq_true c6
    have c6b1 : decide ((((rd_L1 l1 0).length : Int) : Int).toNat ≤ 281474976710656) = true := decide_eq_true c6
    clear c6
    obtain ⟨y227, hy227⟩ : ∃ y_ : List Int, y_ = (List.replicate (((rd_L1 l1 0).length : Int) : Int).toNat 0) := ⟨_, rfl⟩
    replace H : ((impl_weights.f k l0 a2).bind fun t230 => (impl_byPlaces.l0 k l1 y227 t230 (t230.length : Int) 0)) = some r := by first | (rw [hy227]; exact H) | exact H
    have Ny227 := Aside0.mk hy227
    clear hy227
    replace H := Option.bind_eq_some_iff.mp H
    obtain ⟨t230, A70, H⟩ := H
    (try dsimp -simprocs only at H)
    have A7 := Aside0.mk A70
    clear A70
    have H' := Aside0.mk H
    clear H
    have p226 : 0 ≤ (0 : Int) := (by omega)
    have q226 : 0 < (l1.length : Int) := of_decide_eq_true asm
    obtain ⟨ad226, A226_0, c226_0, e226, hx226_0, hl226_0, hi226_0⟩ := at_L1 HR1.out 0 p226 q226
    cases e226
    have qi226 : (0 < l1.length) = True := eq_true (by omega)
    (try rw [show ((0 : Int)).toNat = 0 from rfl] at hx226_0)
    (try rw [Addr.add_zero'] at hx226_0)
    have HR226_0 := Aside0.mk hi226_0
    have HC226_0 := Aside0.mk hl226_0
    clear hi226_0 hl226_0
    replace p226 := eq_true p226
    replace q226 := eq_true q226
    go_enter Try.func86, Try.ntmps86
    go_wp2_with (first | ((with_reducible refine gate_dst (N := 14) rfl ?_); refine Kd.R_make (Kd.int .u8) _ 5 rfl (N := 14) rfl 24 _ _ rfl ((rd_L1 l1 0).length : Int) rfl rfl Try.underlying24 (.int .u8 0) 1 info5 rfl (by decide) (by omega) 0 (ok := fun _ => True) (okp := fun _ => True) rfl (fun _ hk => hk) trivial (of_decide_eq_true asm) (Nat.le_trans (Nat.mul_le_mul_right _ (of_decide_eq_true asm : ((rd_L1 l1 0).length : Int).toNat ≤ 281474976710656)) (by omega)) (Below.refl _ _) (Nat.le_refl _) ?_; intro v228 w8 ho9 hb hg_ hnew_; clear hg_ hnew_; (first | rw [← Ny227.out] at ho9 | (simp only [Int.reduceToNat] at ho9; rw [← Ny227.out] at ho9)); have HO229 := Aside0.mk (Kd.R_lower ho9 (below_size (bt))); replace HB := Aside0.mk (below_step (bt) hb); clear hb ho9) | ((with_reducible refine gate_callee (f := 76) rfl ?_); refine goesL_ (some 17) rfl rfl Try.func76 (by kernel_rfl) rfl #[.slice A0 l0.length c0, .int .u8 a2] rfl av ?_; (with_reducible refine (impl_weights.calls k _ _ l0 a2 t230 _ ?side1 ?side2 A7.out).mono ?_); (case side1 => exact cv ((Kd.C_below HR0.out HB.out))); (case side2 => exact HC0.out); rintro e w10 ⟨v231, rfl, ho0, hb⟩; refine ⟨_, rfl, ?_⟩; have HO232 := Aside0.mk (Kd.R_lower (Kd.R_new' ho0 (Kd.R_lt (mv HO229.out))) (below_size (bt))); replace HO229 := Aside0.mk (Kd.R_elder' (mv HO229.out) (Kd.R_base ho0) hb); replace HB := Aside0.mk (below_step (bt) hb); (try clear hb); (try clear hb2); (try clear hk); (try clear hi); (try clear ho0); obtain ⟨Ao11, co11, eo11⟩ := Kd.R_slice HO232.out; subst eo11))
    go_loopg [7, 19] k (fun kq v7 v19 w' => ∃ (x7_1 : List Int) (x19_1 : Int), v19 = .int .i64 x19_1 ∧ Aside0 (impl_byPlaces.l0 kq l1 x7_1 t230 (t230.length : Int) x19_1 = some r) ∧ Aside0 (kq ≤ k) ∧ Aside0 (Kd.R (Kd.int .u8) 5 w' w.heap.size (fun k_ => some k_ ≠ ((.slice Ao11 t230.length co11) : Value).ownBlock) v7 x7_1) ∧ Aside0 (Kd.R (Kd.int .u8) 5 w' w.heap.size (fun k_ => some k_ ≠ (v7 : Value).ownBlock) (.slice Ao11 t230.length co11) t230) ∧ Aside0 (Below w.heap.size w w'))
    case atStart => exact ⟨(y227), (0), (by first | rfl | (simp; done) | (simp [*]; done)), H', ⟨Nat.le_refl _⟩, ⟨by (with_reducible repeat (first | apply Kd.R_alloc | apply Kd.R_drewN | apply Kd.R_drew)); exact Kd.R_mono HO229.out (fun _ hk => hk.2)⟩, ⟨by (with_reducible repeat (first | apply Kd.R_alloc | apply Kd.R_drewN | apply Kd.R_drew)); exact Kd.R_mono HO232.out (fun _ hk => hk.2)⟩, ⟨bt⟩⟩
    case round =>
     clear H'
     try clear c1
     try clear c2
     try clear p2
     try clear q2
     try clear hx2
     try clear qi2
     try clear c4
     try clear c4b0
     try clear c4b1
     try clear c5
     try clear c5b0
     try clear c5b1
     try clear c6
     try clear c6b0
     try clear c6b1
     try clear c7
     try clear c8
     try clear hx226_0
     try clear p226
     try clear q226
     obtain ⟨x7_1, x19_1, rfl, HA, HK1, HO_7, HO_17, HB⟩ := hrel
     cases gk with
     | zero => exact absurd HA.out (by simp [impl_byPlaces.l0])
     | succ k1 =>
      have H := HA.out
      clear HA
      simp only [impl_byPlaces.l0] at H
      by_cases c12 : x19_1 < (t230.length : Int)
      ·rw [if_pos c12] at H
       have c12b0 : decide (x19_1 < (t230.length : Int)) = true := decide_eq_true c12
       clear c12
       by_cases c13 : 0 ≤ x19_1
       ·rw [if_pos c13] at H
        have c13b0 : decide (0 ≤ x19_1) = true := decide_eq_true c13
        clear c13
        by_cases c14 : x19_1 < (t230.length : Int)
        ·rw [if_pos c14] at H
         have c14b0 : decide (x19_1 < (t230.length : Int)) = true := decide_eq_true c14
         clear c14
         by_cases c15 : x19_1 < (l1.length : Int)
         ·rw [if_pos c15] at H
          have c15b0 : decide (x19_1 < (l1.length : Int)) = true := decide_eq_true c15
          clear c15
          replace H := Option.bind_eq_some_iff.mp H
          obtain ⟨⟨t235, t236⟩, A160, H⟩ := H
          (try dsimp -simprocs only at H)
          have A16 := Aside0.mk A160
          clear A160
          have H' := Aside0.mk H
          clear H
          have p233 : 0 ≤ (x19_1 : Int) := of_decide_eq_true asm
          have q233 : x19_1 < (t230.length : Int) := of_decide_eq_true asm
          obtain ⟨ad233, e233, hx233_0⟩ := Kd.at_int (Kd.R_reads' HO_17.out).2.2 x19_1 p233 q233
          cases e233
          replace p233 := eq_true p233
          replace q233 := eq_true q233
          have p234 : 0 ≤ (x19_1 : Int) := of_decide_eq_true asm
          have q234 : x19_1 < (l1.length : Int) := of_decide_eq_true asm
          obtain ⟨ad234, A234_0, c234_0, e234, hx234_0, hl234_0, hi234_0⟩ := at_L1 HR1.out x19_1 p234 q234
          obtain rfl : ad226 = ad234 := (by injection e234)
          replace hx234_0 := (HB.out.cell (World.block_lt_of_cell? w _ hx234_0)).trans hx234_0
          have HR234_0 := Aside0.mk hi234_0
          have HC234_0 := Aside0.mk hl234_0
          clear hi234_0 hl234_0
          replace p234 := eq_true p234
          replace q234 := eq_true q234
          obtain ⟨Ao17, co17, eo17⟩ := Kd.R_slice HO_7.out
          subst eo17
          go_wp2_with (first | ((with_reducible refine gate_callee (f := 59) rfl ?_); refine goesL_ (some 31) rfl rfl Try.func59 (by kernel_rfl) rfl #[.slice Ao17 x7_1.length co17, .int .u8 (rd t230 x19_1), .slice A234_0 (rd_L1 l1 x19_1).length c234_0] rfl av ?_; (with_reducible refine (impl_GfAxpy.calls k1 _ _ x7_1 (rd t230 x19_1) _ _ (rd_L1 l1 x19_1) t235 t236 _ ?side1 ?side2 ?side3 ?side4 A16.out).mono ?_); (case side1 => exact cv ((Kd.R_reads' HO_7.out).2.2)); (case side2 => exact (Kd.R_reads' HO_7.out).2.1); (case side3 => exact cv ((Kd.C_below HR234_0.out HB.out))); (case side4 => exact HC234_0.out); rintro e w18 ⟨v237, rfl, ho0, hb⟩; refine ⟨_, rfl, ?_⟩; have HO238 := Aside0.mk (Kd.R_lower (Kd.R_new' (Kd.R_new' ho0 (Kd.R_lt (mv HO_7.out))) (Kd.R_lt (mv HO_17.out))) (below_size (bt))); replace HO_7 := Aside0.mk (Kd.R_elder' (mv HO_7.out) (Kd.R_base ho0) hb); replace HO_17 := Aside0.mk (Kd.R_elder' (mv HO_17.out) (Kd.R_base ho0) hb); replace HB := Aside0.mk (below_step (bt) hb); (try clear hb); (try clear hb2); (try clear hk); (try clear hi); (try clear ho0)))
          go_roundg k1
          case measure => have := HK1.out; omega
          case rel => exact ⟨(t235), (wrap64 (x19_1 + 1)), (by first | rfl | (simp; done) | (simp [*]; done)), H', ⟨by have := HK1.out; omega⟩, ⟨by (with_reducible repeat (first | apply Kd.R_alloc | apply Kd.R_drewN | apply Kd.R_drew)); exact Kd.R_mono HO238.out (fun _ hk => hk.2)⟩, ⟨by (with_reducible repeat (first | apply Kd.R_alloc | apply Kd.R_drewN | apply Kd.R_drew)); exact Kd.R_mono HO_17.out (fun _ hk => hk.2)⟩, ⟨bt⟩⟩
         ·rw [if_neg c15] at H
          exact absurd H (by simp)
        ·rw [if_neg c14] at H
         exact absurd H (by simp)
       ·rw [if_neg c13] at H
        exact absurd H (by simp)
      ·rw [if_neg c12] at H
       have c12b0 : decide (x19_1 < (t230.length : Int)) = false := decide_eq_false c12
       clear c12
       obtain rfl := Option.some.inj H
       go_wp2
       go_ret
       exact ⟨_, by first | rfl | (simp [errW_none, errW_some] <;> rfl) | (simp [*, errW_none, errW_some] <;> rfl), by (with_reducible repeat (first | apply Kd.R_alloc | apply Kd.R_drewN | apply Kd.R_drew)); exact Kd.R_mono HO_7.out (fun _ hk => trivial), bt⟩
   ·rw [if_neg c6] at H
    exact absurd H (by simp)
  ·rw [if_neg c5] at H
   exact absurd H (by simp)
 ·rw [if_neg c4] at H
  exact absurd H (by simp)

/-! ### impl_firstPlaces: function 87 -/
def impl_firstPlaces.l0 : Nat → List Int → Int → Int → Option (List Int)
 | 0, _, _, _ => none
 | k + 1, x3, x6, x7 => if x7 < x6 then (if x3.length < 140737488355328 then (impl_firstPlaces.l0 k (x3 ++ [(x7) % 256]) x6 (wrap64 (x7 + 1))) else (none)) else (some x3)
def impl_firstPlaces.f (k : Nat) (a0 : Int) : Option (List Int) := impl_firstPlaces.l0 k (([] : List Int)) a0 0
set_option maxHeartbeats 8000000 in
set_option maxRecDepth 100000 in
theorem impl_firstPlaces.calls (k : Nat) (a0 : Int) (r : List Int) (w : World) (h : impl_firstPlaces.f k a0 = some r) :
  Calls Try.prog 87 #[.int .i64 a0] w fun e w' => ∃ v0_ : Value, e = .returned (v0_) ∧ Kd.R (Kd.int .u8) 5 w' w.heap.size (fun _ => True) v0_ r ∧ Below w.heap.size w w' := by
 have HB := Aside0.mk (Below.refl w.heap.size w)
 have H : (impl_firstPlaces.l0 k (([] : List Int)) a0 0) = some r := h
 clear h
 obtain ⟨y239, hy239⟩ : ∃ y_ : List Int, y_ = (([] : List Int)) := ⟨_, rfl⟩
 replace H : (impl_firstPlaces.l0 k y239 a0 0) = some r := by first | (rw [hy239]; exact H) | exact H
 have Ny239 := Aside0.mk hy239
 clear hy239
 have H' := Aside0.mk H
 clear H
 go_enter Try.func87, Try.ntmps87
 go_wp2_with (first | ((with_reducible refine gate_dst (N := 5) rfl ?_); refine Kd.R_lit (Kd.int .u8) _ 5 ?hg (N := 5) ?hd (xs := ([] : List Int)) (inner := []) (ok := fun _ => True) (okp := fun _ => True) ?hr ?hp (fun _ hk => hk) trivial (Below.refl _ _) (Nat.le_refl _) (by simp) ?_; (case hd => rfl); (case hg => rfl); (case hr => first | (go_simp; done) | (go_simp; rfl)); (case hp => exact (Reps.none _ _)); intro v240 w2 ho3 hb hg_ hnew_; clear hg_ hnew_; (first | rw [← Ny239.out] at ho3 | (simp only [Int.reduceToNat] at ho3; rw [← Ny239.out] at ho3)); have HO241 := Aside0.mk (Kd.R_lower ho3 (below_size (bt))); replace HB := Aside0.mk (below_step (bt) hb); clear hb ho3))
 go_loopg [3, 7] k (fun kq v3 v7 w' => ∃ (x3_1 : List Int) (x7_1 : Int), v7 = .int .i64 x7_1 ∧ Aside0 (impl_firstPlaces.l0 kq x3_1 a0 x7_1 = some r) ∧ Aside0 (kq ≤ k) ∧ Aside0 (Kd.R (Kd.int .u8) 5 w' w.heap.size (fun _ => True) v3 x3_1) ∧ Aside0 (Below w.heap.size w w'))
 case atStart => exact ⟨(y239), (0), (by first | rfl | (simp; done) | (simp [*]; done)), H', ⟨Nat.le_refl _⟩, ⟨mv HO241.out⟩, ⟨bt⟩⟩
 case round =>
  clear H'
  try clear p2
  obtain ⟨x3_1, x7_1, rfl, HA, HK1, HO_3, HB⟩ := hrel
  cases gk with
  | zero => exact absurd HA.out (by simp [impl_firstPlaces.l0])
  | succ k1 =>
   have H := HA.out
   clear HA
   simp only [impl_firstPlaces.l0] at H
   by_cases c4 : x7_1 < a0
   ·rw [if_pos c4] at H
    have c4b0 : decide (x7_1 < a0) = true := decide_eq_true c4
    clear c4
    by_cases c5 : x3_1.length < 140737488355328
    ·rw [if_pos c5] at H
     have LMc5 := Aside0.mk c5
     clear c5
     obtain ⟨y242, hy242⟩ : ∃ y_ : List Int, y_ = (x3_1 ++ [(x7_1) % 256]) := ⟨_, rfl⟩
     replace H : (impl_firstPlaces.l0 k1 y242 a0 (wrap64 (x7_1 + 1))) = some r := by first | (rw [hy242]; exact H) | exact H
     have Ny242 := Aside0.mk hy242
     clear hy242
     have H' := Aside0.mk H
     clear H
     go_wp2_with (first | ((with_reducible refine gate_builtin (b := .append) (xs := #[.tmp 10, .tmp 13]) rfl ?_); at_builtin; refine Kd.R_append (Kd.int .u8) (w0 := w) w.heap.size rfl (.tmp 10) (.tmp 13) 24 5 (.int .u8 0) 1 rfl Try.underlying24 info5 rfl (by decide) (by omega) u3 x3_1 ((x7_1) % 256) [.int .u8 ((x7_1) % 256)] (fun _ => True) (fun _ => False) rfl rfl ?aP (fun _ hk => hk.elim) ?aF ?aO ?aB ?aS ?aL ?_; (case aP => exact rfl); (case aB => exact (bt)); (case aF => exact (fun _ _ => trivial)); (case aO => exact (mv HO_3.out)); (case aS => exact (below_size (bt))); (case aL => have := LMc5.out; omega); intro v243 w6 ho hb hg hat; rw [← Ny242.out] at ho; replace HB := Aside0.mk (hb); have HO244 := Aside0.mk (ho); clear HO_3; clear ho hb hg hat))
     go_roundg k1
     case measure => have := HK1.out; omega
     case rel => exact ⟨(y242), (wrap64 (x7_1 + 1)), (by first | rfl | (simp; done) | (simp [*]; done)), H', ⟨by have := HK1.out; omega⟩, ⟨mv HO244.out⟩, ⟨bt⟩⟩
    ·rw [if_neg c5] at H
     exact absurd H (by simp)
   ·rw [if_neg c4] at H
    have c4b0 : decide (x7_1 < a0) = false := decide_eq_false c4
    clear c4
    obtain rfl := Option.some.inj H
    go_wp2
    go_ret
    exact ⟨_, by first | rfl | (simp [errW_none, errW_some] <;> rfl) | (simp [*, errW_none, errW_some] <;> rfl), by (with_reducible repeat (first | apply Kd.R_alloc | apply Kd.R_drewN | apply Kd.R_drew)); exact HO_3.out, bt⟩

/-! ### impl_encode: function 64 -/
def impl_encode.l0 : Nat → Int → Int → List Int → List (List Int) → Int → Int → Option ((List (List Int)))
 | 0, _, _, _, _, _, _ => none
 | k + 1, x0, x7, x8, x9, x25, x26 => if x26 < x25 then (if x26 < x0 then (if 0 ≤ (wrap64 (x26 * x7)) then (if (wrap64 (x26 * x7)) ≤ (wrap64 ((wrap64 (x26 + 1)) * x7)) then (if (wrap64 ((wrap64 (x26 + 1)) * x7)) ≤ (x8.length : Int) then ((bytes_Clone.f ((x8.take ((wrap64 ((wrap64 (x26 + 1)) * x7)) : Int).toNat).drop ((wrap64 (x26 * x7)) : Int).toNat)).bind fun t259 => (if x9.length < 5864062014805 then (impl_encode.l0 k x0 x7 x8 (x9 ++ [t259]) x25 (wrap64 (x26 + 1))) else (none))) else (none)) else (none)) else (none)) else ((impl_firstPlaces.f k x0).bind fun t265 => (if 0 ≤ x0 then (if x0 ≤ (x9.length : Int) then ((impl_byPlaces.f k t265 (x9.take (x0 : Int).toNat) ((x26) % 256)).bind fun t272 => (if x9.length < 5864062014805 then (impl_encode.l0 k x0 x7 x8 (x9 ++ [t272]) x25 (wrap64 (x26 + 1))) else (none))) else (none)) else (none)))) else (some x9)
def impl_encode.f (k : Nat) (a0 : Int) (a1 : Int) (l2 : List Int) : Option ((List (List Int))) := (impl_Long.f a0 (l2.length : Int)).bind fun t245 => ((bytes_Clone.f l2).bind fun t246 => (if 0 ≤ (wrap64 ((wrap64 (a0 * t245)) - (l2.length : Int))) then (if t246.length + (wrap64 ((wrap64 (a0 * t245)) - (l2.length : Int)) : Int).toNat < 140737488355328 then (impl_encode.l0 k a0 t245 (t246 ++ List.replicate (wrap64 ((wrap64 (a0 * t245)) - (l2.length : Int)) : Int).toNat 0) (([] : List (List Int))) a1 0) else (none)) else (none)))
def impl_encode.T9 : Bool × List (List Nat × List Nat) := (true, [([], []), ([], []), ([1], [1]), ([], []), ([], []), ([3, 4], [3, 4]), ([], []), ([6], [6]), ([2, 5, 7, 2], [2, 5, 7]), ([8], [8]), ([0, 9, 8], [0, 9]), ([10, 10, 0, 1, 2, 3, 4, 5, 6, 7, 8, 9, 10], [0, 3, 10])])
def impl_encode.B9 : List Nat := [0, 0, 2, 0, 0, 24, 0, 64, 254, 510, 1023, 2047]
theorem impl_encode.tab9 : rtab .any (opsOf Try.f64 9) = impl_encode.T9 := by kernel_rfl
theorem impl_encode.bits9 : waitsOk impl_encode.T9.2 impl_encode.B9 = true := by kernel_rfl
set_option maxHeartbeats 8000000 in
set_option maxRecDepth 100000 in
theorem impl_encode.calls (k : Nat) (a0 : Int) (a1 : Int) (A2 : Option Addr) (c2 : Nat) (l2 : List Int) (r : List (List Int)) (w : World) (hr2 : Kd.C (Kd.int .u8) w A2 l2.length l2) (hc2 : l2.length ≤ c2) (h : impl_encode.f k a0 a1 l2 = some r) :
  Calls Try.prog 64 #[.int .i64 a0, .int .i64 a1, .slice A2 l2.length c2] w fun e w' => ∃ v0_ : Value, e = .returned (v0_) ∧ Kd.S (Kd.slice 5 (Kd.int .u8)) 24 w' w.heap.size (fun _ => True) v0_ r ∧ Below w.heap.size w w' := by
 have HR2 := Aside0.mk hr2
 have HC2 := Aside0.mk hc2
 clear hr2 hc2
 have HB := Aside0.mk (Below.refl w.heap.size w)
 have H : ((impl_Long.f a0 (l2.length : Int)).bind fun t245 => ((bytes_Clone.f l2).bind fun t246 => (if 0 ≤ (wrap64 ((wrap64 (a0 * t245)) - (l2.length : Int))) then (if t246.length + (wrap64 ((wrap64 (a0 * t245)) - (l2.length : Int)) : Int).toNat < 140737488355328 then (impl_encode.l0 k a0 t245 (t246 ++ List.replicate (wrap64 ((wrap64 (a0 * t245)) - (l2.length : Int)) : Int).toNat 0) (([] : List (List Int))) a1 0) else (none)) else (none)))) = some r := h
 clear h
 replace H := Option.bind_eq_some_iff.mp H
 obtain ⟨t245, A40, H⟩ := H
 (try dsimp -simprocs only at H)
 have A4 := Aside0.mk A40
 clear A40
 replace H := Option.bind_eq_some_iff.mp H
 obtain ⟨t246, A50, H⟩ := H
 (try dsimp -simprocs only at H)
 have A5 := Aside0.mk A50
 clear A50
 obtain ⟨ji6, hji6⟩ : ∃ j_ : Int, (wrap64 ((wrap64 (a0 * t245)) - (l2.length : Int))) = j_ := ⟨_, rfl⟩
 replace H : (if 0 ≤ (ji6) then (if t246.length + (ji6 : Int).toNat < 140737488355328 then (impl_encode.l0 k a0 t245 (t246 ++ List.replicate (ji6 : Int).toNat 0) (([] : List (List Int))) a1 0) else (none)) else (none)) = some r := by first | (rw [hji6] at H; exact H) | (simp only [hji6] at H ⊢; exact H)
 (try rw [hji6] at A4)
 (try rw [hji6] at A5)
 have hji6w : (IntKind.i64.wrap ((wrap64 (a0 * t245)) - (l2.length : Int))) = ji6 := (i64_w _).trans hji6
 by_cases c7 : 0 ≤ (ji6)
 ·rw [if_pos c7] at H
  have c7b0 := eq_true c7
  have c7b1 : decide (0 ≤ (ji6)) = true := decide_eq_true c7
  clear c7
  by_cases c8 : t246.length + (ji6 : Int).toNat < 140737488355328
  ·rw [if_pos c8] at H
   have LMc8 := Aside0.mk c8
   clear c8
   obtain ⟨y249, hy249⟩ : ∃ y_ : List Int, y_ = (t246 ++ List.replicate (ji6 : Int).toNat 0) := ⟨_, rfl⟩
   replace H : (impl_encode.l0 k a0 t245 y249 (([] : List (List Int))) a1 0) = some r := by first | (rw [hy249]; exact H) | exact H
   have Ny249 := Aside0.mk hy249
   clear hy249
   obtain ⟨y252, hy252⟩ : ∃ y_ : List (List Int), y_ = (([] : List (List Int))) := ⟨_, rfl⟩
   replace H : (impl_encode.l0 k a0 t245 y249 y252 a1 0) = some r := by first | (rw [hy252]; exact H) | exact H
   have Ny252 := Aside0.mk hy252
   clear hy252
   have H' := Aside0.mk H
   clear H
   go_enter Try.func64, Try.ntmps64
   go_wp2_with (first | ((with_reducible refine gate_callee (f := 85) rfl ?_); refine goesL_ (some 14) rfl rfl Try.func85 (by kernel_rfl) rfl #[.int .i64 a0, .int .i64 (l2.length : Int)] rfl av ?_; (with_reducible refine (impl_Long.calls a0 (l2.length : Int) t245 _ A4.out).mono ?_); rintro e w9 ⟨rfl, hb⟩; refine ⟨_, rfl, ?_⟩; replace HB := Aside0.mk (below_step (bt) hb); (try clear hb); (try clear hb2); (try clear hk); (try clear hi)) | ((with_reducible refine gate_callee (f := 46) rfl ?_); refine goesL_ (some 16) rfl rfl Try.func46 (by kernel_rfl) rfl #[.slice A2 l2.length c2] rfl av ?_; (with_reducible refine (bytes_Clone.calls _ _ l2 t246 _ ?side1 ?side2 A5.out).mono ?_); (case side1 => exact cv ((Kd.C_below HR2.out HB.out))); (case side2 => exact HC2.out); rintro e w10 ⟨v247, rfl, ho0, hb⟩; refine ⟨_, rfl, ?_⟩; have HO248 := Aside0.mk (Kd.R_lower ho0 (below_size (bt))); replace HB := Aside0.mk (below_step (bt) hb); (try clear hb); (try clear hb2); (try clear hk); (try clear hi); (try clear ho0)) | (at_builtin; refine Kd.R_append_zeros (Kd.int .u8) (w0 := w) w.heap.size rfl (.tmp 16) (.tmp 22) 24 3 5 (.int .u8 0) 1 rfl Try.underlying24 Try.underlying3 info5 rfl (by decide) (by omega) v247 t246 0 (ji6 : Int) (fun _ => True) rfl rfl rfl ?aF ?aO (of_decide_eq_true asm) ?aB ?aS ?aL ?_; (case aB => exact (bt)); (case aF => exact (fun _ _ => trivial)); (case aO => exact (mv HO248.out)); (case aS => exact (below_size (bt))); (case aL => have := LMc8.out; omega); intro v250 w11 ho hb hg hat; rw [← Ny249.out] at ho; replace HB := Aside0.mk (hb); have HO251 := Aside0.mk (ho); clear HO248; clear ho hb hg hat) | ((with_reducible refine gate_dst (N := 24) rfl ?_); refine Kd.S_lit (Kd.slice 5 (Kd.int .u8)) _ 24 ?hg (N := 24) ?hd (xs := ([] : List (List Int))) (inner := []) (ok := fun _ => True) (okp := fun _ => True) ?hr ?hp (fun _ hk => hk) trivial (Below.refl _ _) (Nat.le_refl _) (by simp) ?_; (case hd => rfl); (case hg => rfl); (case hr => first | (go_simp; done) | (go_simp; rfl)); (case hp => exact (Reps.none _ _)); intro v253 w12 ho13 hb hg_ hnew_; clear hg_ hnew_; (first | rw [← Ny252.out] at ho13 | (simp only [Int.reduceToNat] at ho13; rw [← Ny252.out] at ho13)); have HO254 := Aside0.mk (Kd.S_lower (Kd.S_new' ho13 (Kd.R_lt (mv HO251.out))) (below_size (bt))); replace HO251 := Aside0.mk (Kd.R_below (mv HO251.out) hb); replace HB := Aside0.mk (below_step (bt) hb); clear hb ho13))
   go_loopg [9, 26] k (fun kq v9 v26 w' => ∃ (x9_1 : List (List Int)) (x26_1 : Int), v26 = .int .i64 x26_1 ∧ Aside0 (impl_encode.l0 kq a0 t245 y249 x9_1 a1 x26_1 = some r) ∧ Aside0 (kq ≤ k) ∧ Aside0 (Kd.R (Kd.int .u8) 5 w' w.heap.size (fun _ => True) v250 y249) ∧ Aside0 (Kd.S (Kd.slice 5 (Kd.int .u8)) 24 w' w.heap.size (fun k_ => some k_ ≠ (v250 : Value).ownBlock) v9 x9_1) ∧ Aside0 (Below w.heap.size w w'))
   case atStart => exact ⟨(y252), (0), (by first | rfl | (simp; done) | (simp [*]; done)), H', ⟨Nat.le_refl _⟩, ⟨mv HO251.out⟩, ⟨by (with_reducible repeat (first | apply Kd.S_alloc | apply Kd.S_drewN | apply Kd.S_drew)); exact Kd.S_mono HO254.out (fun _ hk => hk.2)⟩, ⟨bt⟩⟩
   case round =>
    clear H'
    try clear c2
    try clear p2
    try clear c4
    try clear c6
    try clear p6
    try clear c7
    try clear c7b0
    try clear c7b1
    try clear c8
    obtain ⟨x9_1, x26_1, rfl, HA, HK1, HO_8, HO_9, HB⟩ := hrel
    cases gk with
    | zero => exact absurd HA.out (by simp [impl_encode.l0])
    | succ k1 =>
     have H := HA.out
     clear HA
     simp only [impl_encode.l0] at H
     by_cases c14 : x26_1 < a1
     ·rw [if_pos c14] at H
      have c14b0 : decide (x26_1 < a1) = true := decide_eq_true c14
      clear c14
      by_cases c15 : x26_1 < a0
      ·rw [if_pos c15] at H
       have c15b0 : decide (x26_1 < a0) = true := decide_eq_true c15
       clear c15
       obtain ⟨ji16, hji16⟩ : ∃ j_ : Int, (wrap64 (x26_1 * t245)) = j_ := ⟨_, rfl⟩
       replace H : (if 0 ≤ (ji16) then (if (ji16) ≤ (wrap64 ((wrap64 (x26_1 + 1)) * t245)) then (if (wrap64 ((wrap64 (x26_1 + 1)) * t245)) ≤ (y249.length : Int) then ((bytes_Clone.f ((y249.take ((wrap64 ((wrap64 (x26_1 + 1)) * t245)) : Int).toNat).drop ((ji16) : Int).toNat)).bind fun t259 => (if x9_1.length < 5864062014805 then (impl_encode.l0 k1 a0 t245 y249 (x9_1 ++ [t259]) a1 (wrap64 (x26_1 + 1))) else (none))) else (none)) else (none)) else (none)) = some r := by first | (rw [hji16] at H; exact H) | (simp only [hji16] at H ⊢; exact H)
       have hji16w : (IntKind.i64.wrap (x26_1 * t245)) = ji16 := (i64_w _).trans hji16
       by_cases c17 : 0 ≤ (ji16)
       ·rw [if_pos c17] at H
        have c17b0 := eq_true c17
        have c17b1 : decide (0 ≤ (ji16)) = true := decide_eq_true c17
        clear c17
        by_cases c18 : (ji16) ≤ (wrap64 ((wrap64 (x26_1 + 1)) * t245))
        ·rw [if_pos c18] at H
         have c18b0 := eq_true c18
         have c18b1 : decide ((ji16) ≤ (wrap64 ((wrap64 (x26_1 + 1)) * t245))) = true := decide_eq_true c18
         by_cases c19 : (wrap64 ((wrap64 (x26_1 + 1)) * t245)) ≤ (y249.length : Int)
         ·rw [if_pos c19] at H
          have c19b0 := eq_true c19
          have c19b1 : decide ((wrap64 ((wrap64 (x26_1 + 1)) * t245)) ≤ (y249.length : Int)) = true := decide_eq_true c19
          obtain ⟨y255, hy255⟩ : ∃ y_ : List Int, y_ = ((y249.take ((wrap64 ((wrap64 (x26_1 + 1)) * t245)) : Int).toNat).drop ((ji16) : Int).toNat) := ⟨_, rfl⟩
          replace H : ((bytes_Clone.f y255).bind fun t259 => (if x9_1.length < 5864062014805 then (impl_encode.l0 k1 a0 t245 y249 (x9_1 ++ [t259]) a1 (wrap64 (x26_1 + 1))) else (none))) = some r := by first | (rw [hy255]; exact H) | exact H
          have Ny255 := Aside0.mk hy255
          clear hy255
          replace H := Option.bind_eq_some_iff.mp H
          obtain ⟨t259, A200, H⟩ := H
          (try dsimp -simprocs only at H)
          have A20 := Aside0.mk A200
          clear A200
          by_cases c21 : x9_1.length < 5864062014805
          ·rw [if_pos c21] at H
           have LMc21 := Aside0.mk c21
           clear c21
           obtain ⟨y262, hy262⟩ : ∃ y_ : List (List Int), y_ = (x9_1 ++ [t259]) := ⟨_, rfl⟩
           replace H : (impl_encode.l0 k1 a0 t245 y249 y262 a1 (wrap64 (x26_1 + 1))) = some r := by first | (rw [hy262]; exact H) | exact H
           have Ny262 := Aside0.mk hy262
           clear hy262
           have H' := Aside0.mk H
           clear H
           obtain ⟨Ao23, co23, eo23⟩ := Kd.R_slice HO_8.out
           subst eo23
           have q22 : ((wrap64 ((wrap64 (x26_1 + 1)) * t245)) : Int) ≤ ((y249.length : Int) : Int) := of_decide_eq_true asm
           obtain ⟨i022, hi022, _, hsz22, _⟩ := info_parts info5
           have hroom22 : y249.length ≤ co23 := (Kd.R_reads' HO_8.out).2.1
           have hC22 : Kd.C (Kd.int .u8) _ Ao23 y249.length y249 := (Kd.R_reads' HO_8.out).2.2
           have ql22 : ((ji16) : Int) ≤ ((wrap64 ((wrap64 (x26_1 + 1)) * t245)) : Int) := of_decide_eq_true asm
           have q022 : (0 : Int) ≤ ((ji16) : Int) := of_decide_eq_true asm
           have hcut22 := cut_mid (P := Try.prog) 24 5 .i64 .i64 Try.underlying24 hi022 1 hsz22 Ao23 y249.length co23 (ji16) (wrap64 ((wrap64 (x26_1 + 1)) * t245)) q022 ql22 q22 hroom22
           have hr22 := Kd.C_mid (lo := ((ji16) : Int).toNat) (hi := ((wrap64 ((wrap64 (x26_1 + 1)) * t245)) : Int).toNat) (c := co23) hC22 (by omega) (by omega) hroom22
           obtain ⟨A22, hA22⟩ : ∃ A1, A1 = (if co23 = ((ji16) : Int).toNat then Ao23 else (Ao23 : Option Addr).map (·.add (((ji16) : Int).toNat * 1))) := ⟨_, rfl⟩
           obtain ⟨c22, hc22⟩ : ∃ c1, c1 = co23 - ((ji16) : Int).toNat := ⟨_, rfl⟩
           have hy22 : y255.length = ((wrap64 ((wrap64 (x26_1 + 1)) * t245)) : Int).toNat - ((ji16) : Int).toNat := (by rw [Ny255.out, List.length_drop, List.length_take] <;> omega)
           rw [show ((y249).take ((wrap64 ((wrap64 (x26_1 + 1)) * t245)) : Int).toNat).drop ((ji16) : Int).toNat = y255 from Ny255.out.symm] at hr22
           replace hr22 : Kd.C (Kd.int .u8) _ A22 y255.length y255 := (by rw [hA22]; exact hr22)
           rw [← hy22, ← hA22, ← hc22] at hcut22
           have HR258 := Aside0.mk hr22
           have HC258 := Aside0.mk (show y255.length ≤ c22 from by rw [hy22, hc22]; exact Nat.sub_le_sub_right (Nat.le_trans (by omega) hroom22) _)
           clear hr22 hC22 hroom22 hi022 hsz22 hc22
           have KY22 := Aside0.mk hy22
           have KA22 := Aside0.mk hA22
           clear hy22 hA22
           have KL22 := Aside0.mk (show ((wrap64 ((wrap64 (x26_1 + 1)) * t245)) : Int).toNat ≤ y249.length from by omega)
           have KM22 := Aside0.mk (show ((ji16) : Int).toNat ≤ ((wrap64 ((wrap64 (x26_1 + 1)) * t245)) : Int).toNat from by omega)
           replace q22 := eq_true q22
           go_wp2_with (first | ((with_reducible refine gate_callee (f := 46) rfl ?_); refine goesL_ (some 42) rfl rfl Try.func46 (by kernel_rfl) rfl #[.slice A22 y255.length c22] rfl av ?_; (with_reducible refine (bytes_Clone.calls _ _ y255 t259 _ ?side1 ?side2 A20.out).mono ?_); (case side1 => repeat (first | exact (by repeat (first | (with_reducible exact HR258.out) | (with_reducible refine Kd.C_alloc ?_ _) | (with_reducible refine Kd.C_drewN ?_ _) | (with_reducible refine Kd.C_drew ?_) | exact HR258.out)) | (with_reducible refine Kd.C_alloc ?_ _) | (with_reducible refine Kd.C_drewN ?_ _) | (with_reducible refine Kd.C_drew ?_))); (case side2 => exact HC258.out); rintro e w24 ⟨v260, rfl, ho0, hb⟩; refine ⟨_, rfl, ?_⟩; replace HO_9 := Aside0.mk (Kd.S_elder' (mv HO_9.out) (Kd.R_base ho0) hb); have HO261 := Aside0.mk (Kd.R_lower (Kd.R_new' ho0 (Kd.R_lt (mv HO_8.out))) (below_size (bt))); replace HO_8 := Aside0.mk (Kd.R_elder' (mv HO_8.out) (Kd.R_base ho0) hb); replace HR258 := Aside0.mk (Kd.C_below (by repeat (first | (with_reducible exact HR258.out) | (with_reducible refine Kd.C_alloc ?_ _) | (with_reducible refine Kd.C_drewN ?_ _) | (with_reducible refine Kd.C_drew ?_) | exact HR258.out)) hb); replace HB := Aside0.mk (below_step (bt) hb); (try clear hb); (try clear hb2); (try clear hk); (try clear hi); (try clear ho0); obtain ⟨Ao26, co26, eo26⟩ := Kd.R_slice HO261.out; subst eo26) | ((with_reducible refine gate_builtin (b := .append) (xs := #[.tmp 32, .tmp 43]) rfl ?_); at_builtin; refine Kd.S_append (Kd.slice 5 (Kd.int .u8)) (w0 := w) w.heap.size rfl (.tmp 32) (.tmp 43) 22 24 (.slice none 0 0) 24 rfl Try.underlying22 info24 rfl (by decide) (by omega) u9 x9_1 t259 [.slice Ao26 t259.length co26] (fun k_ => some k_ ≠ (.slice Ao23 y249.length co23 : Value).ownBlock) (fun k_ => some k_ = (.slice Ao26 t259.length co26 : Value).ownBlock) rfl rfl ?aP (fun k_ hk_ => ((Kd.R_mono (ok' := fun k_ => ((fun k_ => some k_ ≠ (.slice Ao23 y249.length co23 : Value).ownBlock)) k_ ∧ some k_ ≠ (u9 : Value).ownBlock) (Kd.R_apart' (HO261.out) (Kd.S_typed HO_9.out) (by decide)) (fun k_ hk => ⟨hk.1.2, hk.2⟩))).1 k_ hk_.symm) ?aF ?aO ?aB ?aS ?aL ?_; (case aP => exact Kd.M_row (Kd.R_mono (Kd.R_tight rfl (Kd.R_mono (ok' := fun k_ => ((fun k_ => some k_ ≠ (.slice Ao23 y249.length co23 : Value).ownBlock)) k_ ∧ some k_ ≠ (u9 : Value).ownBlock) (Kd.R_apart' (HO261.out) (Kd.S_typed HO_9.out) (by decide)) (fun k_ hk => ⟨hk.1.2, hk.2⟩))) (fun _ h_ => h_))); (case aB => exact (bt)); (case aF => exact (fun k_ hk => Kd.fresh' (Kd.R_lt (mv HO_8.out)) k_ hk)); (case aO => exact (by (with_reducible repeat (first | apply Kd.S_alloc | apply Kd.S_drewN | apply Kd.S_drew)); exact Kd.S_mono HO_9.out (fun k_ hk => ⟨hk.1, fun e_ => hk.2 e_⟩))); (case aS => exact (below_size (bt))); (case aL => have := LMc21.out; omega); intro v263 w25 ho hb hg hat; rw [← Ny262.out] at ho; replace HB := Aside0.mk (hb); replace HR258 := Aside0.mk ((show Kd.C (Kd.int .u8) w25 A22 y255.length y255 from by rw [Ny255.out, KA22.out]; exact Kd.C_mid (lo := ((ji16) : Int).toNat) (hi := ((wrap64 ((wrap64 (x26_1 + 1)) * t245)) : Int).toNat) (c := co23) ((Kd.R_reads' (Kd.R_over' (mv HO_8.out) (Kd.S_typed (mv HO_9.out)) (by decide) hg)).2.2) KM22.out KL22.out ((Kd.R_reads' (Kd.R_over' (mv HO_8.out) (Kd.S_typed (mv HO_9.out)) (by decide) hg)).2.1))); replace HO_8 := Aside0.mk (Kd.R_over' (mv HO_8.out) (Kd.S_typed (mv HO_9.out)) (by decide) hg); have HO264 := Aside0.mk (ho); clear HO_9 HO261; clear ho hb hg hat))
           go_roundg k1
           case measure => have := HK1.out; omega
           case rel => exact ⟨(y262), (wrap64 (x26_1 + 1)), (by first | rfl | (simp; done) | (simp [*]; done)), H', ⟨by have := HK1.out; omega⟩, ⟨by (with_reducible repeat (first | apply Kd.R_alloc | apply Kd.R_drewN | apply Kd.R_drew)); exact Kd.R_mono HO_8.out (fun _ hk => trivial)⟩, ⟨mv HO264.out⟩, ⟨bt⟩⟩
          ·rw [if_neg c21] at H
           exact absurd H (by simp)
         ·rw [if_neg c19] at H
          exact absurd H (by simp)
        ·rw [if_neg c18] at H
         exact absurd H (by simp)
       ·rw [if_neg c17] at H
        exact absurd H (by simp)
      ·rw [if_neg c15] at H
       have c15b0 : decide (x26_1 < a0) = false := decide_eq_false c15
       clear c15
       replace H := Option.bind_eq_some_iff.mp H
       obtain ⟨t265, A270, H⟩ := H
       (try dsimp -simprocs only at H)
       have A27 := Aside0.mk A270
       clear A270
       by_cases c28 : 0 ≤ a0
       ·rw [if_pos c28] at H
        have c28b0 := eq_true c28
        have c28b1 : decide (0 ≤ a0) = true := decide_eq_true c28
        clear c28
        by_cases c29 : a0 ≤ (x9_1.length : Int)
        ·rw [if_pos c29] at H
         have c29b0 := eq_true c29
         have c29b1 : decide (a0 ≤ (x9_1.length : Int)) = true := decide_eq_true c29
         clear c29
         obtain ⟨y268, hy268⟩ : ∃ y_ : List (List Int), y_ = (x9_1.take (a0 : Int).toNat) := ⟨_, rfl⟩
         replace H : ((impl_byPlaces.f k1 t265 y268 ((x26_1) % 256)).bind fun t272 => (if x9_1.length < 5864062014805 then (impl_encode.l0 k1 a0 t245 y249 (x9_1 ++ [t272]) a1 (wrap64 (x26_1 + 1))) else (none))) = some r := by first | (rw [hy268]; exact H) | exact H
         have Ny268 := Aside0.mk hy268
         clear hy268
         replace H := Option.bind_eq_some_iff.mp H
         obtain ⟨t272, A300, H⟩ := H
         (try dsimp -simprocs only at H)
         have A30 := Aside0.mk A300
         clear A300
         by_cases c31 : x9_1.length < 5864062014805
         ·rw [if_pos c31] at H
          have LMc31 := Aside0.mk c31
          clear c31
          obtain ⟨y275, hy275⟩ : ∃ y_ : List (List Int), y_ = (x9_1 ++ [t272]) := ⟨_, rfl⟩
          replace H : (impl_encode.l0 k1 a0 t245 y249 y275 a1 (wrap64 (x26_1 + 1))) = some r := by first | (rw [hy275]; exact H) | exact H
          have Ny275 := Aside0.mk hy275
          clear hy275
          have H' := Aside0.mk H
          clear H
          try go_wp2
          have n0_ := Aside0.mk (Kd.R_drew HO_8.out)
          have n1_ := Aside0.mk (Kd.S_drew HO_9.out)
          have n2_ := Aside0.mk (below_drew1 HB.out)
          clear HO_8
          clear HO_9
          clear HB
          have HO_8 := n0_
          have HO_9 := n1_
          have HB := n2_
          clear n0_ n1_ n2_
          obtain ⟨Ao34, co34, eo34⟩ := Kd.S_slice HO_9.out
          (first | subst eo34 | (injection eo34 with f1_ f2_ f3_; have f4_ := f1_.symm; have f5_ := f3_.symm; clear f1_ f2_ f3_; subst f4_; subst f5_))
          have q33 : (a0 : Int) ≤ ((x9_1.length : Int) : Int) := of_decide_eq_true asm
          obtain ⟨i033, hi033, _, hsz33, _⟩ := info_parts info24
          have hroom33 : x9_1.length ≤ co34 := (Kd.S_reads' HO_9.out).2.1
          have hC33 : Kd.C (Kd.slice 5 (Kd.int .u8)) _ Ao34 x9_1.length x9_1 := (Kd.S_reads' HO_9.out).2.2
          have hcut33 := cut_to (P := Try.prog) 22 24 .i64 Try.underlying22 hi033 Ao34 x9_1.length co34 a0 (of_decide_eq_true asm) q33 hroom33
          have hr33 := Kd.C_take (m := (a0 : Int).toNat) hC33 (by omega)
          have hy33 : y268.length = (a0 : Int).toNat := (by rw [Ny268.out, List.length_take]; omega)
          rw [← Ny268.out] at hr33
          rw [← hy33] at hcut33
          have HR271 := Aside0.mk hr33
          have HC271 := Aside0.mk (show y268.length ≤ co34 from by omega)
          clear hr33 hC33 hroom33 hi033 hsz33
          have KY33 := Aside0.mk hy33
          clear hy33
          have KL33 := Aside0.mk (show (a0 : Int).toNat ≤ x9_1.length from by omega)
          replace q33 := eq_true q33
          refine start_ (n := 12) (S := fun w' => True) (ds := []) #[false, false, false, false, false, false, false, false, false, false, false, false] (by kernel_rfl) rfl rfl trivial (fun hHeld => ?_); refine with_tabW impl_encode.tab9 impl_encode.bits9 (fun HT_ HW_ => ?_)
          generalize wr.drew = w32 at HO_8 HO_9 HB HR271 hHeld ⊢
          refine pz (i := 0) (N := some 45) #[true, false, false, false, false, false, false, false, false, false, false, false] rfl rfl HT_.out ?_
          refine pz (i := 1) (N := some 46) #[true, true, false, false, false, false, false, false, false, false, false, false] rfl rfl HT_.out ?_
          refine pz (i := 3) (N := some 48) #[true, true, false, true, false, false, false, false, false, false, false, false] rfl rfl HT_.out ?_
          refine pz (i := 4) (N := some 49) #[true, true, false, true, true, false, false, false, false, false, false, false] rfl rfl HT_.out ?_
          refine pz (i := 5) (N := some 50) #[true, true, false, true, true, true, false, false, false, false, false, false] rfl rfl HT_.out ?_
          refine pz (i := 6) (N := some 51) #[true, true, false, true, true, true, true, false, false, false, false, false] rfl rfl HT_.out ?_
          refine pz (i := 7) (N := some 52) #[true, true, false, true, true, true, true, true, false, false, false, false] rfl rfl HT_.out ?_
          refine one_ (i := 2) (N := some 47) #[true, true, true, true, true, true, true, true, false, false, false, false] rfl rfl (one_of HT_.out (by kernel_rfl)) (by decide) (fun K hK => ?_)
          refine goes_ Try.func87 (by kernel_rfl) rfl #[.int .i64 a0] (by rfl) rfl rfl av ?_
          with_reducible refine (impl_firstPlaces.calls k1 a0 t265 _ A27.out).mono ?_
          rintro e w35 ⟨v266, rfl, ho0, hb⟩
          refine ⟨_, rfl, ?_⟩
          have n0_ := Aside0.mk (Kd.R_elder' (mv HO_8.out) (Kd.R_base ho0) hb)
          have n1_ := Aside0.mk (Kd.S_elder' (mv HO_9.out) (Kd.R_base ho0) hb)
          have n2_ := Aside0.mk (Kd.R_lower (Kd.R_new' ho0 (Kd.R_lt (mv HO_8.out))) (below_size (bt)))
          have n3_ := Aside0.mk (Kd.C_below (by repeat (first | (with_reducible exact HR271.out) | (with_reducible refine Kd.C_alloc ?_ _) | (with_reducible refine Kd.C_drewN ?_ _) | (with_reducible refine Kd.C_drew ?_) | exact HR271.out)) hb)
          have n4_ := Aside0.mk (below_step (bt) hb)
          clear HO_8
          clear HO_9
          clear HR271
          clear HB
          have HO_8 := n0_
          have HO_9 := n1_
          have HO267 := n2_
          have HR271 := n3_
          have HB := n4_
          clear n0_ n1_ n2_ n3_ n4_
          (try clear hb)
          (try clear hb2)
          (try clear hk)
          (try clear hi)
          (try clear ho0)
          obtain ⟨Ao36, co36, eo36⟩ := Kd.R_slice HO267.out
          (first | subst eo36 | (injection eo36 with f1_ f2_ f3_; have f4_ := f1_.symm; have f5_ := f3_.symm; clear f1_ f2_ f3_; subst f4_; subst f5_))
          refine hK.out _ _ trivial (fun hHeld => ?_)
          clear hK K
          refine nz (N := some 47) ?_
          refine one_ (i := 8) (N := some 53) #[true, true, true, true, true, true, true, true, true, false, false, false] rfl rfl (one_of HT_.out (by kernel_rfl)) (by decide) (fun K hK => ?_)
          refine goes_ Try.func86 (by kernel_rfl) rfl #[.slice Ao36 t265.length co36, .slice Ao34 y268.length co34, .int .u8 ((x26_1) % 256)] (by rfl) rfl rfl av ?_
          with_reducible refine (impl_byPlaces.calls k1 _ _ t265 _ _ y268 ((x26_1) % 256) t272 _ ?side1 ?side2 ?side3 ?side4 A30.out).mono ?_
          (case side1 => exact cv ((Kd.R_reads' HO267.out).2.2))
          (case side2 => exact (Kd.R_reads' HO267.out).2.1)
          (case side3 => repeat (first | exact (by repeat (first | (with_reducible exact HR271.out) | (with_reducible refine Kd.C_alloc ?_ _) | (with_reducible refine Kd.C_drewN ?_ _) | (with_reducible refine Kd.C_drew ?_) | exact HR271.out)) | (with_reducible refine Kd.C_alloc ?_ _) | (with_reducible refine Kd.C_drewN ?_ _) | (with_reducible refine Kd.C_drew ?_)))
          (case side4 => exact HC271.out)
          rintro e w37 ⟨v273, rfl, ho0, hb⟩
          refine ⟨_, rfl, ?_⟩
          have n0_ := Aside0.mk (Kd.R_elder' (mv HO_8.out) (Kd.R_base ho0) hb)
          have n1_ := Aside0.mk (Kd.S_elder' (mv HO_9.out) (Kd.R_base ho0) hb)
          have n2_ := Aside0.mk (Kd.R_elder' (mv HO267.out) (Kd.R_base ho0) hb)
          have n3_ := Aside0.mk (Kd.R_lower (Kd.R_new' (Kd.R_new' ho0 (Kd.R_lt (mv HO_8.out))) (Kd.R_lt (mv HO267.out))) (below_size (bt)))
          have n4_ := Aside0.mk (Kd.C_below (by repeat (first | (with_reducible exact HR271.out) | (with_reducible refine Kd.C_alloc ?_ _) | (with_reducible refine Kd.C_drewN ?_ _) | (with_reducible refine Kd.C_drew ?_) | exact HR271.out)) hb)
          have n5_ := Aside0.mk (below_step (bt) hb)
          clear HO_8
          clear HO_9
          clear HO267
          clear HR271
          clear HB
          have HO_8 := n0_
          have HO_9 := n1_
          have HO267 := n2_
          have HO274 := n3_
          have HR271 := n4_
          have HB := n5_
          clear n0_ n1_ n2_ n3_ n4_ n5_
          (try clear hb)
          (try clear hb2)
          (try clear hk)
          (try clear hi)
          (try clear ho0)
          obtain ⟨Ao39, co39, eo39⟩ := Kd.R_slice HO274.out
          (first | subst eo39 | (injection eo39 with f1_ f2_ f3_; have f4_ := f1_.symm; have f5_ := f3_.symm; clear f1_ f2_ f3_; subst f4_; subst f5_))
          refine hK.out _ _ trivial (fun hHeld => ?_)
          clear hK K
          refine nz (N := some 53) ?_
          refine one_ (i := 9) (N := some 54) #[true, true, true, true, true, true, true, true, true, true, false, false] rfl rfl (one_of HT_.out (by kernel_rfl)) (by decide) (fun K hK => ?_)
          refine value_ (w1 := ?_) (v := ?_) (by rfl) rfl ?_ ?_
          rotate_left 2
          ·go_simp
           constructor
           ·rfl
           ·rfl
          refine hK.out _ _ trivial (fun hHeld => ?_)
          clear hK K
          refine nz (N := some 54) ?_
          refine one_ (i := 10) (N := some 55) #[true, true, true, true, true, true, true, true, true, true, true, false] rfl rfl (one_of HT_.out (by kernel_rfl)) (by decide) (fun K hK => ?_)
          refine Kd.S_append_step (Kd.slice 5 (Kd.int .u8)) (w0 := w) w.heap.size (by rfl) (.tmp 45) (.tmp 54) 22 24 (.slice none 0 0) 24 rfl Try.underlying22 info24 rfl (by decide) (by omega) (.slice Ao34 x9_1.length co34) x9_1 t272 [.slice Ao39 t272.length co39] (fun k_ => some k_ ≠ (v250 : Value).ownBlock ∧ some k_ ≠ (.slice Ao36 t265.length co36 : Value).ownBlock) (fun k_ => some k_ = (.slice Ao39 t272.length co39 : Value).ownBlock) rfl rfl ?aP (fun k_ hk_ => ((Kd.R_mono (ok' := fun k_ => ((fun k_ => some k_ ≠ (v250 : Value).ownBlock ∧ some k_ ≠ (.slice Ao36 t265.length co36 : Value).ownBlock)) k_ ∧ some k_ ≠ (.slice Ao34 x9_1.length co34 : Value).ownBlock) (Kd.R_apart' (HO274.out) (Kd.S_typed HO_9.out) (by decide)) (fun k_ hk => ⟨⟨hk.1.1.2, hk.1.2⟩, hk.2⟩))).1 k_ hk_.symm) ?aF ?aO ?aB ?aS ?aL ?_
          (case aP => exact Kd.M_row (Kd.R_mono (Kd.R_tight rfl (Kd.R_mono (ok' := fun k_ => ((fun k_ => some k_ ≠ (v250 : Value).ownBlock ∧ some k_ ≠ (.slice Ao36 t265.length co36 : Value).ownBlock)) k_ ∧ some k_ ≠ (.slice Ao34 x9_1.length co34 : Value).ownBlock) (Kd.R_apart' (HO274.out) (Kd.S_typed HO_9.out) (by decide)) (fun k_ hk => ⟨⟨hk.1.1.2, hk.1.2⟩, hk.2⟩))) (fun _ h_ => h_)))
          (case aB => exact (bt))
          (case aF => exact (fun k_ hk => ⟨Kd.fresh' (Kd.R_lt (mv HO_8.out)) k_ hk, Kd.fresh' (Kd.R_lt (mv HO267.out)) k_ hk⟩))
          (case aO => exact (by (with_reducible repeat (first | apply Kd.S_alloc | apply Kd.S_drewN | apply Kd.S_drew)); exact Kd.S_mono HO_9.out (fun k_ hk => ⟨⟨hk.1.1, hk.1.2⟩, fun e_ => hk.2 e_⟩)))
          (case aS => exact (below_size (bt)))
          (case aL => have := LMc31.out; omega)
          intro v276 w38 ho hb hg hat
          rw [← Ny275.out] at ho
          have n0_ := Aside0.mk (Kd.R_over' (mv HO_8.out) (Kd.S_typed (mv HO_9.out)) (by decide) hg)
          have n1_ := Aside0.mk (Kd.R_over' (mv HO267.out) (Kd.S_typed (mv HO_9.out)) (by decide) hg)
          have n2_ := Aside0.mk (hb)
          have n3_ := Aside0.mk (ho)
          clear HO_8
          clear HO267
          clear HB
          clear HO_9
          clear HO274
          have HO_8 := n0_
          have HO267 := n1_
          have HB := n2_
          have HO277 := n3_
          clear n0_ n1_ n2_ n3_
          clear ho hb hg hat
          refine hK.out _ _ trivial (fun hHeld => ?_)
          clear hK K
          refine nz (N := some 55) ?_
          refine pz (i := 11) (N := some 9) #[true, true, true, true, true, true, true, true, true, true, true, true] rfl rfl HT_.out ?_
          refine done_ (done_of HT_.out (by kernel_rfl)) ?_
          (try simp only [Dig.setCell_drewN])
          try go_wp2
          go_roundg k1
          case measure => have := HK1.out; omega
          case rel => exact ⟨(y275), (wrap64 (x26_1 + 1)), (by first | rfl | (simp; done) | (simp [*]; done)), H', ⟨by have := HK1.out; omega⟩, ⟨by (with_reducible repeat (first | apply Kd.R_alloc | apply Kd.R_drewN | apply Kd.R_drew)); exact Kd.R_mono HO_8.out (fun _ hk => trivial)⟩, ⟨by (with_reducible repeat (first | apply Kd.S_alloc | apply Kd.S_drewN | apply Kd.S_drew)); exact Kd.S_mono HO277.out (fun _ hk => hk.1)⟩, ⟨bt⟩⟩
         ·rw [if_neg c31] at H
          exact absurd H (by simp)
        ·rw [if_neg c29] at H
         exact absurd H (by simp)
       ·rw [if_neg c28] at H
        exact absurd H (by simp)
     ·rw [if_neg c14] at H
      have c14b0 : decide (x26_1 < a1) = false := decide_eq_false c14
      clear c14
      obtain rfl := Option.some.inj H
      go_wp2
      go_ret
      exact ⟨_, by first | rfl | (simp [errW_none, errW_some] <;> rfl) | (simp only [← hji6]; first | rfl | (simp [errW_none, errW_some] <;> rfl)) | (simp [*, errW_none, errW_some] <;> rfl), by (with_reducible repeat (first | apply Kd.S_alloc | apply Kd.S_drewN | apply Kd.S_drew)); exact Kd.S_mono HO_9.out (fun _ hk => trivial), bt⟩
  ·rw [if_neg c8] at H
   exact absurd H (by simp)
 ·rw [if_neg c7] at H
  exact absurd H (by simp)

/-! ### slices_Index_int_int: function 91 -/
def slices_Index_int_int.l0 : Nat → List Int → Int → Int → Int → Option (Int)
 | 0, _, _, _, _ => none
 | k + 1, x0, x1, x7, x8 => if x8 < x7 then (if 0 ≤ x8 then (if x8 < (x0.length : Int) then (if x1 = (rd x0 x8) then (some x8) else (slices_Index_int_int.l0 k x0 x1 x7 (wrap64 (x8 + 1)))) else (none)) else (none)) else (some (-1))
def slices_Index_int_int.f (k : Nat) (l0 : List Int) (a1 : Int) : Option (Int) := slices_Index_int_int.l0 k l0 a1 (l0.length : Int) 0
set_option maxHeartbeats 8000000 in
set_option maxRecDepth 100000 in
theorem slices_Index_int_int.calls (k : Nat) (A0 : Option Addr) (c0 : Nat) (l0 : List Int) (a1 : Int) (r : Int) (w : World) (hr0 : Kd.C (Kd.int .i64) w A0 l0.length l0) (hc0 : l0.length ≤ c0) (h : slices_Index_int_int.f k l0 a1 = some r) :
  Calls Try.prog 91 #[.slice A0 l0.length c0, .int .i64 a1] w fun e w' => e = .returned (.int .i64 r) ∧ Drawn0 w w' := by
 have HR0 := Aside0.mk hr0
 have HC0 := Aside0.mk hc0
 clear hr0 hc0
 have H : (slices_Index_int_int.l0 k l0 a1 (l0.length : Int) 0) = some r := h
 clear h
 have H' := Aside0.mk H
 clear H
 go_enter Try.func91, Try.ntmps91
 go_wp2
 go_loopg [8] k (fun kq v8 w' => ∃ (x8_1 : Int), v8 = .int .i64 x8_1 ∧ Aside0 (slices_Index_int_int.l0 kq l0 a1 (l0.length : Int) x8_1 = some r) ∧ Aside0 (kq ≤ k) ∧ Drawn0 w w')
 case atStart => exact ⟨(0), (by first | rfl | (simp; done) | (simp [*]; done)), H', ⟨Nat.le_refl _⟩, by repeat (first | exact Drawn0.refl _ | apply Drawn0.step)⟩
 case round =>
  clear H'
  try clear p2
  obtain ⟨x8_1, rfl, HA, HK1, ⟨m1, rfl⟩⟩ := hrel
  cases gk with
  | zero => exact absurd HA.out (by simp [slices_Index_int_int.l0])
  | succ k1 =>
   have H := HA.out
   clear HA
   simp only [slices_Index_int_int.l0] at H
   by_cases c3 : x8_1 < (l0.length : Int)
   ·rw [if_pos c3] at H
    have c3b0 : decide (x8_1 < (l0.length : Int)) = true := decide_eq_true c3
    clear c3
    by_cases c4 : 0 ≤ x8_1
    ·rw [if_pos c4] at H
     have c4b0 : decide (0 ≤ x8_1) = true := decide_eq_true c4
     clear c4
     by_cases c5 : x8_1 < (l0.length : Int)
     ·rw [if_pos c5] at H
      have c5b0 : decide (x8_1 < (l0.length : Int)) = true := decide_eq_true c5
      clear c5
      by_cases c6 : a1 = (rd l0 x8_1)
      ·rw [if_pos c6] at H
       have c6b0 : (a1 == (rd l0 x8_1)) = true := beq_iff_eq.mpr c6
       have c6b1 : (a1 != (rd l0 x8_1)) = false := bne_eq_false_iff_eq.mpr c6
       clear c6
       obtain rfl := Option.some.inj H
       have p278 : 0 ≤ (x8_1 : Int) := of_decide_eq_true asm
       have q278 : x8_1 < (l0.length : Int) := of_decide_eq_true asm
       obtain ⟨ad278, e278, hx278_0⟩ := Kd.at_int HR0.out x8_1 p278 q278
       cases e278
       replace p278 := eq_true p278
       replace q278 := eq_true q278
       go_wp2
       go_ret
       exact ⟨by first | rfl | (simp; done) | (simp [*]; done), by repeat (first | exact Drawn0.refl _ | apply Drawn0.step)⟩
      ·rw [if_neg c6] at H
       have c6b0 : (a1 == (rd l0 x8_1)) = false := beq_eq_false_iff_ne.mpr c6
       have c6b1 : (a1 != (rd l0 x8_1)) = true := bne_iff_ne.mpr c6
       have H' := Aside0.mk H
       clear H
       have p278 : 0 ≤ (x8_1 : Int) := of_decide_eq_true asm
       have q278 : x8_1 < (l0.length : Int) := of_decide_eq_true asm
       obtain ⟨ad278, e278, hx278_0⟩ := Kd.at_int HR0.out x8_1 p278 q278
       cases e278
       replace p278 := eq_true p278
       replace q278 := eq_true q278
       go_wp2
       go_roundg k1
       case measure => have := HK1.out; omega
       case rel => exact ⟨(wrap64 (x8_1 + 1)), (by first | rfl | (simp; done) | (simp [*]; done)), H', ⟨by have := HK1.out; omega⟩, by repeat (first | exact Drawn0.refl _ | apply Drawn0.step)⟩
     ·rw [if_neg c5] at H
      exact absurd H (by simp)
    ·rw [if_neg c4] at H
     exact absurd H (by simp)
   ·rw [if_neg c3] at H
    have c3b0 : decide (x8_1 < (l0.length : Int)) = false := decide_eq_false c3
    clear c3
    obtain rfl := Option.some.inj H
    go_wp2
    go_ret
    exact ⟨by first | rfl | (simp; done) | (simp [*]; done), by repeat (first | exact Drawn0.refl _ | apply Drawn0.step)⟩

/-! ### slices_Contains_int_int: function 79 -/
def slices_Contains_int_int.f (k : Nat) (l0 : List Int) (a1 : Int) : Option (Bool) := (slices_Index_int_int.f k l0 a1).bind fun t279 => (some (decide (t279 ≥ 0)))
set_option maxHeartbeats 8000000 in
set_option maxRecDepth 100000 in
theorem slices_Contains_int_int.calls (k : Nat) (A0 : Option Addr) (c0 : Nat) (l0 : List Int) (a1 : Int) (r : Bool) (w : World) (hr0 : Kd.C (Kd.int .i64) w A0 l0.length l0) (hc0 : l0.length ≤ c0) (h : slices_Contains_int_int.f k l0 a1 = some r) :
  Calls Try.prog 79 #[.slice A0 l0.length c0, .int .i64 a1] w fun e w' => e = .returned (.bool r) ∧ Drawn0 w w' := by
 have HR0 := Aside0.mk hr0
 have HC0 := Aside0.mk hc0
 clear hr0 hc0
 have H : ((slices_Index_int_int.f k l0 a1).bind fun t279 => (some (decide (t279 ≥ 0)))) = some r := h
 clear h
 replace H := Option.bind_eq_some_iff.mp H
 obtain ⟨t279, A30, H⟩ := H
 (try dsimp -simprocs only at H)
 have A3 := Aside0.mk A30
 clear A30
 obtain rfl := Option.some.inj H
 go_enter Try.func79, Try.ntmps79
 go_wp2_with (first | ((with_reducible refine gate_callee (f := 91) rfl ?_); refine goesL_ (some 7) rfl rfl Try.func91 (by kernel_rfl) rfl #[.slice A0 l0.length c0, .int .i64 a1] rfl av ?_; (with_reducible refine (slices_Index_int_int.calls k _ _ l0 a1 t279 _ ?side1 ?side2 A3.out).mono ?_); (case side1 => exact cv (HR0.out)); (case side2 => exact HC0.out); rintro e w' ⟨rfl, ⟨nd, rfl⟩⟩; refine ⟨_, rfl, ?_⟩))
 go_ret
 exact ⟨by first | rfl | (simp; done) | (simp [*]; done), by repeat (first | exact Drawn0.refl _ | apply Drawn0.step)⟩

end Go.Proofs.Ythaoloacbbohlaa.PFnExactRecheck
